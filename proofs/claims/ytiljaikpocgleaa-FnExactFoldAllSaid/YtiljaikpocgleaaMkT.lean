/- the table of the marking helpers -/
import Derived.Test.YtiljaikpocgleaaClT
import Derived.Test.YtiljaikpocgleaaDa4
namespace Go.Vm
set_option linter.unusedVariables false
noncomputable section
noncomputable def ET51 : Env := EE Go.Proofs.Try.prog md0 (fun _ => .own) TL51
noncomputable def TL52 : List (Nat × GFn) := (57, gMkS [kB]) :: TL51
noncomputable def ET52 : Env := EE Go.Proofs.Try.prog md0 (fun _ => .own) TL52
noncomputable def TL53 : List (Nat × GFn) := (26, gMkS kAggT) :: TL52
noncomputable def ET53 : Env := EE Go.Proofs.Try.prog md0 (fun _ => .own) TL53
noncomputable def TL54 : List (Nat × GFn) := (17, gMkS kFrame) :: TL53
noncomputable def ET54 : Env := EE Go.Proofs.Try.prog md0 (fun _ => .own) TL54
noncomputable def TL55 : List (Nat × GFn) := (27, gHeS kAggT) :: TL54
noncomputable def ET55 : Env := EE Go.Proofs.Try.prog md0 (fun _ => .own) TL55
noncomputable def TL56 : List (Nat × GFn) := (18, gHeS kFrame) :: TL55

end
end Go.Vm
