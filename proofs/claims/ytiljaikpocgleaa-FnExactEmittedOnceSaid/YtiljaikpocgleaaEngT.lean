/- the table of the data helpers -/
import Derived.Test.YtiljaikpocgleaaDa4
import Derived.Test.YtiljaikpocgleaaProg
namespace Go.Vm
set_option linter.unusedVariables false
noncomputable section
/-- the marking helpers write what they are handed -/
def md0 : FuncId → Option (List Mode) := fun f =>
 bif Nat.beq f 57 then some [.io, .bor] else
 bif Nat.beq f 26 then some [.io, .bor] else
 bif Nat.beq f 16 then some [.io, .bor] else
 bif Nat.beq f 17 then some [.io, .bor] else
 bif Nat.beq f 87 then some [.ptrR, .bor, .bor] else
 bif Nat.beq f 89 then some [.own, .bor] else
 bif Nat.beq f 147 then some [.own, .bor, .bor] else
 bif Nat.beq f 145 then some [.nl, .bor] else
 none
noncomputable def TL0 : List (Nat × GFn) := []
noncomputable def ET0 : Env := EE Go.Proofs.Try.prog md0 (fun _ => .own) TL0
noncomputable def TL1 : List (Nat × GFn) := (104, gSzS [kB]) :: TL0
noncomputable def ET1 : Env := EE Go.Proofs.Try.prog md0 (fun _ => .own) TL1
noncomputable def TL2 : List (Nat × GFn) := (19, gSzS kAggT) :: TL1
noncomputable def ET2 : Env := EE Go.Proofs.Try.prog md0 (fun _ => .own) TL2
noncomputable def TL3 : List (Nat × GFn) := (107, gToS [kB]) :: TL2
noncomputable def ET3 : Env := EE Go.Proofs.Try.prog md0 (fun _ => .own) TL3
noncomputable def TL4 : List (Nat × GFn) := (70, gToR kFrame) :: TL3
noncomputable def ET4 : Env := EE Go.Proofs.Try.prog md0 (fun _ => .own) TL4
noncomputable def TL5 : List (Nat × GFn) := (59, gToR kAggT) :: TL4
noncomputable def ET5 : Env := EE Go.Proofs.Try.prog md0 (fun _ => .own) TL5
noncomputable def TL6 : List (Nat × GFn) := (21, gToS kAggT) :: TL5
noncomputable def ET6 : Env := EE Go.Proofs.Try.prog md0 (fun _ => .own) TL6
noncomputable def TL7 : List (Nat × GFn) := (109, gEqS [kB]) :: TL6
noncomputable def ET7 : Env := EE Go.Proofs.Try.prog md0 (fun _ => .own) TL7
noncomputable def TL8 : List (Nat × GFn) := (55, gEqR kFrame) :: TL7
noncomputable def ET8 : Env := EE Go.Proofs.Try.prog md0 (fun _ => .own) TL8
noncomputable def TL9 : List (Nat × GFn) := (61, gEqR kAggT) :: TL8
noncomputable def ET9 : Env := EE Go.Proofs.Try.prog md0 (fun _ => .own) TL9
noncomputable def TL10 : List (Nat × GFn) := (23, gEqS kAggT) :: TL9

end
end Go.Vm
