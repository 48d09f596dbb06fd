/- the table of the marking helpers -/
import Derived.Test.YtopemdjgbaonmaaGreatOkT
import Derived.Test.YtopemdjgbaonmaaGreatDa4
namespace Go.Vm
set_option linter.unusedVariables false
noncomputable section
noncomputable def ET92 : Env := EE Go.Proofs.Tryz.prog md0 (fun _ => .own) TL92
noncomputable def TL93 : List (Nat × GFn) := (51, gMkS [kB]) :: TL92
noncomputable def ET93 : Env := EE Go.Proofs.Tryz.prog md0 (fun _ => .own) TL93
noncomputable def TL94 : List (Nat × GFn) := (50, gMkS [kI]) :: TL93
noncomputable def ET94 : Env := EE Go.Proofs.Tryz.prog md0 (fun _ => .own) TL94
noncomputable def TL95 : List (Nat × GFn) := (49, gMkS kAggT) :: TL94
noncomputable def ET95 : Env := EE Go.Proofs.Tryz.prog md0 (fun _ => .own) TL95
noncomputable def TL96 : List (Nat × GFn) := (46, gMkS kMsg) :: TL95
noncomputable def ET96 : Env := EE Go.Proofs.Tryz.prog md0 (fun _ => .own) TL96
noncomputable def TL97 : List (Nat × GFn) := (47, gMkS [.sl kMsg]) :: TL96
noncomputable def ET97 : Env := EE Go.Proofs.Tryz.prog md0 (fun _ => .own) TL97
noncomputable def TL98 : List (Nat × GFn) := (45, gMkS kConn) :: TL97
noncomputable def ET98 : Env := EE Go.Proofs.Tryz.prog md0 (fun _ => .own) TL98
noncomputable def TL99 : List (Nat × GFn) := (48, gMkS kShard) :: TL98
noncomputable def ET99 : Env := EE Go.Proofs.Tryz.prog md0 (fun _ => .own) TL99
noncomputable def TL100 : List (Nat × GFn) := (12, gMkE kEngine) :: TL99
noncomputable def ET100 : Env := EE Go.Proofs.Tryz.prog md0 (fun _ => .own) TL100
noncomputable def TL101 : List (Nat × GFn) := (52, gHeS [kB]) :: TL100

end
end Go.Vm
