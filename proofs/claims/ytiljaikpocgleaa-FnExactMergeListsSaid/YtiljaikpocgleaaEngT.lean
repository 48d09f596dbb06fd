/- the table of the data helpers -/
import Derived.Test.YtiljaikpocgleaaDa4
import Derived.Test.YtiljaikpocgleaaProg
namespace Go.Vm
set_option linter.unusedVariables false
noncomputable section
/-- the marking helpers write what they are handed -/
def md0 : FuncId → Option (List Mode) := fun f =>
 bif Nat.beq f 57 then some [.io, .bor] else
 bif Nat.beq f 26 then some [.io, .bor] else
 bif Nat.beq f 16 then some [.io, .bor] else
 bif Nat.beq f 17 then some [.io, .bor] else
 bif Nat.beq f 87 then some [.ptrR, .bor, .bor] else
 bif Nat.beq f 117 then some [.io, .bor] else
 bif Nat.beq f 89 then some [.own, .bor] else
 bif Nat.beq f 147 then some [.own, .bor, .bor] else
 bif Nat.beq f 145 then some [.nl, .bor] else
 bif Nat.beq f 118 then some [.nl, .bor] else
 none
noncomputable def TL0 : List (Nat × GFn) := []
noncomputable def ET0 : Env := EE Go.Proofs.Try.prog md0 (fun _ => .own) TL0
noncomputable def TL1 : List (Nat × GFn) := (104, gSzS [kB]) :: TL0
noncomputable def ET1 : Env := EE Go.Proofs.Try.prog md0 (fun _ => .own) TL1
noncomputable def TL2 : List (Nat × GFn) := (30, gSzS kFrame) :: TL1
noncomputable def ET2 : Env := EE Go.Proofs.Try.prog md0 (fun _ => .own) TL2
noncomputable def TL3 : List (Nat × GFn) := (49, gSzR kOp) :: TL2
noncomputable def ET3 : Env := EE Go.Proofs.Try.prog md0 (fun _ => .own) TL3
noncomputable def TL4 : List (Nat × GFn) := (10, gSzS kOp) :: TL3
noncomputable def ET4 : Env := EE Go.Proofs.Try.prog md0 (fun _ => .own) TL4
noncomputable def TL5 : List (Nat × GFn) := (19, gSzS kAggT) :: TL4
noncomputable def ET5 : Env := EE Go.Proofs.Try.prog md0 (fun _ => .own) TL5
noncomputable def TL6 : List (Nat × GFn) := (107, gToS [kB]) :: TL5
noncomputable def ET6 : Env := EE Go.Proofs.Try.prog md0 (fun _ => .own) TL6
noncomputable def TL7 : List (Nat × GFn) := (70, gToR kFrame) :: TL6
noncomputable def ET7 : Env := EE Go.Proofs.Try.prog md0 (fun _ => .own) TL7
noncomputable def TL8 : List (Nat × GFn) := (32, gToS kFrame) :: TL7
noncomputable def ET8 : Env := EE Go.Proofs.Try.prog md0 (fun _ => .own) TL8
noncomputable def TL9 : List (Nat × GFn) := (52, gToR kOp) :: TL8
noncomputable def ET9 : Env := EE Go.Proofs.Try.prog md0 (fun _ => .own) TL9
noncomputable def TL10 : List (Nat × GFn) := (12, gToS kOp) :: TL9
noncomputable def ET10 : Env := EE Go.Proofs.Try.prog md0 (fun _ => .own) TL10
noncomputable def TL11 : List (Nat × GFn) := (59, gToR kAggT) :: TL10
noncomputable def ET11 : Env := EE Go.Proofs.Try.prog md0 (fun _ => .own) TL11
noncomputable def TL12 : List (Nat × GFn) := (21, gToS kAggT) :: TL11
noncomputable def ET12 : Env := EE Go.Proofs.Try.prog md0 (fun _ => .own) TL12
noncomputable def TL13 : List (Nat × GFn) := (109, gEqS [kB]) :: TL12
noncomputable def ET13 : Env := EE Go.Proofs.Try.prog md0 (fun _ => .own) TL13
noncomputable def TL14 : List (Nat × GFn) := (55, gEqR kFrame) :: TL13
noncomputable def ET14 : Env := EE Go.Proofs.Try.prog md0 (fun _ => .own) TL14
noncomputable def TL15 : List (Nat × GFn) := (14, gEqS kFrame) :: TL14
noncomputable def ET15 : Env := EE Go.Proofs.Try.prog md0 (fun _ => .own) TL15
noncomputable def TL16 : List (Nat × GFn) := (56, gEqR kOp) :: TL15
noncomputable def ET16 : Env := EE Go.Proofs.Try.prog md0 (fun _ => .own) TL16
noncomputable def TL17 : List (Nat × GFn) := (15, gEqS kOp) :: TL16
noncomputable def ET17 : Env := EE Go.Proofs.Try.prog md0 (fun _ => .own) TL17
noncomputable def TL18 : List (Nat × GFn) := (61, gEqR kAggT) :: TL17
noncomputable def ET18 : Env := EE Go.Proofs.Try.prog md0 (fun _ => .own) TL18
noncomputable def TL19 : List (Nat × GFn) := (23, gEqS kAggT) :: TL18

end
end Go.Vm
