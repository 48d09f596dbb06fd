/- texts of setups: the table -/
import Derived.Test.YtlfkhhmpkgehbaaDoorOkT
import Derived.Test.YtlfkhhmpkgehbaaDoorTx
namespace Go.Vm
open Go.Proofs
set_option linter.unusedVariables false
noncomputable section
abbrev aS (s : ByteArray) : A := .c (.im (.string s))
/-- the numbers' texts, a space between -/
def setT (ts : List T) : ByteArray := bif mSetupOk ts then ⟨(Lib.join (ts.map fun t => Lib.itoa (iT t)) [32]).toArray⟩ else ⟨#[]⟩
def sSetT : List T → ByteArray := sld setT
def gItoa : GFn
 | [aI n], [] => (sIn64 n, ⟨[aS (sItoa n)], [], []⟩)
 | _, _ => gNo
def gNum : GFn
 | [aI n], [] => (sIn64 n, ⟨[aS (sItoa n)], [], []⟩)
 | _, _ => gNo
def gJoin : GFn
 | [.c (.sl .ro 1 rs), .c (.im (.string s))], [] => (pJoin rs s, ⟨[aS (sJoin rs s)], [], []⟩)
 | _, _ => gNo
def gVals : GFn
 | [.ag [tI a0, tI a1, tI a2, tI a3, tI a4, tI a5, tI a6, tI a7, tI a8]], [] => (true, ⟨[.c (.sl .own 1 [[tI a0], [tI a1], [tI a2], [tI a3], [tI a4], [tI a5], [tI a6], [tI a7], [tI a8]])], [], []⟩)
 | _, _ => gNo
def gNums : GFn
 | [.pt x z 0 0], [.box true [.im (.int .i64 a0), .im (.int .i64 a1), .im (.int .i64 a2), .im (.int .i64 a3), .im (.int .i64 a4), .im (.int .i64 a5), .im (.int .i64 a6), .im (.int .i64 a7), .im (.int .i64 a8)]] => (Nat.beq x 20000 && Nat.beq z 0, ⟨[.c (.sl .own 1 [[tI a0], [tI a1], [tI a2], [tI a3], [tI a4], [tI a5], [tI a6], [tI a7], [tI a8]])], [], [.box true []]⟩)
 | _, _ => gNo
def gSetT : GFn
 | [.ag ts], [] => (ts.all roT && sShR kSetup ts, ⟨[aS (sSetT ts), aB (mSetupOk ts)], [], []⟩)
 | _, _ => gNo
noncomputable def ET51 : Env := EE Go.Proofs.Tryd.prog md0 (fun _ => .own) TL51
noncomputable def TL52 : List (Nat × GFn) := (65, gItoa) :: TL51
noncomputable def ET52 : Env := EE Go.Proofs.Tryd.prog md0 (fun _ => .own) TL52
noncomputable def TL53 : List (Nat × GFn) := (29, gNum) :: TL52
noncomputable def ET53 : Env := EE Go.Proofs.Tryd.prog md0 (fun _ => .own) TL53
noncomputable def TL54 : List (Nat × GFn) := (26, gNum) :: TL53
noncomputable def ET54 : Env := EE Go.Proofs.Tryd.prog md0 (fun _ => .own) TL54
noncomputable def TL55 : List (Nat × GFn) := (30, gJoin) :: TL54
noncomputable def ET55 : Env := EE Go.Proofs.Tryd.prog md0 (fun _ => .own) TL55
noncomputable def TL56 : List (Nat × GFn) := (25, gVals) :: TL55
noncomputable def ET56 : Env := EE Go.Proofs.Tryd.prog md0 (fun _ => .own) TL56
noncomputable def TL57 : List (Nat × GFn) := (28, gNums) :: TL56
noncomputable def ET57 : Env := EE Go.Proofs.Tryd.prog md0 (fun _ => .own) TL57
noncomputable def TL58 : List (Nat × GFn) := (7, gSetT) :: TL57
noncomputable def ET58 : Env := EE Go.Proofs.Tryd.prog md0 (fun _ => .own) TL58
noncomputable def TL59 : List (Nat × GFn) := (9, gSetT) :: TL58

end
end Go.Vm
