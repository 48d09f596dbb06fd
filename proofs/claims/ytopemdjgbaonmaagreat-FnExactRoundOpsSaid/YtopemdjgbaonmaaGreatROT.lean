/- RoundOps: the table -/
import Derived.Test.YtopemdjgbaonmaaGreatMkT
import Derived.Test.YtopemdjgbaonmaaGreatOkT
namespace Go.Vm
set_option linter.unusedVariables false
noncomputable section
def rOp (k a : Int) : List T := [tI k, tI a, tI 0, .sl .own 1 []]
def mRound (n m : Nat) : List (List T) := [rOp 0 1] ++ (List.range n).map (fun i : Nat => rOp 4 (i : Int)) ++ [rOp 5 0] ++ (List.range m).map (fun i : Nat => rOp 6 (i : Int)) ++ [rOp 7 1]
def sRound : List (List T) → List (List T) → List (List T) := sld fun cs hs => mRound cs.length hs.length
def sRoundB : Bool → List (List T) → List (List T) → List (List T) := sld fun b cs hs => bif b then mRound cs.length hs.length else []
def gRd : GFn
  | [.pt n z 0 0], [.box true ts] => (Nat.beq n 20000 && Nat.beq z 0 && ts.all roT && pToR kEngine ts, ⟨[.c (.sl .own 4 (sRound (ts.getD 11 .no).rws (ts.getD 14 .no).rws))], [], [.box true []]⟩)
  | _, _ => gNo
def gRo : GFn
  | [.ag ts], [] => (ts.all roT && pToR kEngine ts, ⟨[.c (.sl .own 4 (sRoundB (mSafe ts) (ts.getD 11 .no).rws (ts.getD 14 .no).rws))], [], []⟩)
  | _, _ => gNo
noncomputable def ET101 : Env := EE Go.Proofs.Tryz.prog md0 (fun _ => .own) TL101
noncomputable def TL102 : List (Nat × GFn) := (36, gEqR kOp) :: TL101
noncomputable def ET102 : Env := EE Go.Proofs.Tryz.prog md0 (fun _ => .own) TL102
noncomputable def TL103 : List (Nat × GFn) := (10, gEqS kOp) :: TL102
noncomputable def ET103 : Env := EE Go.Proofs.Tryz.prog md0 (fun _ => .own) TL103
noncomputable def TL104 : List (Nat × GFn) := (13, gMkS kOp) :: TL103
noncomputable def ET104 : Env := EE Go.Proofs.Tryz.prog md0 (fun _ => .own) TL104
noncomputable def TL105 : List (Nat × GFn) := (14, gHeS kOp) :: TL104
noncomputable def ET105 : Env := EE Go.Proofs.Tryz.prog md0 (fun _ => .own) TL105
noncomputable def TL106 : List (Nat × GFn) := (35, gRd) :: TL105
noncomputable def ET106 : Env := EE Go.Proofs.Tryz.prog md0 (fun _ => .own) TL106
noncomputable def TL107 : List (Nat × GFn) := (7, gRo) :: TL106
noncomputable def ET107 : Env := EE Go.Proofs.Tryz.prog md0 (fun _ => .own) TL107
noncomputable def TL108 : List (Nat × GFn) := (9, gRo) :: TL107
noncomputable def ET108 : Env := EE Go.Proofs.Tryz.prog md0 (fun _ => .own) TL108

end
end Go.Vm
