/- folds: the table -/
import Derived.Test.YtiljaikpocgleaaEOT
import Derived.Test.YtiljaikpocgleaaEOT
import Derived.Test.YtiljaikpocgleaaSo
namespace Go.Vm
set_option linter.unusedVariables false
noncomputable section
def mCap (n : Int) : Int := if 1000000000 < n then 1000000000 else if n < -1000000000 then -1000000000 else n
def sCap : Int → Int := sld mCap
def mSm (j : Nat) (a b : List T) : Int := match j with
 | 0 => cI a 0
 | 1 => cI a 1
 | 2 => mCap (cI a 2 + cI b 2)
 | 3 => mCap (cI a 3 + cI b 3)
 | 4 => if cI b 4 < cI a 4 then cI b 4 else cI a 4
 | _ => if cI b 5 > cI a 5 then cI b 5 else cI a 5
def sSm : Nat → List T → List T → Int := sld mSm
def mSum (a b : List T) : List T := [tI (mSm 0 a b), tI (mSm 1 a b), tI (mSm 2 a b), tI (mSm 3 a b), tI (mSm 4 a b), tI (mSm 5 a b)]
def putW (a : List T) : List (List T) → List (List T)
 | [] => [a]
 | r :: rs => bif sameWK r a then mSum r a :: rs else bif mAhead a r then a :: r :: rs else r :: putW a rs
def sPut : List (List T) → List T → List (List T) := sld fun rs a => putW a rs
def foldW (rs : List (List T)) : List (List T) := rs.foldl (fun L a => putW a L) []
def sFold : List (List T) → List (List T) := sld foldW
def pAgg : List (List T) → Bool := sld fun rs => shRs kAggT rs && rs.all mAggOk && decide (rs.length ≤ 4194304)
def sSort : List (List T) → List (List T) := sld (sortW mOrder)
def mWin (t s : Int) : Int := if mIn t 0 1000000 && mIn s 1 1000000 then t.tdiv s else -1
def sWin : Int → Int → Int := sld mWin
def evA (n : Int) (f : List T) : List T := [tI (mWin (cI f 2) n), tI (cI f 1), tI 1, tI (cI f 3), tI (cI f 3), tI (cI f 3)]
def sFA : List (List T) → Int → List (List T) := sld fun rs n => bif mIn n 1 1000000 && decide (rs.length ≤ 300) then foldW ((rs.filter mIsEvent).map (evA n)) else []
def win0 (r : List T) : List T := [tI 0, tI (cI r 1), tI (cI r 2), tI (cI r 3), tI (cI r 4), tI (cI r 5)]
def sKT : List (List T) → List (List T) := sld fun rs => bif rs.all mAggOk then foldW (rs.map win0) else []
def sML : List (List T) → List (List T) → List (List T) := sld fun rs ss => bif rs.all mAggOk && ss.all mAggOk then foldW (rs ++ ss) else []
def gCap : GFn
 | [aI a], [] => (true, oI (sCap a))
 | _, _ => gNo
def gSum : GFn
 | [.ag a, .ag b], [] => (a.all roT && b.all roT && sShR kAggT a && sShR kAggT b && mAggOk a && mAggOk b, ⟨[.ag [tI (sSm 0 a b), tI (sSm 1 a b), tI (sSm 2 a b), tI (sSm 3 a b), tI (sSm 4 a b), tI (sSm 5 a b)]], [], []⟩)
 | _, _ => gNo
def gPut : GFn
 | [.c (.sl .ro 6 rs), .ag a], [] => (a.all roT && sShR kAggT a && mAggOk a && pAgg rs, ⟨[.c (.sl .own 6 (sPut rs a))], [], []⟩)
 | _, _ => gNo
def gSort (g : Nat) : GFn
 | [.c (.sl .own 6 rs), .fn g' []], [] => (Nat.beq g' g && pEq kAggT rs, ⟨[], [.sl .own 6 (sSort rs)], []⟩)
 | _, _ => gNo
def gFold : GFn
 | [.c (.sl .ro 6 rs)], [] => (pAgg rs, ⟨[.c (.sl .own 6 (sFold rs))], [], []⟩)
 | _, _ => gNo
def gWin : GFn
 | [aI a, aI b], [] => (true, oI (sWin a b))
 | _, _ => gNo
def gAggOf : GFn
 | [.ag [tI a0, tI a1, tI a2, tI a3], aI n], [] => (true, ⟨[.ag [tI n, tI a1, tI 1, tI a3, tI a3, tI a3]], [], []⟩)
 | _, _ => gNo
def gFA : GFn
 | [.c (.sl .ro 4 rs), aI n], [] => (pTo kFrame rs, ⟨[.c (.sl .own 6 (sFA rs n))], [], []⟩)
 | _, _ => gNo
def gKT : GFn
 | [.c (.sl .ro 6 rs)], [] => (pTo kAggT rs, ⟨[.c (.sl .own 6 (sKT rs))], [], []⟩)
 | _, _ => gNo
def gML : GFn
 | [.c (.sl .ro 6 rs), .c (.sl .ro 6 ss)], [] => (pTo kAggT rs && pTo kAggT ss, ⟨[.c (.sl .own 6 (sML rs ss))], [], []⟩)
 | _, _ => gNo
def gGrowA : GFn
 | [.c (.im (.slice none 0 0)), aI n], [] => (sLe 0 n && sLt n 4294967296, ⟨[.c (.sl .own 6 [])], [], []⟩)
 | _, _ => gNo
def gConcatA : GFn
 | [.c (.sl .ro 1 [[.sl .ro 6 a], [.sl .ro 6 b]])], [] => (pFl kAggT a && pFl kAggT b, ⟨[.c (.sl .own 6 (sApp a b))], [], []⟩)
 | _, _ => gNo
noncomputable def ET59 : Env := EE Go.Proofs.Try.prog md0 (fun _ => .own) TL59
noncomputable def TL60 : List (Nat × GFn) := (134, gCap) :: TL59
noncomputable def ET60 : Env := EE Go.Proofs.Try.prog md0 (fun _ => .own) TL60
noncomputable def TL61 : List (Nat × GFn) := (135, gCap) :: TL60
noncomputable def ET61 : Env := EE Go.Proofs.Try.prog md0 (fun _ => .own) TL61
noncomputable def TL62 : List (Nat × GFn) := (113, gSum) :: TL61
noncomputable def ET62 : Env := EE Go.Proofs.Try.prog md0 (fun _ => .own) TL62
noncomputable def TL63 : List (Nat × GFn) := (116, gSum) :: TL62
noncomputable def ET63 : Env := EE Go.Proofs.Try.prog md0 (fun _ => .own) TL63
noncomputable def TL64 : List (Nat × GFn) := (62, gPut) :: TL63
noncomputable def ET64 : Env := EE Go.Proofs.Try.prog md0 (fun _ => .own) TL64
noncomputable def TL65 : List (Nat × GFn) := (117, gSort 93) :: TL64
noncomputable def ET65 : Env := EE Go.Proofs.Try.prog md0 (fun _ => .own) TL65
noncomputable def TL66 : List (Nat × GFn) := (65, gFold) :: TL65
noncomputable def ET66 : Env := EE Go.Proofs.Try.prog md0 (fun _ => .own) TL66
noncomputable def TL67 : List (Nat × GFn) := (69, gWin) :: TL66
noncomputable def ET67 : Env := EE Go.Proofs.Try.prog md0 (fun _ => .own) TL67
noncomputable def TL68 : List (Nat × GFn) := (46, gWin) :: TL67
noncomputable def ET68 : Env := EE Go.Proofs.Try.prog md0 (fun _ => .own) TL68
noncomputable def TL69 : List (Nat × GFn) := (73, gAggOf) :: TL68
noncomputable def ET69 : Env := EE Go.Proofs.Try.prog md0 (fun _ => .own) TL69
noncomputable def TL70 : List (Nat × GFn) := (31, gFA) :: TL69
noncomputable def ET70 : Env := EE Go.Proofs.Try.prog md0 (fun _ => .own) TL70
noncomputable def TL71 : List (Nat × GFn) := (33, gFA) :: TL70
noncomputable def ET71 : Env := EE Go.Proofs.Try.prog md0 (fun _ => .own) TL71
noncomputable def TL72 : List (Nat × GFn) := (24, gKT) :: TL71
noncomputable def ET72 : Env := EE Go.Proofs.Try.prog md0 (fun _ => .own) TL72
noncomputable def TL73 : List (Nat × GFn) := (25, gKT) :: TL72
noncomputable def ET73 : Env := EE Go.Proofs.Try.prog md0 (fun _ => .own) TL73
noncomputable def TL74 : List (Nat × GFn) := (28, gML) :: TL73
noncomputable def ET74 : Env := EE Go.Proofs.Try.prog md0 (fun _ => .own) TL74
noncomputable def TL75 : List (Nat × GFn) := (118, gGrowA) :: TL74
noncomputable def ET75 : Env := EE Go.Proofs.Try.prog md0 (fun _ => .own) TL75
noncomputable def TL76 : List (Nat × GFn) := (66, gConcatA) :: TL75
noncomputable def ET76 : Env := EE Go.Proofs.Try.prog md0 (fun _ => .own) TL76
noncomputable def TL77 : List (Nat × GFn) := (29, gML) :: TL76

end
end Go.Vm
