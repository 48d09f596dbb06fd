/- all frames: the table -/
import Derived.Test.YtopemdjgbaonmaaGreatTNT
import Derived.Test.YtopemdjgbaonmaaGreatOkT
namespace Go.Vm
set_option linter.unusedVariables false
noncomputable section
def rFr (f : List Int) : List T := [tI (f.getD 0 0), tI (f.getD 1 0), tI (f.getD 2 0), tI (f.getD 3 0)]
def mAll : Nat → List (List T) → List (List T) × Nat × Bool
 | 0, b => ([], 0, false)
 | k + 1, b => if (mTF b).2 ≤ 0 then ([], 0, decide ((mTF b).2 < 0))
  else (rFr (mTF b).1 :: (mAll k (b.drop (mTF b).2.toNat)).1, (mTF b).2.toNat + (mAll k (b.drop (mTF b).2.toNat)).2.1, (mAll k (b.drop (mTF b).2.toNat)).2.2)
def mAF (b : List (List T)) : List (List T) × Nat × Bool := if 400 < b.length then ([], 0, true) else mAll (b.length + 1) b
def sAF : List (List T) → List (List T) := sld fun b => (mAF b).1
def sAFn : List (List T) → Int := sld fun b => (((mAF b).2.1 : Nat) : Int)
def sAFb : List (List T) → Bool := sld fun b => (mAF b).2.2
def mFl1 (r : List T) : Nat := bif mDecOk (r.take 2) && !cB' r 1 then (mAF (r.getD 0 .no).rws).1.length + (if (mAF (r.getD 0 .no).rws).2.2 then 1 else 0) else 0
def mFl (cs : List (List T)) : Nat := (cs.map mFl1).sum
def sFL : List T → Int := sld fun ts => ((mFl (ts.getD 11 .no).rws : Nat) : Int)
def gAF : GFn
 | [.c (.sl .ro 1 b)], [] => (pBy b, ⟨[.c (.sl .own 4 (sAF b)), aI (sAFn b), aB (sAFb b)], [], []⟩)
 | _, _ => gNo
def gFL : GFn
 | [.ag ts], [] => (ts.all roT && pToR kEngine ts && pWf ts, oI (sFL ts))
 | _, _ => gNo
noncomputable def ET121 : Env := EE Go.Proofs.Tryz.prog md0 (fun _ => .own) TL121
noncomputable def TL122 : List (Nat × GFn) := (93, gAF) :: TL121
noncomputable def ET122 : Env := EE Go.Proofs.Tryz.prog md0 (fun _ => .own) TL122
noncomputable def TL123 : List (Nat × GFn) := (53, gFL) :: TL122
noncomputable def ET123 : Env := EE Go.Proofs.Tryz.prog md0 (fun _ => .own) TL123
noncomputable def TL124 : List (Nat × GFn) := (56, gFL) :: TL123

end
end Go.Vm
