/- DrainBound: the table -/
import Derived.Test.YtopemdjgbaonmaaGreatFLT
import Derived.Test.YtopemdjgbaonmaaGreatOkT
namespace Go.Vm
set_option linter.unusedVariables false
noncomputable section
def mLens (rs : List (List T)) : Nat := (rs.map fun r => (r.getD 0 .no).rws.length).sum
def sLens : List (List T) → Int := sld fun rs => ((mLens rs : Nat) : Int)
def mDb (ts : List T) : Int := sAdd .i64 (sAdd .i64 (sAdd .i64 (sMul .i64 3 (sAdd .i64 (sAdd .i64 (sFL ts) (Int.ofNat (sLen (ts.getD 12 .no).rws))) (sLens (ts.getD 13 .no).rws))) (sMul .i64 2 (sAdd .i64 (sLens (ts.getD 14 .no).rws) (Int.ofNat (sLen (ts.getD 15 .no).rws))))) (sMul .i64 4 (Int.ofNat (sLen (ts.getD 14 .no).rws)))) 10
def sDb : List T → Int := sld fun ts => bif mSafe ts then mDb ts else -1
def gQd : GFn
 | [.ag ts], [] => (ts.all roT && pToR kEngine ts, oI (sLens (ts.getD 13 .no).rws))
 | _, _ => gNo
def gQdP : GFn
 | [.pt n z 0 0], [.box true ts] => (Nat.beq n 20000 && Nat.beq z 0 && ts.all roT && pToR kEngine ts, ⟨[aI (sLens (ts.getD 13 .no).rws)], [], [.box true []]⟩)
 | _, _ => gNo
def gHd : GFn
 | [.ag ts], [] => (ts.all roT && pToR kEngine ts, oI (sLens (ts.getD 14 .no).rws))
 | _, _ => gNo
def gHdP : GFn
 | [.pt n z 0 0], [.box true ts] => (Nat.beq n 20000 && Nat.beq z 0 && ts.all roT && pToR kEngine ts, ⟨[aI (sLens (ts.getD 14 .no).rws)], [], [.box true []]⟩)
 | _, _ => gNo
def gDb : GFn
 | [.ag ts], [] => (ts.all roT && pToR kEngine ts && pWf ts, oI (sDb ts))
 | _, _ => gNo
noncomputable def ET124 : Env := EE Go.Proofs.Tryz.prog md0 (fun _ => .own) TL124
noncomputable def TL125 : List (Nat × GFn) := (54, gQd) :: TL124
noncomputable def ET125 : Env := EE Go.Proofs.Tryz.prog md0 (fun _ => .own) TL125
noncomputable def TL126 : List (Nat × GFn) := (57, gQdP) :: TL125
noncomputable def ET126 : Env := EE Go.Proofs.Tryz.prog md0 (fun _ => .own) TL126
noncomputable def TL127 : List (Nat × GFn) := (55, gHd) :: TL126
noncomputable def ET127 : Env := EE Go.Proofs.Tryz.prog md0 (fun _ => .own) TL127
noncomputable def TL128 : List (Nat × GFn) := (58, gHdP) :: TL127
noncomputable def ET128 : Env := EE Go.Proofs.Tryz.prog md0 (fun _ => .own) TL128
noncomputable def TL129 : List (Nat × GFn) := (15, gDb) :: TL128
noncomputable def ET129 : Env := EE Go.Proofs.Tryz.prog md0 (fun _ => .own) TL129
noncomputable def TL130 : List (Nat × GFn) := (16, gDb) :: TL129

end
end Go.Vm
