/- the next frame: the table -/
import Derived.Test.YtopemdjgbaonmaaGreatTFT
import Derived.Test.YtopemdjgbaonmaaGreatOkT
namespace Go.Vm
set_option linter.unusedVariables false
noncomputable section
def mNx (b : List (List T)) (c : Bool) : List (List T) × Bool × List Int × Int :=
 bif !mDecOk [.sl .ro 1 b, tB c] || c then (b, c, [0, 0, 0, 0], 2)
 else if (mTF b).2 < 0 then ([], true, [0, 0, 0, 0], 2)
 else if (mTF b).2 = 0 then (b, c, [0, 0, 0, 0], 1)
 else (b.drop (mTF b).2.toNat, false, (mTF b).1, 0)
def sNx : List (List T) → Bool → List (List T) := sld fun b c => (mNx b c).1
def sNb : List (List T) → Bool → Bool := sld fun b c => (mNx b c).2.1
def sNf : Nat → List (List T) → Bool → Int := sld fun j b c => (mNx b c).2.2.1.getD j 0
def sNc : List (List T) → Bool → Int := sld fun b c => (mNx b c).2.2.2
def cB' (r : List T) (j : Nat) : Bool := bT (r.getD j .no)
def mHas (r : List T) : Bool := mDecOk (r.take 2) && !cB' r 1 && decide ((mTF (r.getD 0 .no).rws).2 ≠ 0)
def sHas : List T → Bool := sld mHas
def pCn : List T → Bool := sld fun r => shR kConn r && (r.getD 0 .no).rws.all byR && decide ((r.getD 0 .no).rws.length ≤ 1048576)
def sRow : List (List T) → Nat → List T := sld fun rs i => rs.getD i []
def pRw : List (List T) → Nat → Bool := sld fun rs i => shRs kConn rs && decide (i < rs.length) && pCn (rs.getD i [])
def pWf : List T → Bool := sld wfR
def sRb : List T → Int → Bool := sld fun ts n => decide (0 ≤ n) && decide (n < ((ts.getD 11 .no).rws.length : Int)) && mHas ((ts.getD 11 .no).rws.getD n.toNat [])
def gDcp : GFn
 | [.ag [.sl .ro 1 b, .im (.bool c)]], [] => (pFl [kB] b, ⟨[.ag [.sl .own 1 b, tB c]], [], []⟩)
 | _, _ => gNo
def gTN : GFn
 | [.ag [.sl .ro 1 b, .im (.bool c)]], [] => (pBy b, ⟨[.ag [.sl .own 1 (sNx b c), tB (sNb b c)], .ag [tI (sNf 0 b c), tI (sNf 1 b c), tI (sNf 2 b c), tI (sNf 3 b c)], .c (tI (sNc b c))], [], []⟩)
 | _, _ => gNo
def gHF : GFn
 | [.pt n z i 0], [.rows .ro 7 rs] => (Nat.beq n 20000 && Nat.beq z 7 && pRw rs i, ⟨[aB (sHas (sRow rs i))], [], [.box true []]⟩)
 | [.pt n z 0 0], [.box true ts] => (Nat.beq n 20000 && Nat.beq z 0 && ts.all roT && pCn ts, ⟨[aB (sHas ts)], [], [.box true []]⟩)
 | _, _ => gNo
def gRb : GFn
 | [.ag ts, aI n], [] => (ts.all roT && pToR kEngine ts && pWf ts, oB (sRb ts n))
 | _, _ => gNo
noncomputable def ET115 : Env := EE Go.Proofs.Tryz.prog md0 (fun _ => .own) TL115
noncomputable def TL116 : List (Nat × GFn) := (123, gDcp) :: TL115
noncomputable def ET116 : Env := EE Go.Proofs.Tryz.prog md0 (fun _ => .own) TL116
noncomputable def TL117 : List (Nat × GFn) := (146, gDcp) :: TL116
noncomputable def ET117 : Env := EE Go.Proofs.Tryz.prog md0 (fun _ => .own) TL117
noncomputable def TL118 : List (Nat × GFn) := (92, gTN) :: TL117
noncomputable def ET118 : Env := EE Go.Proofs.Tryz.prog md0 (fun _ => .own) TL118
noncomputable def TL119 : List (Nat × GFn) := (127, gTN) :: TL118
noncomputable def ET119 : Env := EE Go.Proofs.Tryz.prog md0 (fun _ => .own) TL119
noncomputable def TL120 : List (Nat × GFn) := (97, gHF) :: TL119
noncomputable def ET120 : Env := EE Go.Proofs.Tryz.prog md0 (fun _ => .own) TL120
noncomputable def TL121 : List (Nat × GFn) := (94, gRb) :: TL120

end
end Go.Vm
