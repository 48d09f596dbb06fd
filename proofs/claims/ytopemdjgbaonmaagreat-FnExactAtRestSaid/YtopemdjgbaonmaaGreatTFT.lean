/- frames as bytes: the table -/
import Derived.Test.YtopemdjgbaonmaaGreatClT
import Derived.Test.YtopemdjgbaonmaaGreatOkT
namespace Go.Vm
set_option linter.unusedVariables false
noncomputable section
def rB (n : Int) : List T := [.im (.int .u8 n)]
def byR (r : List T) : Bool := match r with
 | [.im (.int .u8 n)] => decide (0 ≤ n) && decide (n < 256)
 | _ => false
/-- bytes, not too many -/
def pBy : List (List T) → Bool := sld fun rs => rs.all byR && decide (rs.length ≤ 1073741823)
def pB3 : List (List T) → Bool := sld fun rs => rs.all byR && decide (rs.length ≤ 3)
def pB1 : List (List T) → Bool := sld fun rs => rs.all byR && decide (rs.length ≤ 1073741823) && decide (1 ≤ rs.length)
def mWide (x : Int) (n : Nat) : List (List T) := (List.range n).map fun i => rB ((x.toNat / 2 ^ (8 * (n - 1 - i)) % 256 : Nat) : Int)
def pWide : Int → Int → Bool := sld fun x n => decide (0 ≤ x) && decide (x < 4611686018427387904) && decide (0 ≤ n) && decide (n ≤ 7)
def sWide : Int → Int → List (List T) := sld fun x n => mWide x n.toNat
/-- one step of the check sum -/
def ckBit (c : Nat) : Nat := if c % 2 = 1 then c / 2 ^^^ 3988292384 else c / 2
def ckByte (c x : Nat) : Nat := ckBit (ckBit (ckBit (ckBit (ckBit (ckBit (ckBit (ckBit (c ^^^ x))))))))
def mChk (rs : List (List T)) : Nat := rs.foldl (fun c r => ckByte c (cI r 0).toNat) 4294967295
def sChk : List (List T) → Int := sld fun rs => ((4294967295 - mChk rs : Nat) : Int)
def mRd (rs : List (List T)) : Int := rs.foldl (fun x r => 256 * x + cI r 0) 0
def sRd : List (List T) → Int := sld mRd
def mSize (k : Int) : Int := if k = 1 then 9 else if k = 2 then 4 else if k = 3 then 1 else 0
def sSize : Int → Int := sld mSize
def at0 (rs : List (List T)) : Int := cI (rs.getD 0 []) 0
def mFrame (rs : List (List T)) : List Int :=
 if at0 rs = 1 ∧ rs.length = 9 then [1, mRd ((rs.drop 1).take 2), mRd ((rs.drop 3).take 3), mRd ((rs.drop 6).take 3) - 1000000]
 else if at0 rs = 2 ∧ rs.length = 4 then [2, 0, mRd ((rs.drop 1).take 3), 0]
 else if at0 rs = 3 ∧ rs.length = 1 then [3, 0, 0, 0] else [0, 0, 0, 0]
def mOk4 (l : List Int) : Bool := mFrameOk [tI (l.getD 0 0), tI (l.getD 1 0), tI (l.getD 2 0), tI (l.getD 3 0)]
def sFr : Nat → List (List T) → Int := sld fun j rs => (mFrame rs).getD j 0
def sFbOk : List (List T) → Bool := sld fun rs => mOk4 (mFrame rs)
def sFb : Nat → List (List T) → Int := sld fun j rs => if mOk4 (mFrame rs) then (mFrame rs).getD j 0 else 0
def mBody (k a t v : Int) : List (List T) := if k = 1 then [rB 1] ++ mWide a 2 ++ mWide t 3 ++ mWide (v + 1000000) 3 else if k = 2 then [rB 2] ++ mWide t 3 else [rB 3]
def pFrm : Int → Int → Int → Int → Bool := sld fun k a t v => mFrameOk [tI k, tI a, tI t, tI v]
def sBody : Int → Int → Int → Int → List (List T) := sld mBody
def mPut (k a t v : Int) : List (List T) := if mFrameOk [tI k, tI a, tI t, tI v] then [rB ((mBody k a t v).length)] ++ mBody k a t v ++ mWide ((4294967295 - mChk (mBody k a t v) : Nat) : Int) 4 else []
def sPut : Int → Int → Int → Int → List (List T) := sld mPut
def mFill (n : Nat) (rs : List (List T)) : List (List T) := rs ++ List.replicate (n - rs.length) (rB 0)
open Classical in
def mTF (b : List (List T)) : List Int × Int :=
 if b = [] then ([0, 0, 0, 0], 0)
 else if ¬ (at0 b = 1 ∨ at0 b = 4 ∨ at0 b = 9) then ([0, 0, 0, 0], -1)
 else
  let body := (b.drop 1).take (at0 b).toNat
  let f := mFrame (mFill (at0 b).toNat body)
  let whole := mPut (f.getD 0 0) (f.getD 1 0) (f.getD 2 0) (f.getD 3 0)
  if body = [] then ([0, 0, 0, 0], 0)
  else if mOk4 f = false then ([0, 0, 0, 0], -1)
  else if body.length < (at0 b).toNat then ([0, 0, 0, 0], 0)
  else if b.take whole.length ≠ whole.take b.length then ([0, 0, 0, 0], -1)
  else if b.length < whole.length then ([0, 0, 0, 0], 0)
  else (f, whole.length)
def sTF : Nat → List (List T) → Int := sld fun j rs => (mTF rs).1.getD j 0
def sTN : List (List T) → Int := sld fun rs => (mTF rs).2
def sBg : List (List T) → Bool := sld fun rs => decide ((mTF rs).2 ≠ -1)
def gJoin : GFn
 | [.c (.sl .ro 1 a), .c (.sl .ro 1 b)], [] => (pFl [kB] a && pFl [kB] b, ⟨[.c (.sl .own 1 (sApp a b))], [], []⟩)
 | _, _ => gNo
def gWide : GFn
 | [aI x, aI n], [] => (pWide x n, ⟨[.c (.sl .own 1 (sWide x n))], [], []⟩)
 | _, _ => gNo
def gPutN : GFn
 | [.c (.sl .own 1 b), aI x, aI n], [] => (pFl [kB] b && pWide x n, ⟨[.c (.sl .own 1 (sApp b (sWide x n)))], [], []⟩)
 | _, _ => gNo
def gChk : GFn
 | [.c (.sl .ro 1 rs)], [] => (pBy rs, oI (sChk rs))
 | _, _ => gNo
def gRdN : GFn
 | [.c (.sl .ro 1 rs)], [] => (pB3 rs, oI (sRd rs))
 | _, _ => gNo
def gSize : GFn
 | [aI a], [] => (true, oI (sSize a))
 | _, _ => gNo
def gFr : GFn
 | [.c (.sl .ro 1 rs)], [] => (pB1 rs, ⟨[.ag [tI (sFr 0 rs), tI (sFr 1 rs), tI (sFr 2 rs), tI (sFr 3 rs)]], [], []⟩)
 | _, _ => gNo
def gBody : GFn
 | [.c (.sl .ro 1 rs)], [] => (pB1 rs, ⟨[.ag [tI (sFb 0 rs), tI (sFb 1 rs), tI (sFb 2 rs), tI (sFb 3 rs)], aB (sFbOk rs)], [], []⟩)
 | _, _ => gNo
def gBodyOf : GFn
 | [.ag [tI a, tI b, tI c, tI d]], [] => (pFrm a b c d, ⟨[.c (.sl .own 1 (sBody a b c d))], [], []⟩)
 | _, _ => gNo
def gPut : GFn
 | [.ag [tI a, tI b, tI c, tI d]], [] => (true, ⟨[.c (.sl .own 1 (sPut a b c d))], [], []⟩)
 | _, _ => gNo
def gEqB : GFn
 | [.c (.sl .ro 1 a), .c (.sl .ro 1 b)], [] => (pEq [kB] a && pEq [kB] b, oB (sEqS a b))
 | _, _ => gNo
def gBg : GFn
 | [.c (.sl .ro 1 rs)], [] => (pBy rs, oB (sBg rs))
 | _, _ => gNo
def gTF : GFn
 | [.c (.sl .ro 1 rs)], [] => (pBy rs, ⟨[.ag [tI (sTF 0 rs), tI (sTF 1 rs), tI (sTF 2 rs), tI (sTF 3 rs)], .c (tI (sTN rs))], [], []⟩)
 | _, _ => gNo
noncomputable def ET96 : Env := EE Go.Proofs.Tryz.prog md0 (fun _ => .own) TL96
noncomputable def TL97 : List (Nat × GFn) := (163, gClone [kB]) :: TL96
noncomputable def ET97 : Env := EE Go.Proofs.Tryz.prog md0 (fun _ => .own) TL97
noncomputable def TL98 : List (Nat × GFn) := (125, gClone [kB]) :: TL97
noncomputable def ET98 : Env := EE Go.Proofs.Tryz.prog md0 (fun _ => .own) TL98
noncomputable def TL99 : List (Nat × GFn) := (160, gJoin) :: TL98
noncomputable def ET99 : Env := EE Go.Proofs.Tryz.prog md0 (fun _ => .own) TL99
noncomputable def TL100 : List (Nat × GFn) := (161, gWide) :: TL99
noncomputable def ET100 : Env := EE Go.Proofs.Tryz.prog md0 (fun _ => .own) TL100
noncomputable def TL101 : List (Nat × GFn) := (157, gPutN) :: TL100
noncomputable def ET101 : Env := EE Go.Proofs.Tryz.prog md0 (fun _ => .own) TL101
noncomputable def TL102 : List (Nat × GFn) := (162, gChk) :: TL101
noncomputable def ET102 : Env := EE Go.Proofs.Tryz.prog md0 (fun _ => .own) TL102
noncomputable def TL103 : List (Nat × GFn) := (158, gChk) :: TL102
noncomputable def ET103 : Env := EE Go.Proofs.Tryz.prog md0 (fun _ => .own) TL103
noncomputable def TL104 : List (Nat × GFn) := (153, gRdN) :: TL103
noncomputable def ET104 : Env := EE Go.Proofs.Tryz.prog md0 (fun _ => .own) TL104
noncomputable def TL105 : List (Nat × GFn) := (154, gRdN) :: TL104
noncomputable def ET105 : Env := EE Go.Proofs.Tryz.prog md0 (fun _ => .own) TL105
noncomputable def TL106 : List (Nat × GFn) := (151, gSize) :: TL105
noncomputable def ET106 : Env := EE Go.Proofs.Tryz.prog md0 (fun _ => .own) TL106
noncomputable def TL107 : List (Nat × GFn) := (142, gFr) :: TL106
noncomputable def ET107 : Env := EE Go.Proofs.Tryz.prog md0 (fun _ => .own) TL107
noncomputable def TL108 : List (Nat × GFn) := (141, gBody) :: TL107
noncomputable def ET108 : Env := EE Go.Proofs.Tryz.prog md0 (fun _ => .own) TL108
noncomputable def TL109 : List (Nat × GFn) := (156, gBodyOf) :: TL108
noncomputable def ET109 : Env := EE Go.Proofs.Tryz.prog md0 (fun _ => .own) TL109
noncomputable def TL110 : List (Nat × GFn) := (152, gPut) :: TL109
noncomputable def ET110 : Env := EE Go.Proofs.Tryz.prog md0 (fun _ => .own) TL110
noncomputable def TL111 : List (Nat × GFn) := (144, gPut) :: TL110
noncomputable def ET111 : Env := EE Go.Proofs.Tryz.prog md0 (fun _ => .own) TL111
noncomputable def TL112 : List (Nat × GFn) := (145, gEqB) :: TL111
noncomputable def ET112 : Env := EE Go.Proofs.Tryz.prog md0 (fun _ => .own) TL112
noncomputable def TL113 : List (Nat × GFn) := (140, gBg) :: TL112
noncomputable def ET113 : Env := EE Go.Proofs.Tryz.prog md0 (fun _ => .own) TL113
noncomputable def TL114 : List (Nat × GFn) := (124, gTF) :: TL113
noncomputable def ET114 : Env := EE Go.Proofs.Tryz.prog md0 (fun _ => .own) TL114
noncomputable def TL115 : List (Nat × GFn) := (126, gTF) :: TL114

end
end Go.Vm
