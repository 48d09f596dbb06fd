/- what the functions of InTime come to -/
import Derived.Test.YtmfbonhdjpmbkaaMZ
import Derived.Test.YtmfbonhdjpmbkaaProg
namespace Go.Vm
set_option linter.unusedVariables false
set_option linter.unusedSimpArgs false
noncomputable section
def mIn : Int → Int → Int → Bool := sld fun a lo hi => decide (lo ≤ a) && decide (a ≤ hi)
def mAggOk : Int → Int → Int → Int → Int → Int → Bool := sld fun a b c d e f =>
  mIn a 0 1000000 && mIn b 0 65535 && mIn c 1 1000000000 && mIn d (-1000000000) 1000000000 && mIn e (-1000000) 1000000 && mIn f (-1000000) 1000000 && decide (e ≤ f)
def mWinEnd : Int → Int → Int := sld fun w s => if mIn w 0 1000000 && mIn s 1 1000000 then (w + 1) * s - 1 else -1
def rAggOk (r : List T) : Bool := mAggOk (cI r 0) (cI r 1) (cI r 2) (cI r 3) (cI r 4) (cI r 5)
abbrev kAgg : List Kd := [.int .i64, .int .i64, .int .i64, .int .i64, .int .i64, .int .i64]
def pAggs : List (List T) → Bool := sld fun rs => decide (rs.length ≤ 1048576) && rs.all (okRow kAgg)
def mAllOk : List (List T) → Bool := sld fun rs => rs.all rAggOk
def mLate : Int → Int → Int → Int → Int → Int → Int → Int → Bool := sld fun s n a b c d e f => !mAggOk a b c d e f || !mIn s 1 1000000 || decide (n < mWinEnd a s)
def mLateAt : List (List T) → Int → Int → Int := sld fun rs s n => match rs.findIdx? (fun r => mLate s n (cI r 0) (cI r 1) (cI r 2) (cI r 3) (cI r 4) (cI r 5)) with | some i => i | none => -1
def mInTime : List (List T) → Int → Int → Bool := sld fun rs s n => decide (mLateAt rs s n = -1)
def mSz : List (List T) → Int → Int := sld fun rs n => if n < rs.length then -1 else n - rs.length
def pSz : List (List T) → Int → Bool := sld fun rs n => decide (rs.length ≤ 140737488355327) && decide (-1 ≤ n) && decide (n ≤ 1048576)
def mEqAgg : Int → Int → Int → Int → Int → Int → Int → Int → Int → Int → Int → Int → Bool := sld fun a b c d e f a' b' c' d' e' f' =>
  decide (a = a') && decide (b = b') && decide (c = c') && decide (d = d') && decide (e = e') && decide (f = f')
open Classical in
def mEqAggs : List (List T) → List (List T) → Bool := sld fun r s => decide (r = s)

def gIn : List A → List PO → Bool × Out
  | [aI a, aI b, aI c], [] => (true, oB (mIn a b c))
  | _, _ => gNo
def gIn1 (lo hi : Int) : List A → List PO → Bool × Out
  | [aI a], [] => (true, oB (mIn a lo hi))
  | _, _ => gNo
def gAggOk : List A → List PO → Bool × Out
  | [.ag [tI a, tI b, tI c, tI d, tI e, tI f]], [] => (true, oB (mAggOk a b c d e f))
  | _, _ => gNo
def gWinEnd : List A → List PO → Bool × Out
  | [aI a, aI b], [] => (true, oI (mWinEnd a b))
  | _, _ => gNo
def gAllOk : List A → List PO → Bool × Out
  | [.c (.sl .ro 6 rs)], [] => (pAggs rs, oB (mAllOk rs))
  | _, _ => gNo
def gLate : List A → List PO → Bool × Out
  | [.ag [tI a, tI b, tI c, tI d, tI e, tI f], .pt 20000 0 0 0, .pt 20001 0 0 0], [.box true [tI s], .box true [tI n]] => (true, ⟨[aB (mLate s n a b c d e f)], [], [.box true [], .box true []]⟩)
  | _, _ => gNo
def gLateAt : List A → List PO → Bool × Out
  | [.c (.sl .ro 6 rs), .fn 65 [.pt 20000 0 0 0, .pt 20001 0 0 0]], [.box true [tI s], .box true [tI n]] => (pAggs rs, ⟨[aI (mLateAt rs s n)], [], [.box true [], .box true []]⟩)
  | _, _ => gNo
def gLateIn : List A → List PO → Bool × Out
  | [.c (.sl .ro 6 rs), .fn 65 [.pt 20000 0 0 0, .pt 20001 0 0 0]], [.box true [tI s], .box true [tI n]] => (pAggs rs, ⟨[aB (!mInTime rs s n)], [], [.box true [], .box true []]⟩)
  | _, _ => gNo
def gInTime : List A → List PO → Bool × Out
  | [.c (.sl .ro 6 rs), aI s, aI n], [] => (pAggs rs, oB (mInTime rs s n))
  | _, _ => gNo
def gSz : List A → List PO → Bool × Out
  | [.c (.sl .ro 6 rs), aI n], [] => (pSz rs n, oI (mSz rs n))
  | _, _ => gNo
def gTo : List A → List PO → Bool × Out
  | [.ag [tI a, tI b, tI c, tI d, tI e, tI f]], [] => (true, ⟨[.ag [tI a, tI b, tI c, tI d, tI e, tI f]], [], []⟩)
  | _, _ => gNo
def gTos : List A → List PO → Bool × Out
  | [.c (.sl .ro 6 rs)], [] => (pAggs rs, ⟨[.c (.sl .own 6 rs)], [], []⟩)
  | _, _ => gNo
def gEq : List A → List PO → Bool × Out
  | [.ag [tI a, tI b, tI c, tI d, tI e, tI f], .ag [tI a', tI b', tI c', tI d', tI e', tI f']], [] => (true, oB (mEqAgg a b c d e f a' b' c' d' e' f'))
  | _, _ => gNo
def gEqs : List A → List PO → Bool × Out
  | [.c (.sl .ro 6 rs), .c (.sl .ro 6 ss)], [] => (pAggs rs && pAggs ss, oB (mEqAggs rs ss))
  | _, _ => gNo

noncomputable def TL0 : List (Nat × GFn) := []
noncomputable def TL1 : List (Nat × GFn) := (51, gIn) :: TL0
noncomputable def ET0 : Env := EE Go.Proofs.Try.prog (fun _ => none) (fun _ => .own) TL0
noncomputable def TL2 : List (Nat × GFn) := (54, gIn) :: TL1
noncomputable def ET1 : Env := EE Go.Proofs.Try.prog (fun _ => none) (fun _ => .own) TL1
noncomputable def TL3 : List (Nat × GFn) := (107, gIn1 0 1000000) :: TL2
noncomputable def ET2 : Env := EE Go.Proofs.Try.prog (fun _ => none) (fun _ => .own) TL2
noncomputable def TL4 : List (Nat × GFn) := (105, gIn1 0 65535) :: TL3
noncomputable def ET3 : Env := EE Go.Proofs.Try.prog (fun _ => none) (fun _ => .own) TL3
noncomputable def TL5 : List (Nat × GFn) := (108, gIn1 (-1000000000) 1000000000) :: TL4
noncomputable def ET4 : Env := EE Go.Proofs.Try.prog (fun _ => none) (fun _ => .own) TL4
noncomputable def TL6 : List (Nat × GFn) := (109, gIn1 (-1000000) 1000000) :: TL5
noncomputable def ET5 : Env := EE Go.Proofs.Try.prog (fun _ => none) (fun _ => .own) TL5
noncomputable def TL7 : List (Nat × GFn) := (106, gIn1 (-1000000) 1000000) :: TL6
noncomputable def ET6 : Env := EE Go.Proofs.Try.prog (fun _ => none) (fun _ => .own) TL6
noncomputable def TL8 : List (Nat × GFn) := (66, gIn1 1 1000000) :: TL7
noncomputable def ET7 : Env := EE Go.Proofs.Try.prog (fun _ => none) (fun _ => .own) TL7
noncomputable def TL9 : List (Nat × GFn) := (59, gAggOk) :: TL8
noncomputable def ET8 : Env := EE Go.Proofs.Try.prog (fun _ => none) (fun _ => .own) TL8
noncomputable def TL10 : List (Nat × GFn) := (61, gAggOk) :: TL9
noncomputable def ET9 : Env := EE Go.Proofs.Try.prog (fun _ => none) (fun _ => .own) TL9
noncomputable def TL11 : List (Nat × GFn) := (63, gWinEnd) :: TL10
noncomputable def ET10 : Env := EE Go.Proofs.Try.prog (fun _ => none) (fun _ => .own) TL10
noncomputable def TL12 : List (Nat × GFn) := (67, gWinEnd) :: TL11
noncomputable def ET11 : Env := EE Go.Proofs.Try.prog (fun _ => none) (fun _ => .own) TL11
noncomputable def TL13 : List (Nat × GFn) := (62, gAllOk) :: TL12
noncomputable def ET12 : Env := EE Go.Proofs.Try.prog (fun _ => none) (fun _ => .own) TL12
noncomputable def TL14 : List (Nat × GFn) := (65, gLate) :: TL13
noncomputable def ET13 : Env := EE Go.Proofs.Try.prog (fun _ => none) (fun _ => .own) TL13
noncomputable def TL15 : List (Nat × GFn) := (110, gLateAt) :: TL14
noncomputable def ET14 : Env := EE Go.Proofs.Try.prog (fun _ => none) (fun _ => .own) TL14
noncomputable def TL16 : List (Nat × GFn) := (64, gLateIn) :: TL15
noncomputable def ET15 : Env := EE Go.Proofs.Try.prog (fun _ => none) (fun _ => .own) TL15
noncomputable def TL17 : List (Nat × GFn) := (31, gInTime) :: TL16
noncomputable def ET16 : Env := EE Go.Proofs.Try.prog (fun _ => none) (fun _ => .own) TL16
noncomputable def TL18 : List (Nat × GFn) := (32, gInTime) :: TL17
noncomputable def ET17 : Env := EE Go.Proofs.Try.prog (fun _ => none) (fun _ => .own) TL17
noncomputable def TL19 : List (Nat × GFn) := (22, gSz) :: TL18
noncomputable def ET18 : Env := EE Go.Proofs.Try.prog (fun _ => none) (fun _ => .own) TL18
noncomputable def TL20 : List (Nat × GFn) := (56, gTo) :: TL19
noncomputable def ET19 : Env := EE Go.Proofs.Try.prog (fun _ => none) (fun _ => .own) TL19
noncomputable def TL21 : List (Nat × GFn) := (24, gTos) :: TL20
noncomputable def ET20 : Env := EE Go.Proofs.Try.prog (fun _ => none) (fun _ => .own) TL20
noncomputable def TL22 : List (Nat × GFn) := (58, gEq) :: TL21
noncomputable def ET21 : Env := EE Go.Proofs.Try.prog (fun _ => none) (fun _ => .own) TL21
noncomputable def TL23 : List (Nat × GFn) := (26, gEqs) :: TL22
noncomputable def ET22 : Env := EE Go.Proofs.Try.prog (fun _ => none) (fun _ => .own) TL22
noncomputable def ET23 : Env := EE Go.Proofs.Try.prog (fun _ => none) (fun _ => .own) TL23

end
end Go.Vm
