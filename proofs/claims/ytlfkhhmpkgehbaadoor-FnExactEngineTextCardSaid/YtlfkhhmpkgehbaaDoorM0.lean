/- A small machine of values over the code, and that it is sound: part 0. No condition. -/
import Derived.Orders
import Derived.LoopN
import Derived.MapKept
import Derived.ChangeKeysEq
import Derived.Laws.Sem
import Derived.Laws.Cells
import Derived.Laws.Entries
import Derived.Laws.StructEq
import Derived.Laws.IdiomStrings
import Derived.ChangeArms
import Derived.Deep.Slices
import Derived.WalkKit
import Derived.SizedLaws
import Derived.ProofKit
import Derived.OpenShut
import Derived.ShutString
import Derived.ChangeOld
import Derived.Carry
import Derived.Laws.BitsLemmas
import Derived.Lib.ItoaNum
namespace Go.Vm
set_option linter.unusedVariables false
set_option linter.unusedSimpArgs false
noncomputable section
theorem sldEx {α : Type} (x : α) : ∃ y : α, y = x := ⟨x, rfl⟩
def sld {α : Type} (x : α) : α := Classical.choose (sldEx x)
theorem sld_eq {α : Type} (x : α) : sld x = x := Classical.choose_spec (sldEx x)
inductive Fl where | own | ro | fz
 deriving DecidableEq
inductive T where
 | im (v : Value)
 | sl (f : Fl) (sz : Nat) (rows : List (List T))
 | no
inductive Kd where | int (k : IntKind) | bool | str | sl (sz : Nat) | oth
 deriving DecidableEq
def Value.asInt : Value → Int | .int _ n => n | _ => 0
def Value.asB : Value → Bool | .bool b => b | _ => false
def Value.asS : Value → ByteArray | .string s => s | _ => .empty
def T.val : T → Value | .im v => v | _ => undef
def T.rws : T → List (List T) | .sl _ _ r => r | _ => []
def Value.okK : Kd → Value → Bool
 | .int k, .int k' _ => decide (k = k')
 | .bool, .bool _ => true
 | .str, .string _ => true
 | _, _ => false
def Fl.eqb : Fl → Fl → Bool
 | .own, .own | .ro, .ro | .fz, .fz => true
 | _, _ => false
def T.okK (f : Fl) : Kd → T → Bool
 | .sl sz, .sl f' sz' _ => Fl.eqb f f' && Nat.beq sz sz'
 | k, .im v => Value.okK k v
 | .oth, _ => false
 | _, _ => false
def isSl (sz : Nat) : T → Bool
 | .sl _ sz' _ => Nat.beq sz sz'
 | _ => false
def cell (rs : List (List T)) (i j : Nat) : T := (rs.getD i []).getD j .no
def setCell (rs : List (List T)) (i j : Nat) (t : T) : List (List T) := rs.set i ((rs.getD i []).set j t)
def splice {α : Type} (xs : List α) (j : Nat) (ys : List α) : List α := xs.take j ++ ys ++ xs.drop (j + ys.length)
def setRow (rs : List (List T)) (i j : Nat) (ts : List T) : List (List T) := rs.set i (splice (rs.getD i []) j ts)
def cut (e : Bool) (off len : Nat) (rs : List (List T)) : List (List T) :=
 bif e then rs.drop off else (rs.drop off).take len
def T.isIm : T → Bool
 | .im _ => true
 | _ => false
def flatRows (rs : List (List T)) : Bool := rs.all fun r => r.all T.isIm
def T.toRo : T → T
 | .sl _ sz rs => .sl .ro sz rs
 | t => t
def roRows (rs : List (List T)) : List (List T) := rs.map fun r => r.map T.toRo
def strRows (s : ByteArray) : List (List T) := s.data.toList.map fun b => [.im (.int .u8 b.toNat)]
def bytesOf : List (List T) → List UInt8 := List.map fun r => (Value.asInt (r.getD 0 .no).val).toNat.toUInt8
def bytesOk (rs : List (List T)) : Bool := rs.all fun r => match r with | [.im (.int .u8 _)] => true | _ => false
def okCells (ks : List Kd) (rs : List (List T)) (i j : Nat) : Bool :=
 match ks with
 | [] => true
 | .sl sz :: ks => isSl sz (cell rs i j) && okCells ks rs i (j + 1)
 | k :: ks => T.okK .own k (cell rs i j) && okCells ks rs i (j + 1)
def sAdd : IntKind → Int → Int → Int := sld fun k a b => k.wrap (a + b)
def sSub : IntKind → Int → Int → Int := sld fun k a b => k.wrap (a - b)
def sMul : IntKind → Int → Int → Int := sld fun k a b => k.wrap (a * b)
def sQuo : IntKind → Int → Int → Int := sld fun k a b => k.wrap (a.tdiv b)
def sRem : Int → Int → Int := sld fun a b => a.tmod b
def sAnd : IntKind → Int → Int → Int := sld fun k a b => k.wrap (BitVec.ofInt k.bits a &&& BitVec.ofInt k.bits b).toNat
def sOr : IntKind → Int → Int → Int := sld fun k a b => k.wrap (BitVec.ofInt k.bits a ||| BitVec.ofInt k.bits b).toNat
def sXor : IntKind → Int → Int → Int := sld fun k a b => k.wrap (BitVec.ofInt k.bits a ^^^ BitVec.ofInt k.bits b).toNat
def sShl : IntKind → Int → Int → Int := sld fun k a b => k.wrap (a * 2 ^ Nat.min b.toNat k.bits)
def sShr : IntKind → Int → Int → Int := sld fun k a b => a.fdiv (2 ^ Nat.min b.toNat k.bits)
def sNeg : IntKind → Int → Int := sld fun k n => k.wrap (0 - n)
def sCpl : IntKind → Int → Int := sld fun k n => k.wrap (BitVec.ofInt k.bits (if k.signed then -1 else k.max) ^^^ BitVec.ofInt k.bits n).toNat
def sWrap : IntKind → Int → Int := sld fun k n => k.wrap n
def sMax : Int → Int → Int := sld fun a b => if b > a then b else a
def sMin : Int → Int → Int := sld fun a b => if b < a then b else a
def sEq : Int → Int → Bool := sld fun a b => decide (a = b)
def sLt : Int → Int → Bool := sld fun a b => decide (a < b)
def sLe : Int → Int → Bool := sld fun a b => decide (a ≤ b)
def sBeq : Bool → Bool → Bool := sld fun a b => a == b
def sNat : Int → Nat := sld fun a => a.toNat
def sFit : Nat → Bool := sld fun n => Nat.blt n 4294967296
theorem sAdd_eq (k : IntKind) (a b : Int) : sAdd k a b = k.wrap (a + b) := by rw [sAdd, sld_eq]
theorem sSub_eq (k : IntKind) (a b : Int) : sSub k a b = k.wrap (a - b) := by rw [sSub, sld_eq]
theorem sMul_eq (k : IntKind) (a b : Int) : sMul k a b = k.wrap (a * b) := by rw [sMul, sld_eq]
theorem sQuo_eq (k : IntKind) (a b : Int) : sQuo k a b = k.wrap (a.tdiv b) := by rw [sQuo, sld_eq]
theorem sRem_eq (a b : Int) : sRem a b = a.tmod b := by rw [sRem, sld_eq]
theorem sAnd_eq (k : IntKind) (a b : Int) : sAnd k a b = k.wrap (BitVec.ofInt k.bits a &&& BitVec.ofInt k.bits b).toNat := by rw [sAnd, sld_eq]
theorem sOr_eq (k : IntKind) (a b : Int) : sOr k a b = k.wrap (BitVec.ofInt k.bits a ||| BitVec.ofInt k.bits b).toNat := by rw [sOr, sld_eq]
theorem sXor_eq (k : IntKind) (a b : Int) : sXor k a b = k.wrap (BitVec.ofInt k.bits a ^^^ BitVec.ofInt k.bits b).toNat := by rw [sXor, sld_eq]
theorem sShl_eq (k : IntKind) (a b : Int) : sShl k a b = k.wrap (a * 2 ^ Nat.min b.toNat k.bits) := by rw [sShl, sld_eq]
theorem sShr_eq (k : IntKind) (a b : Int) : sShr k a b = a.fdiv (2 ^ Nat.min b.toNat k.bits) := by rw [sShr, sld_eq]
theorem sNeg_eq (k : IntKind) (a : Int) : sNeg k a = k.wrap (0 - a) := by rw [sNeg, sld_eq]
theorem sCpl_eq (k : IntKind) (n : Int) : sCpl k n = k.wrap (BitVec.ofInt k.bits (if k.signed then -1 else k.max) ^^^ BitVec.ofInt k.bits n).toNat := by rw [sCpl, sld_eq]
theorem sWrap_eq (k : IntKind) (a : Int) : sWrap k a = k.wrap a := by rw [sWrap, sld_eq]
theorem sMax_eq (a b : Int) : sMax a b = if b > a then b else a := by rw [sMax, sld_eq]
theorem sMin_eq (a b : Int) : sMin a b = if b < a then b else a := by rw [sMin, sld_eq]
theorem sEq_eq (a b : Int) : sEq a b = decide (a = b) := by rw [sEq, sld_eq]
theorem sLt_eq (a b : Int) : sLt a b = decide (a < b) := by rw [sLt, sld_eq]
theorem sLe_eq (a b : Int) : sLe a b = decide (a ≤ b) := by rw [sLe, sld_eq]
theorem sBeq_eq (a b : Bool) : sBeq a b = (a == b) := by rw [sBeq, sld_eq]
theorem sNat_eq (a : Int) : sNat a = a.toNat := by rw [sNat, sld_eq]
theorem sFit_eq (n : Nat) : sFit n = Nat.blt n 4294967296 := by rw [sFit, sld_eq]
def sCat : ByteArray → ByteArray → ByteArray := sld fun a b => a ++ b
def sSeq : ByteArray → ByteArray → Bool := sld fun a b => a.toList == b.toList
def sSub' : ByteArray → Nat → Nat → ByteArray := sld fun s i j => s.extract i j
def sByte : ByteArray → Nat → Int := sld fun s i => (s.data.toList.getD i 0).toNat
def sStr : List (List T) → ByteArray := sld fun rs => ⟨(bytesOf rs).toArray⟩
def sRows : ByteArray → List (List T) := sld strRows
theorem sCat_eq (a b : ByteArray) : sCat a b = a ++ b := by rw [sCat, sld_eq]
theorem sSeq_eq (a b : ByteArray) : sSeq a b = (a.toList == b.toList) := by rw [sSeq, sld_eq]
theorem sSub'_eq (s : ByteArray) (i j : Nat) : sSub' s i j = s.extract i j := by rw [sSub', sld_eq]
theorem sByte_eq (s : ByteArray) (i : Nat) : sByte s i = (s.data.toList.getD i 0).toNat := by rw [sByte, sld_eq]
theorem sStr_eq (rs : List (List T)) : sStr rs = ⟨(bytesOf rs).toArray⟩ := by rw [sStr, sld_eq]
theorem sRows_eq (s : ByteArray) : sRows s = strRows s := by rw [sRows, sld_eq]
def sCell : List (List T) → Nat → Nat → T := sld cell
def sSetCell : List (List T) → Nat → Nat → T → List (List T) := sld setCell
def sSetRow : List (List T) → Nat → Nat → List T → List (List T) := sld setRow
def sCut : Bool → Nat → Nat → List (List T) → List (List T) := sld cut
def sApp : List (List T) → List (List T) → List (List T) := sld fun a b => a ++ b
def sRep : Nat → List T → List (List T) := sld List.replicate
def zap (off len : Nat) (z : List T) (rs : List (List T)) : List (List T) := rs.take off ++ List.replicate len z ++ rs.drop (off + len)
def sZap : Nat → Nat → List T → List (List T) → List (List T) := sld zap
def valEq : Value → Value → Bool
 | .int _ a, .int _ b => decide (a = b)
 | .bool a, .bool b => a == b
 | .string a, .string b => a.toList == b.toList
 | _, _ => false
def keyEq : List Value → List T → Bool
 | [], _ => true
 | v :: vs, .im x :: ts => valEq v x && keyEq vs ts
 | _, _ => false
def mHas (key : List Value) (rs : List (List T)) : Bool := rs.any (keyEq key)
def mGet (key : List Value) (rs : List (List T)) (j : Nat) : T := match rs.find? (keyEq key) with | some r => r.getD (key.length + j) .no | none => .no
def mPut (key val : List Value) : List (List T) → List (List T)
 | [] => [(key ++ val).map .im]
 | r :: rs => bif keyEq key r then (key ++ val).map .im :: rs else r :: mPut key val rs
def sMHas : List Value → List (List T) → Bool := sld mHas
def sMGet : List Value → List (List T) → Nat → T := sld mGet
def sMPut : List Value → List Value → List (List T) → List (List T) := sld mPut
def sLen : List (List T) → Nat := sld List.length
def sRo : List (List T) → List (List T) := sld roRows
theorem sRo_eq (rs : List (List T)) : sRo rs = roRows rs := by rw [sRo, sld_eq]
def sFlat : List (List T) → Bool := sld flatRows
def sBytesOk : List (List T) → Bool := sld bytesOk
def sOkC : List Kd → List (List T) → Nat → Nat → Bool := sld okCells
def iT : T → Int := sld fun t => Value.asInt t.val
def bT : T → Bool := sld fun t => Value.asB t.val
def sT : T → ByteArray := sld fun t => Value.asS t.val
def rT : T → List (List T) := sld T.rws
def okT : Fl → Kd → T → Bool := sld T.okK
def slT : Nat → T → Bool := sld isSl
def iV : Value → Int := sld Value.asInt
def bV : Value → Bool := sld Value.asB
def sV : Value → ByteArray := sld Value.asS
def okVl : Kd → Value → Bool := sld Value.okK
def vAt : List Value → Nat → Value := sld fun vs m => vs.getD m undef
def tAt : List T → Nat → T := sld fun ts m => ts.getD m .no
theorem vAt_eq (vs : List Value) (m : Nat) : vAt vs m = vs.getD m undef := by rw [vAt, sld_eq]
theorem tAt_eq (ts : List T) (m : Nat) : tAt ts m = ts.getD m .no := by rw [tAt, sld_eq]
theorem sCell_eq (rs : List (List T)) (i j : Nat) : sCell rs i j = cell rs i j := by rw [sCell, sld_eq]
theorem sSetCell_eq (rs : List (List T)) (i j : Nat) (t : T) : sSetCell rs i j t = setCell rs i j t := by rw [sSetCell, sld_eq]
theorem sSetRow_eq (rs : List (List T)) (i j : Nat) (ts : List T) : sSetRow rs i j ts = setRow rs i j ts := by rw [sSetRow, sld_eq]
theorem sCut_eq (e : Bool) (off len : Nat) (rs : List (List T)) : sCut e off len rs = cut e off len rs := by rw [sCut, sld_eq]
theorem sApp_eq (a b : List (List T)) : sApp a b = a ++ b := by rw [sApp, sld_eq]
theorem sZap_eq (off len : Nat) (z : List T) (rs : List (List T)) : sZap off len z rs = zap off len z rs := by rw [sZap, sld_eq]
theorem sRep_eq (n : Nat) (r : List T) : sRep n r = List.replicate n r := by rw [sRep, sld_eq]
theorem sMHas_eq (key : List Value) (rs : List (List T)) : sMHas key rs = mHas key rs := by rw [sMHas, sld_eq]
theorem sMGet_eq (key : List Value) (rs : List (List T)) (j : Nat) : sMGet key rs j = mGet key rs j := by rw [sMGet, sld_eq]
theorem sMPut_eq (key val : List Value) (rs : List (List T)) : sMPut key val rs = mPut key val rs := by rw [sMPut, sld_eq]
theorem sLen_eq (rs : List (List T)) : sLen rs = rs.length := by rw [sLen, sld_eq]
theorem sFlat_eq (rs : List (List T)) : sFlat rs = flatRows rs := by rw [sFlat, sld_eq]
theorem sBytesOk_eq (rs : List (List T)) : sBytesOk rs = bytesOk rs := by rw [sBytesOk, sld_eq]
theorem sOkC_eq (ks : List Kd) (rs : List (List T)) (i j : Nat) : sOkC ks rs i j = okCells ks rs i j := by rw [sOkC, sld_eq]
theorem iT_eq (t : T) : iT t = Value.asInt t.val := by rw [iT, sld_eq]
theorem bT_eq (t : T) : bT t = Value.asB t.val := by rw [bT, sld_eq]
theorem sT_eq (t : T) : sT t = Value.asS t.val := by rw [sT, sld_eq]
theorem rT_eq (t : T) : rT t = t.rws := by rw [rT, sld_eq]
theorem okT_eq (f : Fl) (k : Kd) (t : T) : okT f k t = T.okK f k t := by rw [okT, sld_eq]
theorem slT_eq (n : Nat) (t : T) : slT n t = isSl n t := by rw [slT, sld_eq]
theorem iV_eq (v : Value) : iV v = Value.asInt v := by rw [iV, sld_eq]
theorem bV_eq (v : Value) : bV v = Value.asB v := by rw [bV, sld_eq]
theorem sV_eq (v : Value) : sV v = Value.asS v := by rw [sV, sld_eq]
theorem okVl_eq (k : Kd) (v : Value) : okVl k v = Value.okK k v := by rw [okVl, sld_eq]
end
end Go.Vm
namespace Go.Vm
set_option linter.unusedVariables false
set_option linter.unusedSimpArgs false
noncomputable section
inductive V where
 | im (v : Value)
 | nl (sz : Nat)
 | sl (id : Nat) (e : Bool) (off len sz : Nat)
 | pt (id sz i j : Nat)
 | ag (vs : List V)
 | tu (vs : List V)
 | fn (f : Nat) (caps : List V)
 | mp (id : Nat)
 | no
inductive O where
 | box (ro : Bool) (cells : List V)
 | rows (f : Fl) (sz : Nat) (rs : List (List T))
 | link (x ver i j : Nat)
 | mp (kf vf : List Kd) (rs : List (List T))
inductive A where
 | c (t : T)
 | ag (ts : List T)
 | pt (id sz i j : Nat)
 | fn (f : Nat) (caps : List A)
 | no
inductive PO where
 | box (ro : Bool) (cells : List T)
 | rows (f : Fl) (sz : Nat) (rs : List (List T))
structure Out where
 rets : List A
 outs : List T
 pos : List PO
inductive Ty where | cell (k : Kd) | ag (ks : List Kd) | tu (ts : List Ty)
inductive Mode where | bor | own | io | fz | ptr | ptrR | nl
 deriving DecidableEq
def kindsF (P : Program) : Nat → TypeId → List Kd
 | 0, _ => []
 | n + 1, t => match P.underlying t with
  | some (.struct fs) => fs.toList.flatMap fun f => kindsF P n f.type
  | some (.array k e) => (List.replicate k (kindsF P n e)).flatten
  | some (.int k) => [.int k]
  | some .bool => [.bool]
  | some .string => [.str]
  | some (.slice e) => [.sl ((P.info? e).elim 0 (·.size))]
  | _ => [.oth]
def tyF (P : Program) : Nat → TypeId → Ty
 | 0, _ => .cell .oth
 | n + 1, t => match P.underlying t with
  | some (.struct _) => .ag (kindsF P 20 t)
  | some (.array _ _) => .ag (kindsF P 20 t)
  | some (.tuple ts) => .tu (ts.toList.map (tyF P n))
  | _ => match kindsF P 20 t with
   | [k] => .cell k
   | _ => .cell .oth
def ty (P : Program) (t : TypeId) : Ty := tyF P 3 t
def sizeP (P : Program) (t : TypeId) : Nat := (P.info? t).elim 0 (·.size)
def T.etaK (f : Fl) (k : Kd) (t : T) : T :=
 match k with
 | .int k => .im (.int k (Value.asInt t.val))
 | .bool => .im (.bool (Value.asB t.val))
 | .str => .im (.string (Value.asS t.val))
 | .sl sz => .sl f sz t.rws
 | .oth => t
structure Sl where
 ver : Nat
 o : Option O
abbrev Objs := Nat → Sl
def upd {α : Type} (f : Nat → α) (i : Nat) (x : α) : Nat → α := fun n => bif Nat.beq n i then x else f n
structure St where
 tm : Nat → V
 objs : Objs
abbrev WS := List (Bool × Nat × (Out → Option O → Option O))
inductive H (α : Type) where
 | ret (a : α)
 | fail
 | get (i : Nat) (k : Nat → Option O → H α)
 | put (i : Nat) (bump : Bool) (o : Option O) (k : H α)
 | new (i : Nat) (o : O) (k : H α)
 | chk (b : Bool) (k : H α)
 | call (o : Out) (ws : WS) (ok : Out → Bool) (k : Out → α)
def putS (s : Objs) (i : Nat) (bump : Bool) (o : Option O) : Objs := upd s i ⟨bif bump then (s i).ver + 1 else (s i).ver, o⟩
def putAll (out : Out) : WS → Objs → Option Objs
 | [], s => some s
 | (nw, i, f) :: r, s => bif !nw || Nat.beq (s i).ver 0 then putAll out r (putS s i true (f out (s i).o)) else none
def H.run {α : Type} : H α → Objs → List (Bool × Nat) → Option (α × Objs × List (Bool × Nat))
 | .ret a, s, fp => some (a, s, fp)
 | .fail, _, _ => none
 | .get i k, s, fp => (k (s i).ver (s i).o).run s ((false, i) :: fp)
 | .put i b o k, s, fp => k.run (putS s i b o) ((true, i) :: fp)
 | .new i o k, s, fp => bif Nat.beq (s i).ver 0 then k.run (putS s i true (some o)) ((true, i) :: fp) else none
 | .chk b k, s, fp => bif b then k.run s fp else none
 | .call r ws ok k, s, fp => bif ok r then (putAll r ws s).bind fun s' => some (k r, s', ws.map (fun w => (true, w.2.1)) ++ fp) else none
def H.runK {α β : Type} : H α → Objs → List (Bool × Nat) → (α → Objs → List (Bool × Nat) → Option β) → Option β
 | .ret a, s, fp, K => K a s fp
 | .fail, _, _, _ => none
 | .get i k, s, fp, K => (k (s i).ver (s i).o).runK s ((false, i) :: fp) K
 | .put i b o k, s, fp, K => k.runK (putS s i b o) ((true, i) :: fp) K
 | .new i o k, s, fp, K => bif Nat.beq (s i).ver 0 then k.runK (putS s i true (some o)) ((true, i) :: fp) K else none
 | .chk b k, s, fp, K => bif b then k.runK s fp K else none
 | .call r ws ok k, s, fp, K => bif ok r then (putAll r ws s).bind fun s' => K (k r) s' (ws.map (fun w => (true, w.2.1)) ++ fp) else none
theorem H.runK_eq {α β : Type} (p : H α) : ∀ (s : Objs) (fp : List (Bool × Nat)) (K : α → Objs → List (Bool × Nat) → Option β), p.runK s fp K = (p.run s fp).bind fun r => K r.1 r.2.1 r.2.2 := by
 induction p with
 | ret a => intro s fp K; rfl
 | fail => intro s fp K; rfl
 | get i k ih => intro s fp K; exact ih _ _ _ _ _
 | put i b o k ih => intro s fp K; exact ih _ _ _
 | new i o k ih =>
  intro s fp K
  simp only [H.runK, H.run]
  cases Nat.beq (s i).ver 0
  ·rfl
  ·exact ih _ _ _
 | chk b k ih =>
  intro s fp K
  simp only [H.runK, H.run]
  cases b
  ·rfl
  ·exact ih _ _ _
 | call r ws ok k =>
  intro s fp K
  simp only [H.runK, H.run]
  cases ok r
  ·rfl
  ·simp only [cond_true]
   cases putAll r ws s <;> rfl
def cutS (e : Bool) (off len : Nat) (rs : List (List T)) : List (List T) := bif e && Nat.beq off 0 then rs else sCut e off len rs
theorem cutS_eq (e : Bool) (off len : Nat) (rs : List (List T)) : cutS e off len rs = cut e off len rs := by
 rw [cutS, sCut_eq]
 cases e with
 | false => rfl
 | true => cases off <;> rfl
def bor {α : Type} (v : V) (k : T → H α) : H α :=
 match v with
 | .im v => k (.im v)
 | .nl sz => k (.sl .ro sz [])
 | .sl id e off len sz => .get id fun ver' => fun
  | some (.rows _ sz' rs) => .chk (Nat.beq sz sz') (k (.sl .ro sz (cutS e off len rs)))
  | some (.link x ver i j) => .get x fun ver' => fun
   | some (.rows _ _ rs) => .chk (Nat.beq ver ver' && slT sz (sCell rs i j)) (k (.sl .ro sz (cutS e off len (rT (sCell rs i j)))))
   | _ => .fail
  | _ => .fail
 | _ => .fail
def own {α : Type} (v : V) (k : T → H α) : H α :=
 match v with
 | .im v => k (.im v)
 | .nl sz => k (.sl .own sz [])
 | .sl id e off len sz => .get id fun ver' => fun
  | some (.rows f sz' rs) => .chk (Nat.beq sz sz') (match f with
   | .own => .put id true none (k (.sl .own sz (cutS e off len rs)))
   | f => k (.sl f sz (cutS e off len rs)))
  | some (.link x ver i j) => .get x fun ver' => fun
   | some (.rows .own szx rs) => .chk (Nat.beq ver ver' && okT .own (.sl sz) (sCell rs i j))
     (.put x true (some (.rows .own szx (sSetCell rs i j .no))) (.put id true none (k (.sl .own sz (cutS e off len (rT (sCell rs i j)))))))
   | some (.rows f _ rs) => .chk (Nat.beq ver ver' && slT sz (sCell rs i j)) (k (.sl f sz (cutS e off len (rT (sCell rs i j)))))
   | _ => .fail
  | _ => .fail
 | _ => .fail
def frz {α : Type} (v : V) (k : T → H α) : H α :=
 match v with
 | .im v => k (.im v)
 | .nl sz => k (.sl .fz sz [])
 | .sl id e off len sz => .get id fun ver' => fun
  | some (.rows f sz' rs) => .chk (Nat.beq sz sz') (match f with
   | .own => .put id false (some (.rows .fz sz' rs)) (k (.sl .fz sz (cutS e off len rs)))
   | .fz => k (.sl .fz sz (cutS e off len rs))
   | .ro => .fail)
  | some (.link x ver i j) => .get x fun ver' => fun
   | some (.rows .fz _ rs) => .chk (Nat.beq ver ver' && slT sz (sCell rs i j)) (k (.sl .fz sz (cutS e off len (rT (sCell rs i j)))))
   | _ => .fail
  | _ => .fail
 | _ => .fail
def foldM {α : Type} (m : Mode) (v : V) (k : T → H α) : H α :=
 match m with
 | .bor | .ptrR => bor v k
 | .fz => .fail
 | _ => own v k
def foldL {α : Type} (m : Mode) : List V → (List T → H α) → H α
 | [], k => k []
 | v :: vs, k => foldM m v fun t => foldL m vs fun ts => k (t :: ts)
def unT (n : Nat) : T → V
 | .im v => .im v
 | .sl _ sz rs => .sl n true 0 (sLen rs) sz
 | .no => .no
def unO : T → Option O
 | .sl f sz rs => some (.rows f sz rs)
 | _ => none
def unL (n : Nat) : List T → List V
 | [] => []
 | t :: ts => unT n t :: unL (n + 1) ts
def putT (n : Nat) (t : T) (s : Objs) : Objs :=
 match unO t with
 | some o => putS s n true (some o)
 | none => s
def putL (n : Nat) : List T → Objs → Objs
 | [], s => s
 | t :: ts, s => putT n t (putL (n + 1) ts s)
def unA (n : Nat) : A → V
 | .c t => unT n t
 | .ag ts => .ag (unL n ts)
 | .pt id sz i j => .pt id sz i j
 | .fn f caps => .fn f (go caps)
 | .no => .no
where
 go : List A → List V
  | [] => []
  | .pt id sz i j :: r => .pt id sz i j :: go r
  | _ :: r => .no :: go r
def putA (n : Nat) (a : A) (s : Objs) : Objs :=
 match a with
 | .c t => putT n t s
 | .ag ts => putL n ts s
 | _ => s
def Value.force {β : Type} (v : Value) (k : Value → β) : β :=
 match v with
 | .int kd n => k (.int kd n)
 | .bool b => k (.bool b)
 | .string s => k (.string s)
 | v => k v
def V.force1 {β : Type} (v : V) (k : V → β) : β :=
 match v with
 | .im v => Value.force v fun v => k (.im v)
 | .nl sz => k (.nl sz)
 | .sl id e off len sz => k (.sl id e off len sz)
 | .pt id sz i j => k (.pt id sz i j)
 | .mp id => k (.mp id)
 | .no => k .no
 | v => k v
def V.forceL1 {β : Type} : List V → (List V → β) → β
 | [], k => k []
 | v :: vs, k => v.force1 fun v => V.forceL1 vs fun vs => k (v :: vs)
def V.force2 {β : Type} (v : V) (k : V → β) : β :=
 match v with
 | .ag vs => V.forceL1 vs fun vs => k (.ag vs)
 | .fn f vs => V.forceL1 vs fun vs => k (.fn f vs)
 | v => v.force1 k
def V.forceL2 {β : Type} : List V → (List V → β) → β
 | [], k => k []
 | v :: vs, k => v.force2 fun v => V.forceL2 vs fun vs => k (v :: vs)
def V.force {β : Type} (v : V) (k : V → β) : β :=
 match v with
 | .tu vs => V.forceL2 vs fun vs => k (.tu vs)
 | v => v.force2 k
def O.force {β : Type} (o : Option O) (k : Option O → β) : β :=
 match o with
 | some (.box ro cells) => V.forceL2 cells fun cells => k (some (.box ro cells))
 | some (.rows f sz rs) => k (some (.rows f sz rs))
 | some (.link x ver i j) => k (some (.link x ver i j))
 | some (.mp kf vf rs) => k (some (.mp kf vf rs))
 | none => k none
def O.forceL {β : Type} : List (Option O) → (List (Option O) → β) → β
 | [], k => k []
 | o :: os, k => O.force o fun o => O.forceL os fun os => k (o :: os)
theorem Value.force_eq {β : Type} (v : Value) (k : Value → β) : Value.force v k = k v := by cases v <;> rfl
theorem V.force1_eq {β : Type} (v : V) (k : V → β) : v.force1 k = k v := by
 cases v with
 | im v => exact Value.force_eq v (fun v => k (.im v))
 | _ => rfl
theorem V.forceL1_eq {β : Type} (vs : List V) : ∀ (k : List V → β), V.forceL1 vs k = k vs := by
 induction vs with
 | nil => intro k; rfl
 | cons v vs ih => intro k; rw [V.forceL1, V.force1_eq, ih]
theorem V.force2_eq {β : Type} (v : V) (k : V → β) : v.force2 k = k v := by
 cases v with
 | ag vs => exact V.forceL1_eq vs (fun vs => k (.ag vs))
 | fn f vs => exact V.forceL1_eq vs (fun vs => k (.fn f vs))
 | im v => exact V.force1_eq (.im v) k
 | _ => rfl
theorem V.forceL2_eq {β : Type} (vs : List V) : ∀ (k : List V → β), V.forceL2 vs k = k vs := by
 induction vs with
 | nil => intro k; rfl
 | cons v vs ih => intro k; rw [V.forceL2, V.force2_eq, ih]
theorem V.force_eq {β : Type} (v : V) (k : V → β) : v.force k = k v := by
 cases v with
 | tu vs => exact V.forceL2_eq vs (fun vs => k (.tu vs))
 | ag vs => exact V.force2_eq (.ag vs) k
 | fn f vs => exact V.force2_eq (.fn f vs) k
 | im v => exact V.force2_eq (.im v) k
 | _ => rfl
theorem O.force_eq {β : Type} (o : Option O) (k : Option O → β) : O.force o k = k o := by
 rcases o with _ | o
 ·rfl
 ·cases o with
  | box ro cells => exact V.forceL2_eq cells (fun cells => k (some (.box ro cells)))
  | rows => rfl
  | link => rfl
  | mp => rfl
theorem O.forceL_eq {β : Type} (os : List (Option O)) : ∀ (k : List (Option O) → β), O.forceL os k = k os := by
 induction os with
 | nil => intro k; rfl
 | cons o os ih => intro k; rw [O.forceL, O.force_eq, ih]
def forceN {β : Type} : List Nat → (List Nat → β) → β
 | [], k => k []
 | n :: ns, k => forceN ns fun ns => k (n :: ns)
theorem forceN_eq {β : Type} (ns : List Nat) : ∀ (k : List Nat → β), forceN ns k = k ns := by
 induction ns with
 | nil => intro k; rfl
 | cons n ns ih => intro k; rw [forceN, ih]
def nArg (j : Nat) : Nat := 10000 + 64 * j
def nPO (p : Nat) : Nat := 20000 + p
def nPC (p : Nat) : Nat := 30000 + 64 * p
def nKey (key sub : Nat) : Nat := 1000000 + 8192 * key + sub
def nTm (t : Nat) : Nat := 100000 + 64 * t
def nBx (b c : Nat) : Nat := 50000000000 + 64 * b + c
end
end Go.Vm
namespace Go.Vm
set_option linter.unusedVariables false
set_option linter.unusedSimpArgs false
noncomputable section
structure Env where
 P : Program
 G : FuncId → List A → List PO → Bool × Out
 modes : FuncId → Option (List Mode)       -- where they are not the usual ones
 flag : FuncId → Fl                        -- the flag of a result's slices
 freeze : List Nat                         -- slots that are frozen when assigned
def vCells : V → List V
 | .ag vs => vs
 | v => [v]
def castK : Kd → V → V
 | .sl sz, .nl _ => .nl sz
 | _, v => v
def castL : List Kd → List V → List V
 | k :: ks, v :: vs => castK k v :: castL ks vs
 | _, vs => vs
def castT (t : Ty) (v : V) : V :=
 match t, v with
 | .cell k, v => castK k v
 | .ag ks, .ag vs => .ag (castL ks vs)
 | _, v => v
def flatB : Value → Bool
 | .agg _ | .tuple _ => false
 | _ => true
def oneV : Value → V
 | .slice none 0 0 => .nl 0
 | v => bif flatB v then .im v else .no
def constV : Value → V
 | .agg cs => bif cs.toList.all flatB then .ag (cs.toList.map oneV) else .no
 | .func (.func f) a b => bif a.isEmpty && b.isEmpty then .fn f [] else .no
 | v => oneV v
def V.notNo : V → Bool
 | .no | .tu _ => false
 | _ => true
def hasU (P : Program) (t : TypeId) : Bool := (P.underlying t).isSome
def zeroOk : List Kd → List Value → Bool
 | [], [] => true
 | k :: ks, v :: vs => (match k, v with
  | .int k, .int k' n => decide (k = k') && decide (n = 0)
  | .bool, .bool b => !b
  | .str, .string s => Nat.beq s.size 0
  | .sl _, .slice none 0 0 => true
  | .oth, v => flatB v
  | _, _ => false) && zeroOk ks vs
 | _, _ => false
def zeroP (P : Program) (t : TypeId) : List Value := match (P.info? t).bind (·.zero) with | some v => v.cells.toList | none => [.tuple #[]]
def St.ev (σ : St) : Operand → V
 | .tmp t => σ.tm t
 | .const v => constV v
 | .func f => .fn f []
 | .global _ => .no
def V.int : V → Int | .im v => Value.asInt v | _ => 0
def V.b : V → Bool | .im v => Value.asB v | _ => false
def V.s : V → ByteArray | .im v => Value.asS v | _ => .empty
def V.isK (k : Kd) : V → Bool | .im v => Value.okK k v | _ => false
def ksOf (P : Program) (t : TypeId) : List Kd := kindsF P 20 t
def zeroK : Kd → V
 | .int k => .im (.int k 0)
 | .bool => .im (.bool false)
 | .str => .im (.string .empty)
 | .sl sz => .nl sz
 | .oth => .no
def zeroT : Kd → T
 | .int k => .im (.int k 0)
 | .bool => .im (.bool false)
 | .str => .im (.string .empty)
 | .sl sz => .sl .own sz []
 | .oth => .no
def isAggT (P : Program) (t : TypeId) : Bool :=
 match P.underlying t with
 | some (.struct _) | some (.array _ _) => true
 | _ => false
def wrapAg (agg : Bool) (vs : List V) : V := bif agg then .ag vs else vs.getD 0 .no
def rdCells (id ver i : Nat) (rs : List (List T)) : List Kd → (j n : Nat) → (List V → H V) → H V
 | [], _, _, k => k []
 | .sl sz :: ks, j, n, k => .new n (.link id ver i j) (rdCells id ver i rs ks (j + 1) (n + 1) fun vs => k (.sl n true 0 (sLen (rT (sCell rs i j))) sz :: vs))
 | .int kd :: ks, j, n, k => rdCells id ver i rs ks (j + 1) (n + 1) fun vs => k (.im (.int kd (iT (sCell rs i j))) :: vs)
 | .bool :: ks, j, n, k => rdCells id ver i rs ks (j + 1) (n + 1) fun vs => k (.im (.bool (bT (sCell rs i j))) :: vs)
 | .str :: ks, j, n, k => rdCells id ver i rs ks (j + 1) (n + 1) fun vs => k (.im (.string (sT (sCell rs i j))) :: vs)
 | .oth :: _, _, _, _ => .fail
def rdFlat (i : Nat) (rs : List (List T)) : List Kd → (j : Nat) → (List V → H V) → H V
 | [], _, k => k []
 | .int kd :: ks, j, k => rdFlat i rs ks (j + 1) fun vs => k (.im (.int kd (iT (sCell rs i j))) :: vs)
 | .bool :: ks, j, k => rdFlat i rs ks (j + 1) fun vs => k (.im (.bool (bT (sCell rs i j))) :: vs)
 | .str :: ks, j, k => rdFlat i rs ks (j + 1) fun vs => k (.im (.string (sT (sCell rs i j))) :: vs)
 | _ :: _, _, _ => .fail
def loadH (P : Program) (key : Nat) (t : TypeId) : V → H V
 | .pt id sz i j =>
  .get id fun ver' => fun
  | some (.box _ cells) => .chk (hasU P t && Nat.ble (j + sizeP P t) cells.length && Nat.beq i 0 && (isAggT P t || Nat.beq (sizeP P t) 1)) (.ret (wrapAg (isAggT P t) ((cells.drop j).take (sizeP P t))))
  | some (.rows _ sz' rs) => .chk (hasU P t && Nat.beq sz sz' && Nat.ble (j + sizeP P t) sz && Nat.beq (ksOf P t).length (sizeP P t) && (isAggT P t || Nat.beq (sizeP P t) 1)) (.chk (sOkC (ksOf P t) rs i j) (rdCells id ver' i rs (ksOf P t) j (nKey key 0) fun vs => .ret (wrapAg (isAggT P t) vs)))
  | some (.link x ver i' j') => .get x fun ver' => fun
   | some (.rows _ _ rs) => .chk (hasU P t && Nat.beq ver ver' && Nat.ble (j + sizeP P t) sz && Nat.beq (ksOf P t).length (sizeP P t) && (isAggT P t || Nat.beq (sizeP P t) 1) && slT sz (sCell rs i' j') && sOkC (ksOf P t) (rT (sCell rs i' j')) i j)
     (rdFlat i (rT (sCell rs i' j')) (ksOf P t) j fun vs => .ret (wrapAg (isAggT P t) vs))
   | _ => .fail
  | _ => .fail
 | _ => .fail
def Kd.flat : Kd → Bool
 | .int _ | .bool | .str => true
 | _ => false
def storeH (P : Program) (t : TypeId) (p x : V) : H V :=
 match p with
 | .pt id sz i j =>
  .get id fun ver' => fun
  | some (.box false cells) => .chk (hasU P t && V.notNo x && Nat.ble (j + sizeP P t) cells.length && Nat.beq i 0 && Nat.beq (vCells (castT (ty P t) x)).length (sizeP P t))
    (.put id true (some (.box false (splice cells j (vCells (castT (ty P t) x))))) (.ret .no))
  | some (.rows .own sz' _) => .chk (hasU P t && V.notNo x && Nat.beq sz sz' && Nat.ble (j + sizeP P t) sz && Nat.beq (vCells (castT (ty P t) x)).length (sizeP P t))
    (foldL .own (vCells (castT (ty P t) x)) fun ts => .get id fun ver' => fun
     | some (.rows .own sz'' rs) => .chk (Nat.beq sz sz'') (.put id true (some (.rows .own sz (sSetRow rs i j ts))) (.ret .no))
     | _ => .fail)
  | _ => .fail
 | _ => .fail
def isU8 (P : Program) (e : TypeId) : Bool := match P.underlying e with | some (.int .u8) => true | _ => false
def srcH {α : Type} (flat : Bool) (x : V) (k : List (List T) → H α) : H α :=
 match x with
 | .im (.string s) => k (sRows s)
 | x => bif flat then bor x (fun t => match t with | .sl _ _ rs => .chk (sFlat rs) (k rs) | _ => .fail) else own x (fun t => match t with | .sl .own _ rs => k rs | .sl .ro _ rs => k (sRo rs) | _ => .fail)
def szV (esz : Nat) (x : V) : V :=
 match x with
 | .sl id t off len sz => bif Nat.beq sz esz then .sl id t off len sz else .no
 | x => castK (.sl esz) x
def appendH (P : Program) (key : Nat) (ts : Array TypeId) (s x : V) : H V :=
 match P.underlying (ts.getD 0 0) with
 | some (.slice e) =>
  .chk (Nat.beq ts.size 2 && hasU P (ts.getD 1 0) && (match P.underlying (ts.getD 1 0) with | some (.int _) => false | some .string => isU8 P e && Nat.beq (sizeP P e) 1 | _ => (match x with | .im _ => false | _ => true)) && Nat.blt 0 (sizeP P e) && Nat.ble ((P.info? e).elim 100000 (·.bytes)) 4096 && zeroOk (ksOf P e) (zeroP P e) && Nat.beq (ksOf P e).length (sizeP P e))
   (srcH ((ksOf P e).all Kd.flat) (szV (sizeP P e) x) fun ys => own (castK (.sl (sizeP P e)) s) fun
    | .sl .own sz xs => .chk (Nat.beq sz (sizeP P e) && sFit (sLen xs + sLen ys))
      (.new (nKey key 0) (.rows .own sz (sApp xs ys)) (.ret (.sl (nKey key 0) true 0 (sLen (sApp xs ys)) sz)))
    | _ => .fail)
 | _ => .fail
def appendNH (P : Program) (key : Nat) (ts : Array TypeId) (n : Int) : H V :=
 match P.underlying (ts.getD 0 0) with
 | some (.slice e) =>
  .chk (Nat.beq ts.size 2 && (match P.underlying (ts.getD 1 0) with | some (.int _) => true | _ => false) && sLe 0 n && sLt n 4294967296 && Nat.blt 0 (sizeP P e) && Nat.ble ((P.info? e).elim 100000 (·.bytes)) 4096 && zeroOk (ksOf P e) (zeroP P e) && Nat.beq (ksOf P e).length (sizeP P e))
   (.new (nKey key 0) (.rows .own (sizeP P e) (sRep n.toNat ((ksOf P e).map zeroT))) (.ret (.sl (nKey key 0) true 0 n.toNat (sizeP P e))))
 | _ => .fail
def clearH (P : Program) (ts : Array TypeId) (x : V) : H V :=
 match P.underlying (ts.getD 0 0), x with
 | some (.slice e), .sl id _ off len sz => .get id fun _ => fun
  | some (.rows .own sz' rs) => .chk (Nat.blt 0 ts.size && Nat.blt 0 len && Nat.beq sz sz' && Nat.beq sz (sizeP P e) && zeroOk (ksOf P e) (zeroP P e) && Nat.beq (ksOf P e).length (sizeP P e))
    (.put id true (some (.rows .own sz (sZap off len ((ksOf P e).map zeroT) rs))) (.ret .no))
  | _ => .fail
 | _, _ => .fail
def keyTy (P : Program) (t : TypeId) : Bool :=
 match P.underlying t with
 | some .string => true
 | some (.int _) => true
 | some (.array n e) => Nat.ble 2 n && (match P.underlying e with | some (.int _) => true | _ => false) && Nat.beq (sizeP P e) 1
 | _ => false
def isAg (ks : List Kd) : Bool := Nat.ble 2 ks.length
def valTy (P : Program) (t : TypeId) : Bool :=
 (ksOf P t).all Kd.flat && match (P.info? t).bind (·.zero) with
 | some (.agg cs) => isAg (ksOf P t) && zeroOk (ksOf P t) cs.toList
 | some v => Nat.beq (ksOf P t).length 1 && zeroOk (ksOf P t) [v]
 | none => false
def mapKs (P : Program) (t : TypeId) : Option (List Kd × List Kd) :=
 match P.underlying t with
 | some (.map kt et) => bif keyTy P kt && valTy P et then some (ksOf P kt, ksOf P et) else none
 | _ => none
def okVs : List Kd → List Value → Bool
 | [], [] => true
 | k :: ks, v :: vs => Value.okK k v && okVs ks vs
 | _, _ => false
def imL : List V → Option (List Value)
 | [] => some []
 | .im v :: vs => (imL vs).map (v :: ·)
 | _ => none
def etaM (g : Nat → T) : List Kd → (j : Nat) → List V
 | [], _ => []
 | .int k :: ks, j => .im (.int k (iT (g j))) :: etaM g ks (j + 1)
 | .bool :: ks, j => .im (.bool (bT (g j))) :: etaM g ks (j + 1)
 | .str :: ks, j => .im (.string (sT (g j))) :: etaM g ks (j + 1)
 | _ :: ks, j => .no :: etaM g ks (j + 1)
def cellsK (ks : List Kd) (v : V) : Option (List Value) :=
 match v with
 | .ag vs => bif isAg ks then (imL vs).bind fun cs => bif okVs ks cs then some cs else none else none
 | .im v => bif !isAg ks && okVs ks [v] then some [v] else none
 | _ => none
def makeMapH (P : Program) (key : Nat) (t : TypeId) : H V :=
 match mapKs P t with
 | some (kf, vf) => .new (nKey key 0) (.mp kf vf []) (.ret (.mp (nKey key 0)))
 | none => .fail
def lookupH (P : Program) (t : TypeId) (m k : V) (ok : Bool) : H V :=
 match mapKs P t, m with
 | some (kf, vf), .mp id => match cellsK kf k with
  | some kc => .get id fun _ => fun
   | some (.mp kf' vf' rs) => .chk (decide (kf = kf') && decide (vf = vf')) (.ret (bif ok then .tu [wrapAg (isAg vf) (etaM (sMGet kc rs) vf 0), .im (.bool (sMHas kc rs))] else wrapAg (isAg vf) (etaM (sMGet kc rs) vf 0)))
   | _ => .fail
  | none => .fail
 | _, _ => .fail
def updateH (P : Program) (t : TypeId) (m k x : V) : H V :=
 match mapKs P t, m with
 | some (kf, vf), .mp id => match cellsK kf k, cellsK vf x with
  | some kc, some vc => .get id fun _ => fun
   | some (.mp kf' vf' rs) => .chk (decide (kf = kf') && decide (vf = vf')) (.put id true (some (.mp kf vf (sMPut kc vc rs))) (.ret .no))
   | _ => .fail
  | _, _ => .fail
 | _, _ => .fail
def appendAny (P : Program) (key : Nat) (ts : Array TypeId) (s x : V) : H V :=
 match s, x with
 | .nl _, .im (.int .i64 n) => appendNH P key ts n
 | s, x => appendH P key ts s x
def idxK {α : Type} (v : V) (k : Int → H α) : H α :=
 match v with
 | .im (.int .i64 n) => k n
 | _ => .fail
def optK {α : Type} (v : Option V) (d : Int) (k : Int → H α) : H α :=
 match v with
 | none => k d
 | some v => idxK v k
def makeSliceH (P : Program) (key : Nat) (t : TypeId) (l c : V) : H V :=
 match P.underlying t with
 | some (.slice e) =>
  idxK l fun l => idxK c fun c => .chk (sEq l c && sLe 0 l && sLt l 4294967296 && Nat.blt 0 (sizeP P e) && Nat.ble ((P.info? e).elim 100000 (·.bytes)) 4096 && hasU P e && zeroOk (ksOf P e) (zeroP P e) && Nat.beq (ksOf P e).length (sizeP P e))
   (.new (nKey key 0) (.rows .own (sizeP P e) (sRep l.toNat ((ksOf P e).map zeroT))) (.ret (.sl (nKey key 0) true 0 l.toNat (sizeP P e))))
 | _ => .fail
def ksTy : List Kd → Ty
 | [kd] => .cell kd
 | ks => .ag ks
def buildSliceGo (n : Nat) (ks : List Kd) : List (Nat × V) → List (List T) → (List (List T) → H V) → H V
 | [], rs, k => k rs
 | (i, v) :: ps, rs, k => .chk (V.notNo v && Nat.blt i n && Nat.beq (vCells (castT (ksTy ks) v)).length ks.length)
   (foldL .own (vCells (castT (ksTy ks) v)) fun ts => buildSliceGo n ks ps (rs.set i ts) k)
def buildSliceH (P : Program) (key : Nat) (t : TypeId) (n : Nat) (ps : List (Nat × V)) : H V :=
 match P.underlying t with
 | some (.slice e) => .chk (Nat.blt 0 (sizeP P e) && Nat.ble n 4096 && Nat.ble (sizeP P e) 4096 && hasU P e && zeroOk (ksOf P e) (zeroP P e) && Nat.beq (ksOf P e).length (sizeP P e))
   (buildSliceGo n (ksOf P e) ps (List.replicate n ((ksOf P e).map zeroT)) fun rs =>
    .new (nKey key 0) (.rows .own (sizeP P e) rs) (.ret (.sl (nKey key 0) true 0 n (sizeP P e))))
 | _ => .fail
def buildGo (place : Nat → Option (Nat × Nat × Ty)) : List (Nat × V) → List V → Option (List V)
 | [], cs => some cs
 | (i, v) :: ps, cs => match place i with
  | some (off, n, tt) => bif V.notNo v && Nat.beq (vCells (castT tt v)).length n && Nat.ble (off + n) cs.length then buildGo place ps (splice cs off (vCells (castT tt v))) else none
  | none => none
def buildV (P : Program) (t : TypeId) (ps : List (Nat × V)) : H V :=
 match P.underlying t with
 | some (.struct fs) => .chk (zeroOk (ksOf P t) (zeroP P t) && Nat.beq (ksOf P t).length (sizeP P t) && fs.all fun f => (P.info? f.type).isSome) (match buildGo (fun i => match fs[i]? with | some f => some (f.offset, sizeP P f.type, ty P f.type) | none => none) ps ((ksOf P t).map zeroK) with | some cs => .ret (.ag cs) | none => .fail)
 | some (.array _ e) => .chk (zeroOk (ksOf P t) (zeroP P t) && Nat.beq (ksOf P t).length (sizeP P t) && (P.info? e).isSome) (match buildGo (fun i => some (i * sizeP P e, sizeP P e, ty P e)) ps ((ksOf P t).map zeroK) with | some cs => .ret (.ag cs) | none => .fail)
 | _ => .fail
def fieldOf (P : Program) (s : TypeId) (f : Nat) : Option (Nat × Nat × Bool) :=
 match P.underlying s with
 | some (.struct fs) => match fs[f]? with
  | some f => bif hasU P f.type then some (f.offset, sizeP P f.type, isAggT P f.type) else none
  | none => none
 | _ => none
def isBoolT (P : Program) (t : TypeId) : Bool := match P.underlying t with | some .bool => true | _ => false
def binV (tb : Bool) (op : BinOp) (x y : V) : H V :=
 match x, y with
 | .im (.int k a), .im (.int k' b) =>
  match op with
  | .shl => .chk (sLe 0 b) (.ret (.im (.int k (sShl k a b))))
  | .shr => .chk (sLe 0 b) (.ret (.im (.int k (sShr k a b))))
  | op => .chk (decide (k = k')) (match op with
   | .add => .ret (.im (.int k (sAdd k a b)))
   | .sub => .ret (.im (.int k (sSub k a b)))
   | .mul => .ret (.im (.int k (sMul k a b)))
   | .quo => .chk (!sEq b 0) (.ret (.im (.int k (sQuo k a b))))
   | .rem => .chk (!sEq b 0) (.ret (.im (.int k (sRem a b))))
   | .and => .ret (.im (.int k (sAnd k a b)))
   | .or => .ret (.im (.int k (sOr k a b)))
   | .xor => .ret (.im (.int k (sXor k a b)))
   | .eql => .ret (.im (.bool (sEq a b)))
   | .neq => .ret (.im (.bool (!sEq a b)))
   | .lss => .ret (.im (.bool (sLt a b)))
   | .leq => .ret (.im (.bool (sLe a b)))
   | .gtr => .ret (.im (.bool (sLt b a)))
   | .geq => .ret (.im (.bool (sLe b a)))
   | _ => .fail)
 | .im (.string a), .im (.string b) =>
  match op with
  | .add => .chk (sFit (a.size + b.size)) (.ret (.im (.string (sCat a b))))
  | .eql => .ret (.im (.bool (sSeq a b)))
  | .neq => .ret (.im (.bool (!sSeq a b)))
  | _ => .fail
 | .im (.bool a), .im (.bool b) =>
  match op with
  | .eql => .chk tb (.ret (.im (.bool (sBeq a b))))
  | .neq => .chk tb (.ret (.im (.bool (!sBeq a b))))
  | _ => .fail
 | _, _ => .fail
def kindIs (d : Option TypeDesc) (v : V) : Bool :=
 match d, v with
 | some (.int k), .im (.int k' _) => decide (k = k')
 | some .bool, .im (.bool _) => true
 | some .string, .im (.string _) => true
 | _, _ => false
def eqTyOk (P : Program) : List Field → Nat → List V → Bool
 | [], _, [] => true
 | f :: fs, n, v :: vs => (f.name != "_") && Nat.beq f.offset n && Nat.beq (sizeP P f.type) 1 && !isAggT P f.type && kindIs (P.underlying f.type) v && eqTyOk P fs (n + 1) vs
 | _, _, _ => false
def eqCell : V → V → Bool
 | .im (.int _ a), .im (.int _ b) => sEq a b
 | .im (.bool a), .im (.bool b) => sBeq a b
 | .im (.string a), .im (.string b) => sSeq a b
 | _, _ => false
def eqCells : List V → List V → Bool
 | x :: xs, y :: ys => eqCell x y && eqCells xs ys
 | _, _ => true
def eqAgV (P : Program) (t : TypeId) (fs : List Field) (op : BinOp) (xs ys : List V) : H V :=
 .chk (eqTyOk P fs 0 xs && eqTyOk P fs 0 ys && !P.stoodInHeld t && !P.eqGuardType P.depth t) (match op with
  | .eql => .ret (.im (.bool (eqCells xs ys)))
  | .neq => .ret (.im (.bool (!eqCells xs ys)))
  | _ => .fail)
def unV (op : UnOp) (x : V) : H V :=
 match op, x with
 | .neg, .im (.int k n) => .ret (.im (.int k (sNeg k n)))
 | .xor, .im (.int k n) => .ret (.im (.int k (sCpl k n)))
 | .not, .im (.bool b) => .ret (.im (.bool (!b)))
 | _, _ => .fail
def convH (P : Program) (key : Nat) (s d : TypeId) (x : V) : H V :=
 .chk (hasU P s) <| match P.underlying d, x with
 | some (.int k), .im (.int _ n) => .ret (.im (.int k (sWrap k n)))
 | some .string, .im (.string s) => .ret (.im (.string s))
 | some (.slice e), .im (.string b) => .chk ((match P.underlying s with | some .string => true | _ => false) && isU8 P e && Nat.beq (sizeP P e) 1 && sFit b.size)
   (.new (nKey key 0) (.rows .own 1 (sRows b)) (.ret (.sl (nKey key 0) true 0 b.size 1)))
 | some .string, x => match P.underlying s with
  | some (.slice e) => .chk (isU8 P e && Nat.beq (sizeP P e) 1) (bor (castT (.cell (.sl 1)) x) fun t => .chk (isSl 1 t && sBytesOk t.rws) (.ret (.im (.string (sStr t.rws)))))
  | _ => .fail
 | _, _ => .fail
def cutV (esz : Nat) (lo hi : Option V) (max : Option V) (x : V) : H V :=
 match x with
 | .im (.string s) => optK lo 0 fun l => optK hi s.size fun h => .chk (max.isNone && sLe 0 l && sLe l h && sLe h s.size) (.ret (.im (.string (sSub' s l.toNat h.toNat))))
 | .sl id e off len sz => optK lo 0 fun l => match hi with
  | none => .chk (max.isNone && Nat.beq sz esz && sLe 0 l && sLe l len) (.ret (.sl id e (l.toNat + off) (len - l.toNat) sz))
  | some h => idxK h fun h => .chk (max.isNone && Nat.beq sz esz && sLe 0 l && sLe l h && sLe h len) (.ret (.sl id false (l.toNat + off) (h.toNat - l.toNat) sz))
 | .nl sz => optK lo 0 fun l => optK hi 0 fun h => .chk (max.isNone && sEq l 0 && sEq h 0) (.ret (.nl sz))
 | _ => .fail
def cut0H (key esz : Nat) (lo : Option V) (hi mx x : V) : H V :=
 optK lo 0 fun l => idxK hi fun h => idxK mx fun m => .chk (sEq l 0 && sEq h 0 && sEq m 0 && (match x with | .sl _ _ _ _ _ | .nl _ => true | _ => false))
  (.new (nKey key 0) (.rows .own esz []) (.ret (.sl (nKey key 0) true 0 0 esz)))
def cutH (key esz : Nat) (u : Bool) (lo hi mx : Option V) (x : V) : H V :=
 match hi, mx with
 | some h, some m => bif u then cut0H key esz lo h m x else .fail
 | _, _ => bif u then cutV esz lo hi mx (match x with | .im _ => .no | v => v) else .fail
def indexAddrH (P : Program) (t : TypeId) (x i : V) : H V :=
 match P.underlying t, x with
 | some (.slice e), .sl id _ off len sz => idxK i fun i => .chk (sLe 0 i && sLt i len && Nat.beq sz (sizeP P e) && Nat.blt 0 (sizeP P e)) (.ret (.pt id sz (i.toNat + off) 0))
 | some (.array n e), .pt id sz r j => idxK i fun i => .chk (sLe 0 i && sLt i n && Nat.blt 0 (sizeP P e)) (.ret (.pt id sz r (i.toNat * sizeP P e + j)))
 | _, _ => .fail
def indexV (P : Program) (t : TypeId) (x i : V) : H V :=
 match P.underlying t, x with
 | some .string, .im (.string s) => idxK i fun i => .chk (sLe 0 i && sLt i s.size) (.ret (.im (.int .u8 (sByte s i.toNat))))
 | some (.array n e), .ag vs => idxK i fun i => .chk (sLe 0 i && sLt i n && hasU P e && Nat.ble (i.toNat * sizeP P e + sizeP P e) vs.length && (isAggT P e || Nat.beq (sizeP P e) 1)) (.ret (wrapAg (isAggT P e) ((vs.drop (i.toNat * sizeP P e)).take (sizeP P e))))
 | _, _ => .fail
def minMaxGo (mx : Bool) (k : IntKind) (a : Int) : List V → Option V
 | [] => some (.im (.int k a))
 | .im (.int k' b) :: r => bif decide (k = k') then minMaxGo mx k (bif mx then sMax a b else sMin a b) r else none
 | _ => none
def minMax (mx : Bool) : List V → Option V
 | .im (.int k a) :: r => minMaxGo mx k a r
 | _ => none
def defMode (P : Program) (t : TypeId) : Mode :=
 match P.underlying t with
 | some (.pointer _) => .ptr
 | _ => .bor
def ptIds1 (m : Mode) : V → List (Nat × Bool)
 | .pt id _ _ _ => [(id, match m with | .ptr => false | _ => true)]
 | .fn _ caps => caps.filterMap fun | .pt id _ _ _ => some (id, true) | _ => none
 | _ => []
def addId (l : List (Nat × Bool)) (x : Nat × Bool) : List (Nat × Bool) :=
 bif l.any (fun y => Nat.beq x.1 y.1) then l.map fun y => bif Nat.beq x.1 y.1 then (y.1, y.2 && x.2) else y else l ++ [x]
def ptIds (ms : List Mode) (vs : List V) : List (Nat × Bool) :=
 ((List.zipWith ptIds1 ms vs).flatten).foldl addId []
def cellNames (p c : Nat) : List V → List (Nat × Nat)
 | [] => []
 | .sl id true 0 _ _ :: vs => (id, nPC p + c) :: cellNames p (c + 1) vs
 | _ :: vs => cellNames p (c + 1) vs
def lookN (l : List (Nat × Nat)) (i : Nat) : Option Nat := (l.find? fun x => Nat.beq x.1 i).map (·.2)
def trP (nm : List (Nat × Nat)) : V → A
 | .pt id sz i j => match lookN nm id with | some n => .pt n sz i j | none => .no
 | _ => .no
end
end Go.Vm
namespace Go.Vm
set_option linter.unusedVariables false
set_option linter.unusedSimpArgs false
noncomputable section
def Mode.isBor : Mode → Bool
 | .bor | .ptrR => true
 | _ => false
def gather {α : Type} : List (Nat × Bool) → (List (Nat × Bool × Option O) → H α) → H α
 | [], k => k []
 | (id, ro) :: r, k => .get id fun _ o => gather r fun l => k ((id, ro, o) :: l)
def hasCell (id : Nat) : Option O → Bool
 | some (.box _ cells) => cells.any fun v => match v with | .sl id' true 0 _ _ => Nat.beq id' id | _ => false
 | _ => false
def topOf (l : List (Nat × Bool × Option O)) : List (Nat × Bool × Option O) := l.filter fun x => !(l.any fun y => hasCell x.1 y.2.2)
def kdOf : T → Kd
 | .im (.int k _) => .int k
 | .im (.bool _) => .bool
 | .im (.string _) => .str
 | .sl _ sz _ => .sl sz
 | _ => .oth
def flOf : T → Fl
 | .sl f _ _ => f
 | _ => .own
def foldPW {α : Type} : (p : Nat) → List (Nat × Bool × Option O) → (List (List T) → List (Nat × Nat × List Kd × List Fl) → List (Nat × Nat) → H α) → H α
 | _, [], k => k [] [] []
 | p, (id, false, _) :: r, k => .get id fun _ => fun
  | some (.box false cells) => .chk (Nat.blt 0 cells.length) <| foldL .own cells fun ts => .put id true (some (.box false (cells.map fun _ => .no))) (foldPW (p + 1) r fun tss ws nm => k (ts :: tss) ((id, p, ts.map kdOf, ts.map flOf) :: ws) ((id, nPO p) :: (cellNames p 0 cells ++ nm)))
  | _ => .fail
 | p, (id, true, _) :: r, k => .get id fun _ => fun
  | some (.box _ cells) => foldPW (p + 1) r fun tss ws nm => k ([] :: tss) ws ((id, nPO p) :: (cellNames p 0 cells ++ nm))
  | some (.rows _ _ _) => foldPW (p + 1) r fun tss ws nm => k ([] :: tss) ws ((id, nPO p) :: nm)
  | _ => .fail
def foldPR {α : Type} : List (Nat × Bool × Option O) → List (List T) → (List PO → H α) → H α
 | [], _, k => k []
 | (id, true, _) :: r, _ :: tss, k => foldPR r tss fun pos => .get id fun _ => fun
  | some (.box _ cells) => .chk (Nat.blt 0 cells.length) <| foldL .bor cells fun ts => k (.box true ts :: pos)
  | some (.rows _ sz rs) => k (.rows .ro sz rs :: pos)
  | _ => .fail
 | (_, false, _) :: r, ts :: tss, k => foldPR r tss fun pos => k (.box false ts :: pos)
 | _ :: _, [], _ => .fail
inductive IoW where
 | nil
 | top (id sz : Nat)
 | nest (x szx i j sz : Nat)
def foldIo {α : Type} (v : V) (k : T → IoW → H α) : H α :=
 match v with
 | .nl sz => k (.sl .own sz []) .nil
 | .sl id true 0 _ sz => .get id fun ver' => fun
  | some (.rows .own sz' rs) => .chk (Nat.beq sz sz') (.put id true none (k (.sl .own sz rs) (.top id sz)))
  | some (.link x ver i j) => .get x fun ver' => fun
   | some (.rows .own szx rs) => .chk (Nat.beq ver ver' && okT .own (.sl sz) (sCell rs i j))
     (.put x true (some (.rows .own szx (sSetCell rs i j .no))) (.put id true none (k (.sl .own sz (rT (sCell rs i j))) (.nest x szx i j sz))))
   | _ => .fail
  | _ => .fail
 | _ => .fail
def foldIoL {α : Type} : List V → (List T → List IoW → H α) → H α
 | [], k => k [] []
 | .im v :: vs, k => foldIoL vs fun ts ws => k (.im v :: ts) ws
 | v :: vs, k => foldIo v fun t w => foldIoL vs fun ts ws => k (t :: ts) (w :: ws)
def foldArgs {α : Type} (nm : List (Nat × Nat)) : List Mode → List V → (List A → List IoW → H α) → H α
 | _, [], k => k [] []
 | [], _ :: _, _ => .fail
 | m :: ms, v :: vs, k => match v with
  | .pt id sz i j => foldArgs nm ms vs fun as ws => k (trP nm (.pt id sz i j) :: as) ws
  | .fn f caps => foldArgs nm ms vs fun as ws => k (.fn f (caps.map (trP nm)) :: as) ws
  | v => match m with
   | .io => match v with
    | .ag us => foldIoL us fun ts es => foldArgs nm ms vs fun as ws => k (.ag ts :: as) (es ++ ws)
    | v => foldIo v fun t e => foldArgs nm ms vs fun as ws => k (.c t :: as) (e :: ws)
   | m => match v with
    | .ag us => bif Mode.isBor m then foldArgs nm ms vs fun as ws => foldL .bor us fun ts => k (.ag ts :: as) ws
     else foldL .own us fun ts => foldArgs nm ms vs fun as ws => k (.ag ts :: as) ws
    | v => bif Mode.isBor m then foldArgs nm ms vs fun as ws => bor v fun t => k (.c t :: as) ws
     else own v fun t => foldArgs nm ms vs fun as ws => k (.c t :: as) ws
def A.t : A → T | .c t => t | _ => .no
def A.ts : A → List T | .ag ts => ts | _ => []
def PO.cells : PO → List T | .box _ ts => ts | _ => []
def etaL (f : Fl) : List Kd → (ts : Nat → T) → (m : Nat) → List T
 | [], _, _ => []
 | k :: ks, ts, m => T.etaK f k (ts m) :: etaL f ks ts (m + 1)
def etaLF : List Kd → List Fl → (ts : Nat → T) → (m : Nat) → List T
 | k :: ks, f :: fs, ts, m => T.etaK f k (ts m) :: etaLF ks fs ts (m + 1)
 | _, _, _, _ => []
def okL (f : Fl) : List Kd → (ts : Nat → T) → (m : Nat) → Bool
 | [], _, _ => true
 | k :: ks, ts, m => T.okK f k (ts m) && okL f ks ts (m + 1)
def okLF : List Kd → List Fl → (ts : Nat → T) → (m : Nat) → Bool
 | k :: ks, f :: fs, ts, m => T.okK f k (ts m) && okLF ks fs ts (m + 1)
 | _, _, _, _ => true
def etaA (f : Fl) (t : Ty) (a : A) : A :=
 match t with
 | .cell k => .c (T.etaK f k a.t)
 | .ag ks => .ag (etaL f ks (fun m => a.ts.getD m .no) 0)
 | .tu _ => .no
def okA (f : Fl) (t : Ty) (a : A) : Bool :=
 match t with
 | .cell .oth => false
 | .cell k => (match a with | .c _ => true | _ => false) && T.okK f k a.t
 | .ag ks => (match a with | .ag ts => Nat.beq ts.length ks.length | _ => false) && okL f ks (fun m => a.ts.getD m .no) 0
 | .tu _ => false
def retTys : Ty → List Ty
 | .tu ts => ts
 | t => [t]
def okRets (f : Fl) : List Ty → (rs : Nat → A) → (k : Nat) → Bool
 | [], _, _ => true
 | t :: ts, rs, k => okA f t (rs k) && okRets f ts rs (k + 1)
def retV (f : Fl) (key : Nat) : List Ty → (rs : Nat → A) → (k : Nat) → List V
 | [], _, _ => []
 | t :: ts, rs, k => unA (nKey key (64 * k)) (etaA f t (rs k)) :: retV f key ts rs (k + 1)
def retW (f : Fl) (key : Nat) : List Ty → (k : Nat) → WS
 | [], _ => []
 | .cell (.sl sz) :: ts, k => retW f key ts (k + 1) ++ [(true, nKey key (64 * k), fun (o : Out) (_ : Option O) => some (.rows f sz ((o.rets.getD k .no).t.rws)))]
 | .ag ks :: ts, k => retW f key ts (k + 1) ++ go k ks 0
 | _ :: ts, k => retW f key ts (k + 1)
where
 go (k : Nat) : List Kd → (m : Nat) → WS
  | [], _ => []
  | .sl sz :: ks, m => go k ks (m + 1) ++ [(true, nKey key (64 * k + m), fun (o : Out) (_ : Option O) => some (.rows f sz (((o.rets.getD k .no).ts.getD m .no).rws)))]
  | _ :: ks, m => go k ks (m + 1)
def boxW (key : Nat) : List (Nat × Nat × List Kd × List Fl) → WS
 | [] => []
 | (id, p, ks, fs) :: r => boxW key r ++ (go p ks fs 0 ++ [(false, id, fun (o : Out) (_ : Option O) => some (.box false (unL (nKey key (4096 + 64 * p)) (etaLF ks fs (fun m => (o.pos.getD p (.box false [])).cells.getD m .no) 0))))])
where
 go (p : Nat) : List Kd → List Fl → (m : Nat) → WS
  | .sl sz :: ks, f :: fs, m => go p ks fs (m + 1) ++ [(true, nKey key (4096 + 64 * p + m), fun (o : Out) (_ : Option O) => some (.rows f sz (((o.pos.getD p (.box false [])).cells.getD m .no).rws)))]
  | _ :: ks, _ :: fs, m => go p ks fs (m + 1)
  | _, _, _ => []
def boxOk : List (Nat × Nat × List Kd × List Fl) → Out → Bool
 | [], _ => true
 | (_, p, ks, fs) :: r, o => (match o.pos.getD p (.rows .own 0 []) with | .box _ ts => Nat.beq ts.length ks.length | _ => false) && okLF ks fs (fun m => (o.pos.getD p (.box false [])).cells.getD m .no) 0 && boxOk r o
def ioW : (q : Nat) → List IoW → WS
 | _, [] => []
 | q, .nil :: r => ioW (q + 1) r
 | q, .top id sz :: r => ioW (q + 1) r ++ [(false, id, fun (o : Out) (_ : Option O) => some (.rows .own sz ((o.outs.getD q .no).rws)))]
 | q, .nest x szx i j sz :: r => ioW (q + 1) r ++ [(false, x, fun (o : Out) (c : Option O) => match c with
  | some (.rows .own szx' rs) => bif Nat.beq szx szx' then some (.rows .own szx (sSetCell rs i j (.sl .own sz (o.outs.getD q .no).rws))) else none
  | c => c)]
def ioOk : (q : Nat) → List IoW → Out → Bool
 | _, [], _ => true
 | q, .nil :: r, o => ioOk (q + 1) r o
 | q, .top _ sz :: r, o => T.okK .own (.sl sz) (o.outs.getD q .no) && ioOk (q + 1) r o
 | q, .nest _ _ _ _ sz :: r, o => T.okK .own (.sl sz) (o.outs.getD q .no) && ioOk (q + 1) r o
def isTop (x : Nat) : IoW → Bool
 | .top id _ => Nat.beq id x
 | _ => false
def ioApart (l : List IoW) : Bool := l.all fun e => match e with | .nest x _ _ _ _ => !l.any (isTop x) | _ => true
mutual
def T.noRo : T → Bool
 | .im _ => true
 | .no => true
 | .sl .own _ rs => noRoRs rs
 | .sl .fz _ _ => true
 | .sl .ro _ _ => false
def noRoRs : List (List T) → Bool
 | [] => true
 | r :: rs => noRoR r && noRoRs rs
def noRoR : List T → Bool
 | [] => true
 | t :: ts => t.noRo && noRoR ts
end
def Kd.isSl : Kd → Bool
 | .sl _ => true
 | _ => false
def sNoRo : T → Bool := sld T.noRo
theorem sNoRo_eq (t : T) : sNoRo t = t.noRo := by rw [sNoRo, sld_eq]
def noRoK (k : Kd) (t : T) : Bool := !Kd.isSl k || sNoRo t
def noRoL : List Kd → (ts : Nat → T) → (m : Nat) → Bool
 | [], _, _ => true
 | k :: ks, ts, m => noRoK k (ts m) && noRoL ks ts (m + 1)
def noRoRets : List Ty → (rs : Nat → A) → (k : Nat) → Bool
 | [], _, _ => true
 | .cell kd :: ts, rs, k => noRoK kd (rs k).t && noRoRets ts rs (k + 1)
 | .ag ks :: ts, rs, k => noRoL ks (fun m => (rs k).ts.getD m .no) 0 && noRoRets ts rs (k + 1)
 | .tu _ :: _, _, _ => false
def noRoIo : (q : Nat) → List IoW → Out → Bool
 | _, [], _ => true
 | q, _ :: r, o => sNoRo (o.outs.getD q .no) && noRoIo (q + 1) r o
def noRoBox : List (Nat × Nat × List Kd × List Fl) → Out → Bool
 | [], _ => true
 | (_, p, ks, _) :: r, o => noRoL ks (fun m => (o.pos.getD p (.box false [])).cells.getD m .no) 0 && noRoBox r o
def numOk (rt : Ty) (o : Out) : Bool :=
 Nat.beq o.rets.length (retTys rt).length && (match rt with | .tu ts => !Nat.beq ts.length 1 | _ => true)
def callH (E : Env) (key : Nat) (rt : Ty) (f : FuncId) (ms : List Mode) (vs : List V) : H V :=
 gather (ptIds ms vs) fun l =>
 foldPW 0 (topOf l) fun tss bw nm =>
 foldArgs nm ms vs fun as iw =>
 foldPR (topOf l) tss fun pos =>
 .chk (ioApart iw) <| .chk (E.G f as pos).1 <| .call (E.G f as pos).2 (retW (E.flag f) key (retTys rt) 0 ++ (boxW key bw ++ ioW 0 iw))
  (fun o => ioOk 0 iw o && boxOk bw o && okRets (E.flag f) (retTys rt) (fun k => o.rets.getD k .no) 0 && numOk rt o &&
   (!(ms.any Mode.isBor || (topOf l).any fun x => x.2.1) || (noRoIo 0 iw o && noRoBox bw o && noRoRets (retTys rt) (fun k => o.rets.getD k .no) 0)))
  (fun o => match rt with
   | .tu ts => .tu (retV (E.flag f) key ts (fun k => o.rets.getD k .no) 0)
   | t => unA (nKey key 0) (etaA (E.flag f) t (o.rets.getD 0 .no)))
def preNil : List Mode → List V → List V
 | .nl :: ms, .nl _ :: vs => .im (.slice none 0 0) :: preNil ms vs
 | _ :: ms, v :: vs => v :: preNil ms vs
 | _, vs => vs
def modesOf (E : Env) (f : FuncId) : List Mode :=
 match E.modes f with
 | some ms => ms
 | none => match E.P.funcs[f]? with
  | some fn => fn.params.toList.map (defMode E.P) ++ List.replicate fn.nfree .ptrR
  | none => []
def stepH (E : Env) (key : Nat) (o : Oper) (ρ : Operand → V) : H V :=
 let P := E.P
 match o.op with
 | .move x | .assign x => .ret (castT (ty P o.type) (ρ x))
 | .pick c a b => match ρ c, ρ a, ρ b with
  | .im (.bool c), .im (.bool a), .im (.bool b) => .ret (.im (.bool (bif c then a else b)))
  | .im (.bool c), .im (.bool a), .tu [] => .chk c (.ret (.im (.bool a)))
  | .im (.bool c), .tu [], .im (.bool b) => .chk (!c) (.ret (.im (.bool b)))
  | _, _, _ => .fail
 | .alloc t => .chk (zeroOk (ksOf P t) (zeroP P t)) (.new (nKey key 0) (.box false ((ksOf P t).map zeroK)) (.ret (.pt (nKey key 0) 0 0 0)))
 | .box t x => .chk (V.notNo (ρ x)) (.new (nKey key 0) (.box false (vCells (castT (ty P t) (ρ x)))) (.ret (.pt (nKey key 0) 0 0 0)))
 | .build t ps => buildV P t (ps.toList.map fun p => (p.1, ρ p.2))
 | .buildSlice t n ps => buildSliceH P key t n (ps.toList.map fun p => (p.1, ρ p.2))
 | .load t a => loadH P key t (ρ a)
 | .store t a x => storeH P t (ρ a) (ρ x)
 | .nilCheck x => match ρ x with | .pt id sz i j => .ret (.pt id sz i j) | _ => .fail
 | .binOp op t x y _ =>
  match P.underlying t, op, ρ x, ρ y with
  | some (.slice _), .eql, .nl _, .nl _ => .ret (.im (.bool true))
  | some (.slice _), .neq, .nl _, .nl _ => .ret (.im (.bool false))
  | some (.slice _), .eql, .sl id _ _ _ _, .nl _ => .chk (Nat.beq id 7) (.ret (.im (.bool false)))
  | some (.slice _), _, _, _ => .fail
  | some (.struct fs), op, .ag xs, .ag ys => eqAgV P t fs.toList op xs ys
  | _, _, a, b => binV (isBoolT P t) op a b
 | .unOp op _ x => unV op (ρ x)
 | .convert s d x => convH P key s d (ρ x)
 | .makeFunc (.func f) first caps => bif first.isEmpty then .ret (.fn f (caps.toList.map ρ)) else .fail
 | .makeSlice t l c => makeSliceH P key t (ρ l) (ρ c)
 | .slice t x lo hi mx => match P.underlying t with
  | some .string => cutV 0 (lo.map ρ) (hi.map ρ) (mx.map ρ) (match ρ x with | .im v => .im v | _ => .no)
  | some (.slice e) => cutH key (sizeP P e) (hasU P e) (lo.map ρ) (hi.map ρ) (mx.map ρ) (ρ x)
  | _ => .fail
 | .fieldAddr s x f => match fieldOf P s f, ρ x with
  | some (off, n, _), .pt id sz i j => .chk (Nat.blt 0 n) (.ret (.pt id sz i (j + off)))
  | _, _ => .fail
 | .field s x f => match fieldOf P s f, ρ x with
  | some (off, n, agg), .ag vs => .chk (Nat.ble (off + n) vs.length && (agg || Nat.beq n 1)) (.ret (wrapAg agg ((vs.drop off).take n)))
  | _, _ => .fail
 | .indexAddr t x i => indexAddrH P t (ρ x) (ρ i)
 | .index t x i => indexV P t (ρ x) (ρ i)
 | .makeMap t none => makeMapH P key t
 | .lookup t m k ok => lookupH P t (ρ m) (ρ k) ok
 | .mapUpdate t m k x | .insert t m k x => updateH P t (ρ m) (ρ k) (ρ x)
 | .extract t i => match ρ t with | .tu vs => .chk (Nat.blt i vs.length) (.ret (vs.getD i .no)) | _ => .fail
 | .call c =>
  match c.callee with
  | .builtin .append => bif Nat.beq c.args.size 2 then appendAny P key c.argTypes (ρ (c.args.getD 0 (.func 0))) (ρ (c.args.getD 1 (.func 0))) else .fail
  | .builtin .clear => bif Nat.beq c.args.size 1 then clearH P c.argTypes (ρ (c.args.getD 0 (.func 0))) else .fail
  | .builtin .len => .chk (Nat.beq c.args.size 1 && Nat.blt 0 c.argTypes.size) <| match P.underlying (c.argTypes.getD 0 0), ρ (c.args.getD 0 (.func 0)) with
   | some (.slice _), .sl _ _ _ len _ => .ret (.im (.int .i64 len))
   | some (.slice _), .nl _ => .ret (.im (.int .i64 0))
   | some .string, .im (.string s) => .ret (.im (.int .i64 s.size))
   | some (.array n _), _ => .ret (.im (.int .i64 n))
   | _, _ => .fail
  | .builtin .cap => .chk (Nat.beq c.args.size 1 && Nat.blt 0 c.argTypes.size) <| match P.underlying (c.argTypes.getD 0 0), ρ (c.args.getD 0 (.func 0)) with
   | some (.slice _), .nl _ => .ret (.im (.int .i64 0))
   | _, _ => .fail
  | .builtin .min => match minMax false (c.args.toList.map ρ) with | some v => .ret v | none => .fail
  | .builtin .max => match minMax true (c.args.toList.map ρ) with | some v => .ret v | none => .fail
  | .value g => match ρ g with
   | .fn f caps => callH E key (ty P o.type) f (modesOf E f) (preNil (modesOf E f) (c.args.toList.map ρ ++ caps))
   | _ => .fail
  | _ => .fail
 | _ => .fail
def keyOf (rid i : Nat) : Nat := 256 * rid + i
def St.put (σ : St) (d : Option Tmp) (v : V) : St := match d with | some d => { σ with tm := upd σ.tm d v } | none => σ
abbrev Rec := List (Nat × List (Bool × Nat))
def stepK {β : Type} (E : Env) (rid i : Nat) (o : Oper) (σ : St) (rec : Rec) (K : St → Rec → Option β) : Option β :=
 (stepH E (keyOf rid i) o σ.ev).runK σ.objs [] fun v objs fp => v.force fun v => K (({ σ with objs := objs } : St).put o.dst v) ((i, fp) :: rec)
def runOps {β : Type} (E : Env) (rid : Nat) (ops : Array Oper) : List (Nat × Oper) → St → Rec → (St → Rec → Option β) → Option β
 | [], σ, rec, k => k σ rec
 | (i, o) :: rest, σ, rec, k =>
  match o.guard with
  | none => stepK E rid i o σ rec fun σ rec => runOps E rid ops rest σ rec k
  | some (j, want) =>
   match (ops[j]?).bind (·.dst) with
   | none => none
   | some d =>
    match σ.tm d with
    | .im (.bool b) =>
     bif b then
      (bif want then stepK E rid i o { σ with tm := upd σ.tm d (.im (.bool true)) } rec fun σ rec => runOps E rid ops rest σ rec k
       else runOps E rid ops rest (({ σ with tm := upd σ.tm d (.im (.bool true)) } : St).put o.dst (.tu [])) ((i, []) :: rec) k)
     else
      (bif want then runOps E rid ops rest (({ σ with tm := upd σ.tm d (.im (.bool false)) } : St).put o.dst (.tu [])) ((i, []) :: rec) k
       else stepK E rid i o { σ with tm := upd σ.tm d (.im (.bool false)) } rec fun σ rec => runOps E rid ops rest σ rec k)
    | .tu [] => runOps E rid ops rest (σ.put o.dst (.tu [])) ((i, []) :: rec) k
    | _ => none
def bindsA (e : Edge) : Bool := match e.ground with | .textOnly _ | .gcOnly _ => false | _ => true
def aftL (o : Oper) : List Edge := o.after.toList.filter bindsA
def ancs (ops : List Oper) : List (List Nat) :=
 ops.foldl (fun acc o => acc ++ [((aftL o).flatMap fun e => e.on :: acc.getD e.on [])]) []
def tmpsOf (ops : Array Oper) (o : Oper) : List Nat :=
 o.dst.toList ++ (match o.guard with | some (j, _) => ((ops[j]?).bind (·.dst)).toList | none => []) ++ o.op.operands.toList.filterMap fun | .tmp t => some t | _ => none
def fpApart (a b : List (Bool × Nat)) : Bool := a.all fun x => b.all fun y => !(Nat.beq x.2 y.2) || (!x.1 && !y.1)
def pairOk (ops : Array Oper) (oi oj : Oper) (fi fj : List (Bool × Nat)) : Bool :=
 (oi.dst.toList.all fun d => !(tmpsOf ops oj).any (Nat.beq d)) && (oj.dst.toList.all fun d => !(tmpsOf ops oi).any (Nat.beq d)) && fpApart fi fj
def recOf (rec : Rec) (i : Nat) : List (Bool × Nat) := ((rec.find? fun x => Nat.beq x.1 i).map (·.2)).getD []
def ancM (ops : List Oper) : List Nat :=
 ops.foldl (fun acc o => acc ++ [(aftL o).foldl (fun m e => (m ||| 1 <<< e.on) ||| acc.getD e.on 0) 0]) []
def drawPairs (ops : Array Oper) (am : List Nat) (ok : Oper → Nat → Oper → Nat → Bool) : Bool :=
 let l := ops.toList.zipIdx
 l.all fun (oj, j) => l.all fun (oi, i) => !(Nat.blt i j) || Nat.testBit (am.getD j 0) i || ok oi i oj j
def drawStatic (ops : Array Oper) : Bool :=
 (ops.toList.zipIdx.all fun (o, i) => (aftL o).all fun e => Nat.blt e.on i) &&
 drawPairs ops (ancM ops.toList) fun oi _ oj _ => (oi.dst.toList.all fun d => !(tmpsOf ops oj).any (Nat.beq d)) && (oj.dst.toList.all fun d => !(tmpsOf ops oi).any (Nat.beq d))
def noWrite (rec : Rec) : Bool := rec.all fun x => x.2.all fun y => !y.1
def drawOk (ops : Array Oper) (rec : Rec) : Bool :=
 drawStatic ops && (noWrite rec || drawPairs ops (ancM ops.toList) fun _ i _ j => fpApart (recOf rec i) (recOf rec j))
def Ty.scalar : Ty → Bool
 | .cell (.int _) | .cell .bool | .cell .str => true
 | _ => false
def meetTys (P : Program) (post : List Nat) (ops : List Oper) : Option (List (Nat × Kd)) :=
 bif ops.any (fun o => o.guard.isSome) then
  let ds := ops.filterMap fun o => match o.dst with | some d => bif post.any (Nat.beq d) then some (d, ty P o.type) else none | none => none
  bif ds.all (fun x => x.2.scalar) then some (ds.filterMap fun x => match x.2 with | .cell k => some (x.1, k) | _ => none) else none
 else none
def expo (σ : St) : List (Nat × Kd) → List Value
 | [] => []
 | (d, _) :: r => (match σ.tm d with | .im v => v | _ => undef) :: expo σ r
def etaV (k : Kd) (v : Value) : Value :=
 match k with
 | .int k => .int k (iV v)
 | .bool => .bool (bV v)
 | .str => .string (sV v)
 | _ => v
def impo (σ : St) : List (Nat × Kd) → (Nat → Value) → (m : Nat) → St
 | [], _, _ => σ
 | (d, k) :: r, vs, m => impo { σ with tm := upd σ.tm d (.im (etaV k (vs m))) } r vs (m + 1)
def okV : List (Nat × Kd) → (Nat → Value) → (m : Nat) → Bool
 | [], _, _ => true
 | (_, k) :: r, vs, m => okVl k (vs m) && okV r vs (m + 1)
def freshW (objs : Objs) (rec : Rec) : Bool := rec.all fun x => x.2.all fun y => !y.1 || (objs y.2).o.isNone
def numbered (ops : Array Oper) : List (Nat × Oper) := ops.toList.zipIdx.map fun x => (x.2, x.1)
def forgetD (ops : List Oper) (tm : Nat → V) : Nat → V := fun t => bif (ops.filterMap (·.dst)).any (Nat.beq t) then .no else tm t
def runRegion {β : Type} (E : Env) (post : List Nat) (rid : Nat) (ops : Array Oper) (draw : Bool) (σ : St) (k : St → Option β) : Option β :=
 match meetTys E.P post ops.toList with
 | none => runOps E rid ops (numbered ops) σ [] fun σ' rec => bif !draw || drawOk ops rec then k σ' else none
 | some ds => (runOps E rid ops (numbered ops) σ [] fun σ' rec => bif (!draw || drawOk ops rec) && freshW σ.objs rec then some (expo σ' ds) else none).bind fun vs =>
   bif okV ds (vAt vs) 0 then k (impo { σ with tm := forgetD ops.toList σ.tm } ds (vAt vs) 0) else none
end
end Go.Vm
namespace Go.Vm
set_option linter.unusedVariables false
set_option linter.unusedSimpArgs false
noncomputable section
def opReads (o : Oper) : List Nat := o.op.operands.toList.filterMap fun | .tmp t => some t | _ => none
def opsReads : List Oper → List Nat → List Nat
 | [], _ => []
 | o :: os, D => (opReads o).filter (fun t => !D.any (Nat.beq t)) ++ opsReads os (match o.dst with | some d => d :: D | none => D)
def Code.mustW : Code → List Nat
 | .region _ ops _ => ops.toList.filterMap fun o => match o.guard with | none => o.dst | some _ => none
 | .seq a b => Code.mustW a ++ Code.mustW b
 | _ => []
def Code.reads : Code → List Nat
 | .region _ ops _ => opsReads ops.toList []
 | .seq a b => Code.reads a ++ (Code.reads b).filter fun t => !(Code.mustW a).any (Nat.beq t)
 | .cond c a b => (match c with | .tmp t => [t] | _ => []) ++ Code.reads a ++ Code.reads b
 | .block _ c | .loop c | .scope c => Code.reads c
 | _ => []
def Code.writes : Code → List Nat
 | .region _ ops _ => ops.toList.filterMap (·.dst)
 | .seq a b | .cond _ a b => Code.writes a ++ Code.writes b
 | .block _ c | .loop c | .scope c => Code.writes c
 | _ => []
def dedup : List Nat → List Nat → List Nat
 | [], acc => acc.reverse
 | x :: xs, acc => bif acc.any (Nat.beq x) then dedup xs acc else dedup xs (x :: acc)
mutual
def idsV : V → List Nat
 | .sl id _ _ _ _ => [id]
 | .pt id _ _ _ => [id]
 | .mp id => [id]
 | .ag vs | .tu vs | .fn _ vs => idsVs vs
 | _ => []
def idsVs : List V → List Nat
 | [] => []
 | v :: vs => idsV v ++ idsVs vs
end
def idsO : Option O → List Nat
 | some (.box _ cells) => idsVs cells
 | some (.link x _ _ _) => [x]
 | _ => []
def aliveIds (objs : Objs) (l : List Nat) : List Nat := l.filter fun i => (objs i).o.isSome
def reachIds (σ : St) (keep : List Nat) : List Nat :=
 forceN (aliveIds σ.objs (keep.flatMap fun t => idsV (σ.tm t))) fun r0 =>
 forceN (dedup (r0 ++ aliveIds σ.objs (r0.flatMap fun i => idsO (σ.objs i).o)) []) fun r1 =>
 dedup (r1 ++ aliveIds σ.objs (r1.flatMap fun i => idsO (σ.objs i).o)) []
def reachAt (σ : St) (keepW keep : List Nat) : List Nat := dedup (reachIds σ keepW ++ reachIds σ keep) []
def posIn : List Nat → Nat → Nat → Option Nat
 | [], _, _ => none
 | x :: xs, i, p => bif Nat.beq x i then some p else posIn xs i (p + 1)
def nL (bid p : Nat) : Nat := 100000000000 + 4096 * bid + p
mutual
def renV (bid : Nat) (con ids : List Nat) : V → V
 | .im v => .im v
 | .nl sz => .nl sz
 | .sl id e off len sz => match posIn ids id 0 with | some p => .sl (nL bid p) e off len sz | none => bif con.any (Nat.beq id) then .sl id e off len sz else .no
 | .pt id sz i j => match posIn ids id 0 with | some p => .pt (nL bid p) sz i j | none => bif con.any (Nat.beq id) then .pt id sz i j else .no
 | .ag vs => .ag (renVs bid con ids vs)
 | .tu vs => .tu (renVs bid con ids vs)
 | .fn f vs => .fn f (renVs bid con ids vs)
 | .mp id => match posIn ids id 0 with | some p => .mp (nL bid p) | none => bif con.any (Nat.beq id) then .mp id else .no
 | .no => .no
def renVs (bid : Nat) (con ids : List Nat) : List V → List V
 | [] => []
 | v :: vs => renV bid con ids v :: renVs bid con ids vs
end
def renO (bid : Nat) (objs : Objs) (con ids : List Nat) : Option O → Option O
 | some (.box ro cells) => some (.box ro (renVs bid con ids cells))
 | some (.rows f sz rs) => some (.rows f sz rs)
 | some (.link x ver i j) => match (objs x).o with
  | some (.rows _ _ _) => bif Nat.beq ver (objs x).ver then (match posIn ids x 0 with
    | some p => some (.link (nL bid p) 1 i j)
    | none => bif con.any (Nat.beq x) then some (.link x ver i j) else none) else none
  | _ => none
 | some (.mp kf vf rs) => some (.mp kf vf rs)
 | none => none
structure Snap where
 vs : List (Bool × V)
 os : List (Option O)
def snap (bid : Nat) (σ : St) (keep : List (Bool × Nat)) (con ids : List Nat) : Snap :=
 { vs := keep.map fun t => (t.1, renV bid con ids (σ.tm t.2)), os := ids.map fun i => renO bid σ.objs con ids (σ.objs i).o }
mutual
def datV : V → List T
 | .im (.int k n) => [.im (.int k n)]
 | .im (.bool b) => [.im (.bool b)]
 | .im (.string s) => [.im (.string s)]
 | .sl _ true _ len _ => [.im (.int .i64 len)]
 | .sl _ false off len _ => [.im (.int .i64 off), .im (.int .i64 len)]
 | .ag vs | .tu vs | .fn _ vs => datVs vs
 | _ => []
def datVs : List V → List T
 | [] => []
 | v :: vs => datV v ++ datVs vs
end
def datO : Option O → List T
 | some (.box _ cells) => datVs cells
 | some (.rows f sz rs) => [.sl f sz rs]
 | some (.link _ _ i _) => [.im (.int .i64 i)]
 | some (.mp kf vf rs) => [.sl .own (kf.length + vf.length) rs]
 | none => []
def datB : Bool × V → List T
 | (true, v) => datV v
 | (false, _) => []
def Snap.dat (s : Snap) : List T := s.os.flatMap datO ++ s.vs.flatMap datB
mutual
def refV (ds : Nat → T) : V → Nat → V × Nat
 | .im (.int k _), m => (.im (.int k (iT (ds m))), m + 1)
 | .im (.bool _), m => (.im (.bool (bT (ds m))), m + 1)
 | .im (.string _), m => (.im (.string (sT (ds m))), m + 1)
 | .im v, m => (.im v, m)
 | .nl sz, m => (.nl sz, m)
 | .sl id true off _ sz, m => (.sl id true off (iT (ds m)).toNat sz, m + 1)
 | .sl id false _ _ sz, m => (.sl id false (iT (ds m)).toNat (iT (ds (m + 1))).toNat sz, m + 2)
 | .pt id sz i j, m => (.pt id sz i j, m)
 | .ag vs, m => (.ag (refVs ds vs m).1, (refVs ds vs m).2)
 | .tu vs, m => (.tu (refVs ds vs m).1, (refVs ds vs m).2)
 | .fn f vs, m => (.fn f (refVs ds vs m).1, (refVs ds vs m).2)
 | .mp id, m => (.mp id, m)
 | .no, m => (.no, m)
def refVs (ds : Nat → T) : List V → Nat → List V × Nat
 | [], m => ([], m)
 | v :: vs, m => ((refV ds v m).1 :: (refVs ds vs (refV ds v m).2).1, (refVs ds vs (refV ds v m).2).2)
end
def refBs (ds : Nat → T) : List (Bool × V) → Nat → List (Bool × V)
 | [], _ => []
 | (true, v) :: vs, m => (true, (refV ds v m).1) :: refBs ds vs (refV ds v m).2
 | (false, v) :: vs, m => (false, v) :: refBs ds vs m
def refOs (ds : Nat → T) : List (Option O) → Nat → List (Option O) × Nat
 | [], m => ([], m)
 | some (.rows f sz _) :: os, m => (some (.rows f sz (rT (ds m))) :: (refOs ds os (m + 1)).1, (refOs ds os (m + 1)).2)
 | some (.link x ver _ j) :: os, m => (some (.link x ver (iT (ds m)).toNat j) :: (refOs ds os (m + 1)).1, (refOs ds os (m + 1)).2)
 | some (.box ro cells) :: os, m => (some (.box ro (refVs ds cells m).1) :: (refOs ds os (refVs ds cells m).2).1, (refOs ds os (refVs ds cells m).2).2)
 | some (.mp kf vf _) :: os, m => (some (.mp kf vf (rT (ds m))) :: (refOs ds os (m + 1)).1, (refOs ds os (m + 1)).2)
 | none :: os, m => (none :: (refOs ds os m).1, (refOs ds os m).2)
def Snap.fill (s : Snap) (ds : Nat → T) : Snap := { vs := refBs ds s.vs (refOs ds s.os 0).2, os := (refOs ds s.os 0).1 }
def tmOf : List (Bool × Nat) → List (Bool × V) → Nat → V
 | (_, t) :: ts, (_, v) :: vs => upd (tmOf ts vs) t v
 | _, _ => fun _ => .no
def baseOf (con : List Nat) (objs : Objs) : Objs := fun i => bif con.any (Nat.beq i) then objs i else match (objs i).o with
 | some _ => ⟨(objs i).ver + 1, none⟩
 | none => objs i
def objsOf (bid : Nat) (base : Objs) : List (Option O) → Nat → Objs
 | [], _ => base
 | o :: os, p => upd (objsOf bid base os (p + 1)) (nL bid p) ⟨1, o⟩
def Snap.st (bid : Nat) (base : Objs) (s : Snap) (keep : List (Bool × Nat)) : St := { tm := tmOf keep s.vs, objs := objsOf bid base s.os 0 }
def forceBs {β : Type} : List (Bool × V) → (List (Bool × V) → β) → β
 | [], k => k []
 | (b, v) :: vs, k => v.force2 fun v => forceBs vs fun vs => k ((b, v) :: vs)
theorem forceBs_eq {β : Type} (vs : List (Bool × V)) : ∀ (k : List (Bool × V) → β), forceBs vs k = k vs := by
 induction vs with
 | nil => intro k; rfl
 | cons v vs ih => intro k; obtain ⟨b, v⟩ := v; rw [forceBs, V.force2_eq, ih]
def Snap.force {β : Type} (s : Snap) (k : Snap → β) : β := forceBs s.vs fun vs => O.forceL s.os fun os => k { vs := vs, os := os }
theorem Snap.force_eq {β : Type} (s : Snap) (k : Snap → β) : s.force k = k s := by rw [Snap.force, forceBs_eq, O.forceL_eq]
mutual
def kndV : V → List Kd
 | .im (.int k _) => [.int k]
 | .im (.bool _) => [.bool]
 | .im (.string _) => [.str]
 | .sl _ true _ _ _ => [.int .i64]
 | .sl _ false _ _ _ => [.int .i64, .int .i64]
 | .ag vs | .tu vs | .fn _ vs => kndVs vs
 | _ => []
def kndVs : List V → List Kd
 | [] => []
 | v :: vs => kndV v ++ kndVs vs
end
def kndO : Option O → List (Kd × Fl)
 | some (.box _ cells) => (kndVs cells).map fun k => (k, .own)
 | some (.rows f sz _) => [(.sl sz, f)]
 | some (.link _ _ _ _) => [(.int .i64, .own)]
 | some (.mp kf vf _) => [(.sl (kf.length + vf.length), .own)]
 | none => []
def kndB : Bool × V → List (Kd × Fl)
 | (true, v) => (kndV v).map fun k => (k, .own)
 | (false, _) => []
def Snap.knd (s : Snap) : List (Kd × Fl) := s.os.flatMap kndO ++ s.vs.flatMap kndB
def okD : List (Kd × Fl) → (Nat → T) → Nat → Bool
 | [], _, _ => true
 | (k, f) :: ks, ds, m => okT f k (ds m) && okD ks ds (m + 1)
mutual
def eqfV : V → V → Bool
 | .im (.int k _), .im (.int k' _) => decide (k = k')
 | .im (.bool _), .im (.bool _) => true
 | .im (.string _), .im (.string _) => true
 | .nl a, .nl b => Nat.beq a b
 | .sl id true off _ sz, .sl id' true off' _ sz' => Nat.beq id id' && Nat.beq off off' && Nat.beq sz sz'
 | .sl id false _ _ sz, .sl id' false _ _ sz' => Nat.beq id id' && Nat.beq sz sz'
 | .pt id sz i j, .pt id' sz' i' j' => Nat.beq id id' && Nat.beq sz sz' && Nat.beq i i' && Nat.beq j j'
 | .ag a, .ag b => eqfVs a b
 | .tu a, .tu b => eqfVs a b
 | .fn f a, .fn g b => Nat.beq f g && eqfVs a b
 | .mp a, .mp b => Nat.beq a b
 | .no, .no => true
 | _, _ => false
def eqfVs : List V → List V → Bool
 | [], [] => true
 | v :: vs, u :: us => eqfV v u && eqfVs vs us
 | _, _ => false
end
def eqfO : Option O → Option O → Bool
 | some (.box a x), some (.box b y) => (a == b) && eqfVs x y
 | some (.rows f sz _), some (.rows f' sz' _) => Fl.eqb f f' && Nat.beq sz sz'
 | some (.link x v _ j), some (.link x' v' _ j') => Nat.beq x x' && Nat.beq v v' && Nat.beq j j'
 | some (.mp kf vf _), some (.mp kf' vf' _) => decide (kf = kf') && decide (vf = vf')
 | none, none => true
 | _, _ => false
def eqfOs : List (Option O) → List (Option O) → Bool
 | [], [] => true
 | a :: as, b :: bs => eqfO a b && eqfOs as bs
 | _, _ => false
def eqfBs : List (Bool × V) → List (Bool × V) → Bool
 | [], [] => true
 | (_, a) :: as, (_, b) :: bs => eqfV a b && eqfBs as bs
 | _, _ => false
def Snap.eqf (a b : Snap) : Bool := eqfOs a.os b.os && eqfBs a.vs b.vs
def Code.ops : Code → List Oper
 | .region _ ops _ => ops.toList
 | .seq a b | .cond _ a b => Code.ops a ++ Code.ops b
 | .block _ c | .loop c | .scope c => Code.ops c
 | _ => []
def tmpsX (l : List Operand) : List Nat := l.filterMap fun | .tmp t => some t | _ => none
def flatTy : Ty → Bool
 | .cell k => Kd.flat k
 | .ag ks => ks.all Kd.flat
 | .tu _ => false
def opD (E : Env) (o : Oper) : List Nat :=
 match o.op with
 | .mapUpdate _ m _ _ | .insert _ m _ _ => tmpsX [m]
 | .store t a x => tmpsX [a] ++ (bif flatTy (ty E.P t) then [] else tmpsX [x])
 | .buildSlice t _ ps => (match E.P.underlying t with | some (.slice e) => bif (ksOf E.P e).all Kd.flat then [] else tmpsX (ps.toList.map (·.2)) | _ => [])
 | .call c => match c.callee with
  | .builtin .append => tmpsX (c.args.toList.take 1) ++ (match E.P.underlying (c.argTypes.getD 0 0) with | some (.slice e) => bif (ksOf E.P e).all Kd.flat then [] else tmpsX (c.args.toList.drop 1) | _ => [])
  | .builtin .clear => tmpsX (c.args.toList.take 1)
  | .value (.func f) => (List.zipWith (fun m x => bif Mode.isBor m then [] else tmpsX [x]) (modesOf E f) c.args.toList).flatten
  | _ => []
 | _ => []
def opT (E : Env) (o : Oper) : List (Nat × List Nat) :=
 match o.dst with
 | none => []
 | some d => bif flatTy (ty E.P o.type) then [] else match o.op with
  | .move x | .assign x | .nilCheck x | .extract x _ | .load _ x | .box _ x | .fieldAddr _ x _ | .field _ x _ | .slice _ x _ _ _ | .indexAddr _ x _ | .index _ x _ => [(d, tmpsX [x])]
  | .pick _ a b => [(d, tmpsX [a, b])]
  | .build _ ps => [(d, tmpsX (ps.toList.map (·.2)))]
  | .makeFunc _ _ xs => [(d, tmpsX xs.toList)]
  | _ => []
def passD : List (Nat × List Nat) → List Nat → List Nat
 | [], D => D
 | (d, xs) :: r, D => passD r (bif D.any (Nat.beq d) then xs ++ D else D)
def dangers (E : Env) (c : Code) : List Nat :=
 forceN ((Code.ops c).flatMap (opD E)) fun D0 =>
 let tr := ((Code.ops c).flatMap (opT E)).reverse
 forceN (dedup (passD tr D0) []) fun D1 => forceN (dedup (passD tr D1) []) fun D2 => dedup (passD tr D2) []
def forceBN {β : Type} : List (Bool × Nat) → (List (Bool × Nat) → β) → β
 | [], k => k []
 | (b, n) :: ns, k => bif b then forceBN ns fun ns => k ((true, n) :: ns) else forceBN ns fun ns => k ((false, n) :: ns)
theorem forceBN_eq {β : Type} (ns : List (Bool × Nat)) : ∀ (k : List (Bool × Nat) → β), forceBN ns k = k ns := by
 induction ns with
 | nil => intro k; rfl
 | cons n ns ih => intro k; obtain ⟨b, n⟩ := n; cases b <;> rw [forceBN] <;> simp only [cond_true, cond_false] <;> rw [ih]
def conOk (con : List Nat) (a b : Objs) : Bool := con.all fun i => Nat.beq (a i).ver (b i).ver
def newL (bid : Nat) (objs : Objs) (n : Nat) : Bool := (List.range n).all fun p => Nat.beq (objs (nL bid p)).ver 0
inductive LRes where
 | next (ds : List T)
 | brk (ds : List T)
 | ret (o : Out)
def LRes.elim' {α : Type} (r : LRes) (n b : List T → α) (o : Out → α) : α := match r with | .next d => n d | .brk d => b d | .ret x => o x
def lpN (F : List T → Option LRes) : Nat → List T → Option LRes
 | 0, _ => none
 | n + 1, ds => (F ds).bind fun
  | .next ds' => lpN F n ds'
  | r => some r
inductive Ex where | norm | exit (id : Nat)
structure Fn where
 fn : Func
 nargs : Nat
 ios : List (Nat × Nat × Nat)     -- the slices that are handed back: (argument, cell, element's size)
 pos : List Bool            -- the handed objects: only read?
 peel : Nat                 -- the loop whose first round is gone ahead (its number and one; 0: none)
def foldA {α : Type} (t : Ty) (v : V) (k : A → H α) : H α :=
 match castT t v with
 | .ag us => foldL .own us fun ts => k (.ag ts)
 | v => own v fun t => k (.c t)
def A.small : A → Bool
 | .ag ts => Nat.ble ts.length 64
 | _ => true
def PO.small : PO → Bool
 | .box _ ts => Nat.ble ts.length 64
 | _ => true
def finRets (P : Program) (tm : Nat → V) : List (ResultVar × TypeId) → (List A → H Out) → H Out
 | [], k => k []
 | (.tmp t, ty') :: r, k => foldA (ty P ty') (tm t) fun a => finRets P tm r fun as => k (a :: as)
 | (.cell a t, ty') :: r, k => loadCell P t (tm a) fun v => foldA (ty P ty') v fun a => finRets P tm r fun as => k (a :: as)
where
 loadCell (P : Program) (t : TypeId) (p : V) (k : V → H Out) : H Out :=
  match p with
  | .pt id _ 0 j => .get id fun ver' => fun
   | some (.box _ cells) => .chk (hasU P t && Nat.ble (j + sizeP P t) cells.length && (isAggT P t || Nat.beq (sizeP P t) 1)) (k (wrapAg (isAggT P t) ((cells.drop j).take (sizeP P t))))
   | _ => .fail
  | _ => .fail
def finIo : List (Nat × Nat × Nat) → (List T → H Out) → H Out
 | [], k => k []
 | (j, c, sz) :: r, k => .get (nArg j + c) fun ver' => fun
  | some (.rows .own sz' rs) => .chk (Nat.beq sz sz') (.put (nArg j + c) true none (finIo r fun ts => k (.sl .own sz rs :: ts)))
  | _ => .fail
def finPo : (p : Nat) → List Bool → (List PO → H Out) → H Out
 | _, [], k => k []
 | p, true :: r, k => finPo (p + 1) r fun ps => k (.box true [] :: ps)
 | p, false :: r, k => .get (nPO p) fun ver' => fun
  | some (.box false cells) => foldL .own cells fun ts => .put (nPO p) true (some (.box false (cells.map fun _ => .no))) (finPo (p + 1) r fun ps => k (.box false ts :: ps))
  | _ => .fail
def finH (E : Env) (F : Fn) (tm : Nat → V) : H Out :=
 finIo F.ios fun outs => finPo 0 F.pos fun pos =>
 finRets E.P tm (F.fn.results.toList.zip F.fn.resultTypes.toList) fun rets => .ret ⟨rets, outs, pos⟩
def fin (E : Env) (F : Fn) (σ : St) : Option LRes := (finH E F σ.tm).runK σ.objs [] fun o _ _ => some (.ret o)
def ioNames (l : List (Nat × Nat × Nat)) : List Nat := l.map fun e => nArg e.1 + e.2.1
def staysOf (io : List Nat) : List Nat → Nat → List (Nat × Nat)
 | [], _ => []
 | id :: ids, p => bif io.any (Nat.beq id) then (p, id) :: staysOf io ids (p + 1) else staysOf io ids (p + 1)
def staysOk (bid : Nat) (sts : List (Nat × Nat)) (ids : List Nat) : Bool := sts.all fun e => Nat.beq (ids.getD e.1 0) (nL bid e.1)
def home1 (x y : Nat) (s : Objs) : Objs :=
 match (s x).o with
 | some (.rows .own sz rs) => match (s y).o with
  | none => bif Nat.ble 1 (s y).ver then putS (putS s x true none) y true (some (.rows .own sz rs)) else s
  | _ => s
 | _ => s
def homeAll (bid : Nat) : List (Nat × Nat) → Objs → Objs
 | [], s => s
 | (p, id) :: r, s => homeAll bid r (home1 (nL bid p) id s)
def forceNN {β : Type} : List (Nat × Nat) → (List (Nat × Nat) → β) → β
 | [], k => k []
 | (a, b) :: l, k => forceNN l fun l => k ((a, b) :: l)
theorem forceNN_eq {β : Type} : ∀ (l : List (Nat × Nat)) (k : List (Nat × Nat) → β), forceNN l k = k l
 | [], k => rfl
 | (a, b) :: l, k => by rw [forceNN, forceNN_eq l]
def nMat (e : Bool) (bid p : Nat) : Nat := (bif e then 300000000000 else 200000000000) + 4096 * bid + p
def isNlV : V → Bool
 | .nl _ => true
 | _ => false
def matSlots {β : Type} (e : Bool) (bid : Nat) : List Nat → (p : Nat) → St → (Nat → St → Option β) → Option β
 | [], p, σ, k => k p σ
 | t :: ts, p, σ, k => match σ.tm t with
  | .nl sz => bif Nat.beq (σ.objs (nMat e bid p)).ver 0 then
    matSlots e bid ts (p + 1) { tm := upd σ.tm t (.sl (nMat e bid p) true 0 0 sz), objs := putS σ.objs (nMat e bid p) true (some (.rows .own sz [])) } k else none
  | _ => matSlots e bid ts p σ k
def matCells {β : Type} (e : Bool) (bid : Nat) : List V → (p : Nat) → Objs → (List V → Nat → Objs → Option β) → Option β
 | [], p, s, k => k [] p s
 | v :: vs, p, s, k => match v with
  | .nl sz => bif Nat.beq (s (nMat e bid p)).ver 0 then
    matCells e bid vs (p + 1) (putS s (nMat e bid p) true (some (.rows .own sz []))) fun us p' s' => k (.sl (nMat e bid p) true 0 0 sz :: us) p' s' else none
  | v => matCells e bid vs p s fun us p' s' => k (v :: us) p' s'
def matBoxes {β : Type} (e : Bool) (bid : Nat) : List Nat → (p : Nat) → St → (St → Option β) → Option β
 | [], p, σ, k => k σ
 | id :: ids, p, σ, k => match (σ.objs id).o with
  | some (.box false cells) => bif cells.any isNlV then
    matCells e bid cells p σ.objs fun us p' s' => matBoxes e bid ids p' { σ with objs := putS s' id true (some (.box false us)) } k
    else matBoxes e bid ids p σ k
  | _ => matBoxes e bid ids p σ k
def matAll {β : Type} (e : Bool) (bid : Nat) (ws ids : List Nat) (σ : St) (k : St → Option β) : Option β :=
 matSlots e bid ws 0 σ fun p σ => matBoxes e bid ids p σ k
section
variable (lp : (List T → Option LRes) → List T → Option LRes)
def keepOf (pre post body : List Nat) : List Nat := dedup (pre.filter fun t => (body ++ post).any (Nat.beq t)) []
def loopK (E : Env) (io : List Nat) (bid : Nat) (pre post : List Nat) (c : Code) (ev : St → (Ex → St → Option LRes) → Option LRes) (σ0 : St) (k : Ex → St → Option LRes) : Option LRes :=
  forceN (keepOf pre post (Code.reads c)) fun keep0 =>
  forceBN (keep0.map fun t => ((Code.writes c).any (Nat.beq t), t)) fun keep =>
  forceN (dangers E c) fun dng =>
  forceN (keep0.filter fun t => (Code.writes c).any (Nat.beq t) || dng.any (Nat.beq t)) fun keepW =>
  forceN (keep0.filter fun t => (Code.writes c).any (Nat.beq t)) fun ws =>
  forceN (reachIds σ0 keepW) fun ids0 =>
  matAll false bid ws ids0 σ0 fun σ =>
  forceN (reachIds σ keepW) fun ids =>
  forceN ((reachIds σ keep0).filter fun i => !ids.any (Nat.beq i)) fun con =>
  (snap bid σ keep con ids).force fun s =>
  forceNN (staysOf io ids 0) fun sts =>
  bif newL bid σ.objs ids.length && s.eqf s then
  let step : List T → Option LRes := fun ds =>
   bif okD s.knd (tAt ds) 0 then
    (s.fill (tAt ds)).force fun s0 => ev (s0.st bid (baseOf con σ.objs) keep) fun e σ1 =>
     forceN ((reachAt σ1 keepW keep0).filter fun i => !con.any (Nat.beq i)) fun ids1 =>
     matAll true bid ws ids1 σ1 fun σ' =>
     forceN ((reachAt σ' keepW keep0).filter fun i => !con.any (Nat.beq i)) fun ids' =>
     (snap bid σ' keep con ids').force fun s' =>
     bif s.eqf s' && conOk con σ.objs σ'.objs && staysOk bid sts ids' then match e with
      | .norm => some (.next s'.dat)
      | .exit id => bif Nat.beq id bid then some (.brk s'.dat) else none
     else none
   else none
  (lp step s.dat).bind fun
   | .brk ds => bif okD s.knd (tAt ds) 0 then (s.fill (tAt ds)).force fun s0 => k (.exit bid) { tm := (s0.st bid (baseOf con σ.objs) keep).tm, objs := homeAll bid sts (s0.st bid (baseOf con σ.objs) keep).objs } else none
   | .ret o => some (.ret o)
   | .next _ => none
  else none
def evK (E : Env) (F : Fn) (io : List Nat) (bid : Nat) (pre post : List Nat) : Code → St → (Ex → St → Option LRes) → Option LRes
 | .skip, σ, k => k .norm σ
 | .region id ops draw, σ, k => runRegion E post (bif post.any (Nat.beq 999999) then id + 4096 else id) ops draw σ (k .norm)
 | .seq a b, σ, k => evK E F io bid pre (Code.reads b ++ post) a σ fun
  | .norm, σ' => evK E F io bid (pre ++ Code.writes a) post b σ' k
  | e, σ' => k e σ'
 | .cond c a b, σ, k =>
  match c with
  | .tmp t => match σ.tm t with
   | .im (.bool c) => bif c then evK E F io bid pre post a { σ with tm := upd σ.tm t (.im (.bool true)) } k
     else evK E F io bid pre post b { σ with tm := upd σ.tm t (.im (.bool false)) } k
   | _ => none
  | .const (.bool true) => evK E F io bid pre post a σ k
  | .const (.bool false) => evK E F io bid pre post b σ k
  | _ => none
 | .block id c, σ, k => evK E F io id pre post c σ fun
  | .exit id', σ' => bif Nat.beq id' id then k .norm σ' else k (.exit id') σ'
  | e, σ' => k e σ'
 | .exit id, σ, k => k (.exit id) σ
 | .ret, σ, _ => fin E F σ
 | .loop c, σ0, k =>
  bif Nat.beq F.peel (bid + 1) then
   evK E F io bid pre (999999 :: (Code.reads c ++ post)) c σ0 fun
    | .norm, σ1 => loopK lp E io bid pre post c (fun σ kk => evK E F io bid pre (Code.reads c ++ post) c σ kk) σ1 k
    | .exit id, σ1 => k (.exit id) σ1
  else loopK lp E io bid pre post c (fun σ kk => evK E F io bid pre (Code.reads c ++ post) c σ kk) σ0 k
 | _, _, _ => none
def unA0 (n : Nat) : A → V
 | .c (.im (.slice none 0 0)) => .nl 0
 | a => unA n a
def inTm : List A → (j : Nat) → Nat → V
 | [], _ => fun _ => .no
 | a :: as, j => upd (inTm as (j + 1)) j (unA0 (nArg j) a)
def inArgs : List A → (j : Nat) → Objs → Objs
 | [], _, s => s
 | a :: as, j, s => putA (nArg j) a (inArgs as (j + 1) s)
def inPos : List PO → (p : Nat) → Objs → Objs
 | [], _, s => s
 | .box ro ts :: ps, p, s => putS (putL (nPC p) ts (inPos ps (p + 1) s)) (nPO p) true (some (.box ro (unL (nPC p) ts)))
 | .rows f sz rs :: ps, p, s => putS (inPos ps (p + 1) s) (nPO p) true (some (.rows f sz rs))
def agIos (j : Nat) : (c : Nat) → List T → List (Nat × Nat × Nat)
 | _, [] => []
 | c, .sl _ sz _ :: ts => (j, c, sz) :: agIos j (c + 1) ts
 | c, _ :: ts => agIos j (c + 1) ts
def iosOf (ms : List Mode) (as : List A) : (j : Nat) → List (Nat × Nat × Nat) := go ms as
where
 go : List Mode → List A → Nat → List (Nat × Nat × Nat)
  | .io :: ms, .c (.sl _ sz _) :: as, j => (j, 0, sz) :: go ms as (j + 1)
  | .io :: ms, .ag ts :: as, j => agIos j 0 ts ++ go ms as (j + 1)
  | _ :: ms, _ :: as, j => go ms as (j + 1)
  | _, _, _ => []
def smallAll (as : List A) (pos : List PO) : Bool := as.all A.small && pos.all PO.small && Nat.ble as.length 100 && Nat.ble pos.length 1000
def entry (as : List A) (pos : List PO) : Objs := inPos pos 0 (inArgs as 0 fun _ => ⟨0, none⟩)
def fnOf (E : Env) (f : FuncId) (fn : Func) (as : List A) (pos : List PO) : Fn := ⟨fn, as.length, iosOf (modesOf E f) as 0, pos.map (fun | .box ro _ => ro | .rows .. => true), (E.modes (1000000 + f)).elim 0 List.length⟩
def body (E : Env) (f : FuncId) (as : List A) (pos : List PO) : Option LRes :=
 match E.P.funcs[f]? with
 | some fn => match fn.body with
  | some c => bif smallAll as pos && !(fn.name == "runtime.NumGoroutine") && Nat.beq fn.results.size fn.resultTypes.size && (Code.writes c).all (fun d => Nat.blt d fn.ntmps) then
    evK lp E (fnOf E f fn as pos) (ioNames (iosOf (modesOf E f) as 0)) 100000 (List.range as.length)
     (fn.results.toList.map fun | .tmp t => t | .cell a _ => a) c { tm := inTm as 0, objs := entry as pos }
     (fun e σ => match e with | .norm => fin E (fnOf E f fn as pos) σ | .exit _ => none)
   else none
  | none => none
 | none => none
def bodyS (E : Env) (f : FuncId) (as : List A) (pos : List PO) (σ0 : St) : Option LRes :=
 match E.P.funcs[f]? with
 | some fn => match fn.body with
  | some c => bif smallAll as pos && !(fn.name == "runtime.NumGoroutine") && Nat.beq fn.results.size fn.resultTypes.size && (Code.writes c).all (fun d => Nat.blt d fn.ntmps) then
    evK lp E (fnOf E f fn as pos) (ioNames (iosOf (modesOf E f) as 0)) 100000 (List.range as.length)
     (fn.results.toList.map fun | .tmp t => t | .cell a _ => a) c σ0
     (fun e σ => match e with | .norm => fin E (fnOf E f fn as pos) σ | .exit _ => none)
   else none
  | none => none
 | none => none
end
end
end Go.Vm
namespace Go.Vm
set_option linter.unusedVariables false
set_option linter.unusedSimpArgs false
def flat : Value → Prop
 | .agg _ | .tuple _ => False
 | _ => True
def Row (w : World) (b : Nat) (c : Array Value) : Prop :=
 ∃ t lo hi, w.heap[b]? = some (.cells c t (lo, hi)) ∧ (hi ≤ lo ∨ c.size ≤ lo)
theorem Row.inj {w : World} {b : Nat} {c c' : Array Value} (h : Row w b c) (h' : Row w b c') : c = c' := by
 obtain ⟨t, lo, hi, e, _⟩ := h
 obtain ⟨t', lo', hi', e', _⟩ := h'
 rw [e] at e'
 injection e' with e'
 injection e' with e' _ _
def Rw (w : World) (b : Nat) (c : Array Value) : Prop := ∃ t fr, w.heap[b]? = some (.cells c t fr)
theorem Row.rw {w : World} {b : Nat} {c : Array Value} (h : Row w b c) : Rw w b c := by
 obtain ⟨t, lo, hi, e, _⟩ := h
 exact ⟨t, (lo, hi), e⟩
theorem Rw.rw {w : World} {b : Nat} {c : Array Value} (h : Rw w b c) : Rw w b c := h
theorem Rw.inj {w : World} {b : Nat} {c c' : Array Value} (h : Rw w b c) (h' : Rw w b c') : c = c' := by
 obtain ⟨t, fr, e⟩ := h
 obtain ⟨t', fr', e'⟩ := h'
 rw [e] at e'
 injection e' with e'
 injection e' with e' _ _
theorem Rw.lt {w : World} {b : Nat} {c : Array Value} (h : Rw w b c) : b < w.heap.size := by
 obtain ⟨t, fr, e⟩ := h
 exact (Array.getElem?_eq_some_iff.1 e).1
theorem Rw.of_eq {w w' : World} {b : Nat} {c : Array Value} (h : Rw w b c) (e : w'.heap[b]? = w.heap[b]?) : Rw w' b c := by
 obtain ⟨t, fr, e'⟩ := h
 exact ⟨t, fr, e.trans e'⟩
theorem Row.lt {w : World} {b : Nat} {c : Array Value} (h : Row w b c) : b < w.heap.size := by
 obtain ⟨t, lo, hi, e, _⟩ := h
 exact (Array.getElem?_eq_some_iff.1 e).1
theorem Row.of_eq {w w' : World} {b : Nat} {c : Array Value} (h : Row w b c) (e : w'.heap[b]? = w.heap[b]?) : Row w' b c := by
 obtain ⟨t, lo, hi, e', f⟩ := h
 exact ⟨t, lo, hi, e.trans e', f⟩
def At (rs : List (List T)) (i j : Nat) (t : T) : Prop := ∃ r, rs[i]? = some r ∧ r[j]? = some t
inductive Im (w : World) (A : Nat → Prop) : T → Value → Prop
 | im {v : Value} (h : flat v) : Im w A (.im v) v
 | no {v : Value} (h : flat v) : Im w A .no v
 | nil {f : Fl} {sz : Nat} : Im w A (.sl f sz []) (.slice none 0 0)
 | emp {f : Fl} {sz : Nat} {a : Addr} : Im w A (.sl f sz []) (.slice (some a) 0 0)
 | sl {f : Fl} {sz : Nat} {rs : List (List T)} {b o cap : Nat} {c : Array Value} (hr : Rw w b c) (ha : A b) (hl : rs.length ≤ cap) (hb : o + cap * sz ≤ c.size)
   (hw : ∀ r ∈ rs, r.length = sz) (hc : ∀ i j t v, At rs i j t → c[o + i * sz + j]? = some v → Im w A t v) :
   Im w A (.sl f sz rs) (.slice (some ⟨b, o, none⟩) rs.length cap)
inductive Blk (w : World) : T → Value → Nat → Prop
 | here {sz : Nat} {rs : List (List T)} {b o n cap : Nat} (h0 : 0 < cap) : Blk w (.sl .own sz rs) (.slice (some ⟨b, o, none⟩) n cap) b
 | deep {sz : Nat} {rs : List (List T)} {b o n cap : Nat} {c : Array Value} {i j : Nat} {t : T} {v : Value} {b' : Nat} (h0 : 0 < cap) (hr : Rw w b c) (ht : At rs i j t)
   (hv : c[o + i * sz + j]? = some v) (h : Blk w t v b') : Blk w (.sl .own sz rs) (.slice (some ⟨b, o, none⟩) n cap) b'
inductive Ow (w : World) (RO FZ : Nat → Prop) : T → Value → Prop
 | im {v : Value} (h : flat v) : Ow w RO FZ (.im v) v
 | no {v : Value} (h : flat v) : Ow w RO FZ .no v
 | nil {f : Fl} {sz : Nat} : Ow w RO FZ (.sl f sz []) (.slice none 0 0)
 | emp {f : Fl} {sz : Nat} {a : Addr} : Ow w RO FZ (.sl f sz []) (.slice (some a) 0 0)
 | ro {sz : Nat} {rs : List (List T)} {v : Value} (h : Im w RO (.sl .ro sz rs) v) : Ow w RO FZ (.sl .ro sz rs) v
 | fz {sz : Nat} {rs : List (List T)} {v : Value} (h : Im w FZ (.sl .fz sz rs) v) : Ow w RO FZ (.sl .fz sz rs) v
 | own {sz : Nat} {rs : List (List T)} {b o cap : Nat} {c : Array Value} (h0 : 0 < cap) (hr : Row w b c) (hl : rs.length ≤ cap) (hb : o + cap * sz ≤ c.size)
   (hw : ∀ r ∈ rs, r.length = sz) (hc : ∀ i j t v, At rs i j t → c[o + i * sz + j]? = some v → Ow w RO FZ t v)
   (hn : ∀ i j t v, At rs i j t → c[o + i * sz + j]? = some v → ¬ Blk w t v b)
   (hd : ∀ i j t v i' j' t' v', At rs i j t → c[o + i * sz + j]? = some v → At rs i' j' t' → c[o + i' * sz + j']? = some v' → (i ≠ i' ∨ j ≠ j') →
    ∀ b', Blk w t v b' → ¬ Blk w t' v' b') :
   Ow w RO FZ (.sl .own sz rs) (.slice (some ⟨b, o, none⟩) rs.length cap)
theorem Im.mono {w w' : World} {A A' : Nat → Prop} {t : T} {v : Value} (h : Im w A t v) (hA : ∀ b, A b → A' b) (he : ∀ b, A b → w'.heap[b]? = w.heap[b]?) : Im w' A' t v := by
 induction h with
 | im h => exact .im h
 | no h => exact .no h
 | nil => exact .nil
 | emp => exact .emp
 | sl hr ha hl hb hw _ ih => exact .sl (hr.of_eq (he _ ha)) (hA _ ha) hl hb hw ih
theorem Blk.of_eq {w w' : World} {t : T} {v : Value} {b : Nat} (h : Blk w t v b) : (∀ b, Blk w t v b → w'.heap[b]? = w.heap[b]?) → Blk w' t v b := by
 induction h with
 | here h0 => exact fun _ => .here h0
 | deep h0 hr ht hv h ih =>
  exact fun he => .deep h0 (hr.of_eq (he _ (.here h0))) ht hv (ih fun b hb => he _ (.deep h0 hr ht hv hb))
theorem Blk.back {w w' : World} {t : T} {v : Value} {b : Nat} (h : Blk w' t v b) : (∀ b, Blk w t v b → w'.heap[b]? = w.heap[b]?) → Blk w t v b := by
 induction h with
 | here h0 => exact fun _ => .here h0
 | deep h0 hr ht hv h ih =>
  intro he
  have hr' := hr.of_eq (w' := _) (he _ (.here h0)).symm
  exact .deep h0 hr' ht hv (ih fun b hb => he _ (.deep h0 hr' ht hv hb))
theorem Blk.row {w : World} {RO FZ : Nat → Prop} {t : T} {v : Value} {b : Nat} (h : Blk w t v b) : Ow w RO FZ t v → ∃ c, Row w b c := by
 induction h with
 | here h0 =>
  intro ho
  cases ho with
  | own _ hr => exact ⟨_, hr⟩
  | emp => omega
 | deep h0 hr ht hv h ih =>
  intro ho
  cases ho with
  | emp => omega
  | own _ hr' _ _ _ hc =>
   obtain rfl := hr.inj hr'.rw
   exact ih (hc _ _ _ _ ht hv)
theorem Ow.of_eq {w w' : World} {RO FZ RO' FZ' : Nat → Prop} {t : T} {v : Value} (h : Ow w RO FZ t v) (hR : ∀ b, RO b → RO' b) (hF : ∀ b, FZ b → FZ' b)
  (eR : ∀ b, RO b → w'.heap[b]? = w.heap[b]?) (eF : ∀ b, FZ b → w'.heap[b]? = w.heap[b]?) : (∀ b, Blk w t v b → w'.heap[b]? = w.heap[b]?) → Ow w' RO' FZ' t v := by
 induction h with
 | im h => exact fun _ => .im h
 | no h => exact fun _ => .no h
 | nil => exact fun _ => .nil
 | emp => exact fun _ => .emp
 | ro h => exact fun _ => .ro (h.mono hR eR)
 | fz h => exact fun _ => .fz (h.mono hF eF)
 | own h0 hr hl hb hw hc hn hd ih =>
  intro he
  refine .own h0 (hr.of_eq (he _ (.here h0))) hl hb hw (fun i j t v ht hv => ih i j t v ht hv fun b' hb' => he _ (.deep h0 hr.rw ht hv hb')) (fun i j t v ht hv hx => ?_) (fun i j t v i' j' t' v' ht hv ht' hv' hne b' h1 h2 => ?_)
  ·exact hn i j t v ht hv (hx.back fun b' hb' => he _ (.deep h0 hr.rw ht hv hb'))
  ·exact hd i j t v i' j' t' v' ht hv ht' hv' hne b' (h1.back fun b' hb' => he _ (.deep h0 hr.rw ht hv hb')) (h2.back fun b' hb' => he _ (.deep h0 hr.rw ht' hv' hb'))
theorem Ow.im' {w : World} {RO FZ : Nat → Prop} {t : T} {v : Value} (h : Ow w RO FZ t v) : Im w (fun b => Blk w t v b ∨ RO b ∨ FZ b) t v := by
 induction h with
 | im h => exact .im h
 | no h => exact .no h
 | nil => exact .nil
 | emp => exact .emp
 | ro h => exact h.mono (fun b hb => .inr (.inl hb)) (fun _ _ => rfl)
 | fz h => exact h.mono (fun b hb => .inr (.inr hb)) (fun _ _ => rfl)
 | own h0 hr hl hb hw hc hn hd ih =>
  exact .sl hr.rw (.inl (.here h0)) hl hb hw fun i j t v ht hv => (ih i j t v ht hv).mono (fun b' hb' => hb'.imp (fun x => .deep h0 hr.rw ht hv x) id) (fun _ _ => rfl)
theorem Im.flatV {w : World} {A : Nat → Prop} {t : T} {v : Value} (h : Im w A t v) : flat v := by
 cases h with
 | im h => exact h
 | no h => exact h
 | nil => trivial
 | emp => trivial
 | sl => trivial
theorem Ow.flatV {w : World} {RO FZ : Nat → Prop} {t : T} {v : Value} (h : Ow w RO FZ t v) : flat v := h.im'.flatV
theorem Im.flag {w : World} {A : Nat → Prop} {f f' : Fl} {sz : Nat} {rs : List (List T)} {v : Value} (h : Im w A (.sl f sz rs) v) : Im w A (.sl f' sz rs) v := by
 cases h with
 | nil => exact .nil
 | emp => exact .emp
 | sl hr ha hl hb hw hc => exact .sl hr ha hl hb hw hc
abbrev vers (s : Objs) : Nat → Nat := fun i => (s i).ver
inductive RepV (vr : Nat → Nat) (β : Nat → Value) : V → Value → Prop
 | im {v : Value} (h : flat v) : RepV vr β (.im v) v
 | nl {sz : Nat} : RepV vr β (.nl sz) (.slice none 0 0)
 | sl0 {id sz : Nat} {e : Bool} (hz : id ≠ 7) (hv : 1 ≤ vr id) (h : β id = .slice none 0 0) : RepV vr β (.sl id e 0 0 sz) (.slice none 0 0)
 | se {id sz : Nat} {e : Bool} {a a' : Addr} (hv : 1 ≤ vr id) (h : β id = .slice (some a) 0 0) : RepV vr β (.sl id e 0 0 sz) (.slice (some a') 0 0)
 | sl {id sz off len b o n cap o' cap' : Nat} {e : Bool} (hv : 1 ≤ vr id) (h : β id = .slice (some ⟨b, o, none⟩) n cap) (h1 : off + len ≤ n) (h2 : off + cap' ≤ cap) (h3 : len ≤ cap')
   (h4 : e = true → off + len = n ∧ off + cap' = cap) (h5 : o' = o + off * sz ∨ (cap' = 0 ∧ o' ≤ o + cap * sz)) : RepV vr β (.sl id e off len sz) (.slice (some ⟨b, o', none⟩) len cap')
 | ptb {id sz j b : Nat} (hv : 1 ≤ vr id) (h : β id = .pointer (some ⟨b, 0, none⟩)) : RepV vr β (.pt id sz 0 j) (.pointer (some ⟨b, j, none⟩))
 | pts {id sz i j b o n cap : Nat} (hv : 1 ≤ vr id) (h : β id = .slice (some ⟨b, o, none⟩) n cap) (hi : i < n) : RepV vr β (.pt id sz i j) (.pointer (some ⟨b, o + i * sz + j, none⟩))
 | ag {vs : List V} {xs : Array Value} (hl : vs.length = xs.size) (hf : ∀ (i : Nat) (x : Value), xs[i]? = some x → flat x) (h : ∀ (i : Nat) (v : V) (x : Value), vs[i]? = some v → xs[i]? = some x → RepV vr β v x) : RepV vr β (.ag vs) (.agg xs)
 | tu {vs : List V} {xs : Array Value} (hl : vs.length = xs.size) (h : ∀ (i : Nat) (v : V) (x : Value), vs[i]? = some v → xs[i]? = some x → RepV vr β v x) : RepV vr β (.tu vs) (.tuple xs)
 | fn {f : Nat} {vs : List V} {xs : Array Value} (hl : vs.length = xs.size) (h : ∀ (i : Nat) (v : V) (x : Value), vs[i]? = some v → xs[i]? = some x → RepV vr β v x) : RepV vr β (.fn f vs) (.func (.func f) #[] xs)
 | mp {id b : Nat} (hv : 1 ≤ vr id) (h : β id = .map (some b)) : RepV vr β (.mp id) (.map (some b))
 | no {v : Value} : RepV vr β .no v
theorem RepV.up {vr vr' : Nat → Nat} {β β' : Nat → Value} {v : V} {x : Value} (h : RepV vr β v x) (hv : ∀ i, 1 ≤ vr i → 1 ≤ vr' i) (hb : ∀ i, 1 ≤ vr i → β' i = β i) : RepV vr' β' v x := by
 induction h with
 | im h => exact .im h
 | nl => exact .nl
 | sl0 hz h1 h => exact .sl0 hz (hv _ h1) ((hb _ h1).trans h)
 | se h1 h => exact .se (hv _ h1) ((hb _ h1).trans h)
 | sl h1 h a b c d e => exact .sl (hv _ h1) ((hb _ h1).trans h) a b c d e
 | ptb h1 h => exact .ptb (hv _ h1) ((hb _ h1).trans h)
 | pts h1 h a => exact .pts (hv _ h1) ((hb _ h1).trans h) a
 | ag hl hf _ ih => exact .ag hl hf ih
 | tu hl _ ih => exact .tu hl ih
 | fn hl _ ih => exact .fn hl ih
 | mp h1 h => exact .mp (hv _ h1) ((hb _ h1).trans h)
 | no => exact .no
def mkV (ks : List Kd) (cs : List Value) : Value := bif isAg ks then .agg cs.toArray else cs.headD undef
structure EntR (kf vf : List Kd) (e : MapEntry) (kc vc : List Value) : Prop where
 hk : okVs kf kc = true
 hv : okVs vf vc = true
 key : e.key = mkV kf kc
 val : e.val = mkV vf vc
inductive EntL (kf vf : List Kd) : List MapEntry → List (List T) → Prop
 | nil : EntL kf vf [] []
 | cons {e : MapEntry} {es : List MapEntry} {kc vc : List Value} {rs : List (List T)} (h : EntR kf vf e kc vc) (hs : EntL kf vf es rs) : EntL kf vf (e :: es) ((kc ++ vc).map .im :: rs)
def MapAt (w : World) (b : Nat) (kf vf : List Kd) (rs : List (List T)) : Prop := ∃ es ck, w.heap[b]? = some (.map es ck) ∧ EntL kf vf es.toList rs
theorem MapAt.of_eq {w w' : World} {b : Nat} {kf vf : List Kd} {rs : List (List T)} (h : MapAt w b kf vf rs) (e : w'.heap[b]? = w.heap[b]?) : MapAt w' b kf vf rs := by
 obtain ⟨es, ck, h1, h2⟩ := h
 exact ⟨es, ck, e.trans h1, h2⟩
theorem MapAt.lt {w : World} {b : Nat} {kf vf : List Kd} {rs : List (List T)} (h : MapAt w b kf vf rs) : b < w.heap.size := by
 obtain ⟨es, ck, h1, _⟩ := h
 exact (Array.getElem?_eq_some_iff.1 h1).1
def RepO (w : World) (RO FZ : Nat → Prop) (β : Nat → Value) (objs : Objs) (id : Nat) : O → Prop
 | .box ro cells => ∃ b c, β id = .pointer (some ⟨b, 0, none⟩) ∧ Row w b c ∧ c.size = cells.length ∧ (∀ (j : Nat) (v : V) (x : Value), cells[j]? = some v → c[j]? = some x → RepV (vers objs) β v x ∧ flat x) ∧ (ro = true → RO b)
 | .rows f sz rs => Ow w RO FZ (.sl f sz rs) (β id)
 | .link x ver i j => ver ≤ (objs x).ver ∧ 1 ≤ ver ∧ (ver = (objs x).ver → ∀ f sz rs, (objs x).o = some (.rows f sz rs) →
   (∃ t, At rs i j t) ∧ ∃ b o n cap c, β x = .slice (some ⟨b, o, none⟩) n cap ∧ Rw w b c ∧ c[o + i * sz + j]? = some (β id))
 | .mp kf vf rs => ∃ b, β id = .map (some b) ∧ MapAt w b kf vf rs
def OB (w : World) (β : Nat → Value) (id : Nat) : O → Nat → Prop
 | .box ro _, b => ro = false ∧ β id = .pointer (some ⟨b, 0, none⟩)
 | .rows f sz rs, b => Blk w (.sl f sz rs) (β id) b
 | .link .., _ => False
 | .mp .., b => β id = .map (some b)
structure Cx where
 RO : Nat → Prop
 W : Nat → Prop
 n0 : Nat
 gw : World
def glob (w : World) : Prop := ∃ t fr, w.heap[3]? = some (.cells (Lib.pow10Tab.map fun z => Value.int .u64 z).toArray t fr)
def drw : Prop := False
def Bl (w : World) (β : Nat → Value) (objs : Objs) (pend : List (T × Value)) : Nat ⊕ Nat → Nat → Prop
 | .inl id, b => ∃ o, (objs id).o = some o ∧ OB w β id o b
 | .inr k, b => ∃ p, pend[k]? = some p ∧ Blk w p.1 p.2 b
structure OK (X : Cx) (w : World) (FZ : Nat → Prop) (β : Nat → Value) (objs : Objs) (pend : List (T × Value)) : Prop where
 rep : ∀ id o, (objs id).o = some o → RepO w X.RO FZ β objs id o
 pow : ∀ (k : Nat) p, pend[k]? = some p → Ow w X.RO FZ p.1 p.2
 apart : ∀ u u' b, u ≠ u' → Bl w β objs pend u b → ¬ Bl w β objs pend u' b
 sep : ∀ u b, Bl w β objs pend u b → ¬ X.RO b ∧ ¬ FZ b ∧ (X.W b ∨ X.n0 ≤ b)
 ro : ∀ b, X.RO b → b < X.n0 ∧ ¬ X.W b
 fz : ∀ b, FZ b → b < w.heap.size
 n0 : X.n0 ≤ w.heap.size
 live : ∀ id o, (objs id).o = some o → 1 ≤ (objs id).ver
 gl : (∀ b, b < X.gw.heap.size → X.RO b ∧ w.heap[b]? = X.gw.heap[b]?) ∧ glob X.gw
def Rd (X : Cx) (w : World) (FZ : Nat → Prop) (β : Nat → Value) (objs : Objs) (pend : List (T × Value)) (b : Nat) : Prop :=
 (∃ u, Bl w β objs pend u b) ∨ X.RO b ∨ FZ b
theorem Ow.head {w : World} {RO FZ : Nat → Prop} {f : Fl} {sz : Nat} {rs : List (List T)} {b o n cap : Nat} (h : Ow w RO FZ (.sl f sz rs) (.slice (some ⟨b, o, none⟩) n cap)) (h0 : 0 < cap) :
  n = rs.length ∧ (∃ c, Rw w b c ∧ rs.length ≤ cap ∧ o + cap * sz ≤ c.size ∧ ∀ r ∈ rs, r.length = sz) ∧ (Blk w (.sl f sz rs) (.slice (some ⟨b, o, none⟩) n cap) b ∨ RO b ∨ FZ b) := by
 cases h with
 | emp => omega
 | ro h => cases h with
  | emp => omega
  | sl hr ha hl hb hw hc => exact ⟨rfl, ⟨_, hr, hl, hb, hw⟩, .inr (.inl ha)⟩
 | fz h => cases h with
  | emp => omega
  | sl hr ha hl hb hw hc => exact ⟨rfl, ⟨_, hr, hl, hb, hw⟩, .inr (.inr ha)⟩
 | own h0 hr hl hb hw hc hn hd => exact ⟨rfl, ⟨_, hr.rw, hl, hb, hw⟩, .inl (.here h0)⟩
theorem Ow.headO {w : World} {RO FZ : Nat → Prop} {sz : Nat} {rs : List (List T)} {b o n cap : Nat} (h : Ow w RO FZ (.sl .own sz rs) (.slice (some ⟨b, o, none⟩) n cap)) (h0 : 0 < cap) :
  n = rs.length ∧ (∃ c, Row w b c ∧ rs.length ≤ cap ∧ o + cap * sz ≤ c.size ∧ ∀ r ∈ rs, r.length = sz) ∧ (Blk w (.sl .own sz rs) (.slice (some ⟨b, o, none⟩) n cap) b ∨ RO b ∨ FZ b) := by
 cases h with
 | emp => omega
 | own h0 hr hl hb hw hc hn hd => exact ⟨rfl, ⟨_, hr, hl, hb, hw⟩, .inl (.here h0)⟩
theorem Ow.len {w : World} {RO FZ : Nat → Prop} {f : Fl} {sz : Nat} {rs : List (List T)} {p : Option Addr} {n cap : Nat} (h : Ow w RO FZ (.sl f sz rs) (.slice p n cap)) : n = rs.length ∧ n ≤ cap := by
 cases h with
 | nil => exact ⟨rfl, Nat.le_refl _⟩
 | emp => exact ⟨rfl, Nat.le_refl _⟩
 | ro h => cases h with
  | nil => exact ⟨rfl, Nat.le_refl _⟩
  | emp => exact ⟨rfl, Nat.le_refl _⟩
  | sl hr ha hl hb hw hc => exact ⟨rfl, hl⟩
 | fz h => cases h with
  | nil => exact ⟨rfl, Nat.le_refl _⟩
  | emp => exact ⟨rfl, Nat.le_refl _⟩
  | sl hr ha hl hb hw hc => exact ⟨rfl, hl⟩
 | own h0 hr hl hb hw hc hn hd => exact ⟨rfl, hl⟩
theorem Ow.pos {w : World} {RO FZ : Nat → Prop} {f : Fl} {sz : Nat} {rs : List (List T)} {p : Option Addr} {n cap i j : Nat} (h : Ow w RO FZ (.sl f sz rs) (.slice p n cap)) (ht : ∃ t, At rs i j t) : 0 < cap := by
 obtain ⟨t, r, hr, _⟩ := ht
 have := (List.getElem?_eq_some_iff.1 hr).1
 have := Ow.len h
 omega
theorem OK.world {X : Cx} {w w' : World} {FZ : Nat → Prop} {β : Nat → Value} {objs : Objs} {pend : List (T × Value)} (h : OK X w FZ β objs pend)
  (he : ∀ b, Rd X w FZ β objs pend b → w'.heap[b]? = w.heap[b]?) (hs : w.heap.size ≤ w'.heap.size) :
  OK X w' FZ β objs pend ∧ ∀ u b, Bl w' β objs pend u b → Bl w β objs pend u b := by
 have eR : ∀ b, X.RO b → w'.heap[b]? = w.heap[b]? := fun b hb => he b (.inr (.inl hb))
 have eF : ∀ b, FZ b → w'.heap[b]? = w.heap[b]? := fun b hb => he b (.inr (.inr hb))
 have eO : ∀ id o, (objs id).o = some o → ∀ b, OB w β id o b → w'.heap[b]? = w.heap[b]? := fun id o ho b hb => he b (.inl ⟨.inl id, o, ho, hb⟩)
 have eP : ∀ (k : Nat) p, pend[k]? = some p → ∀ b, Blk w p.1 p.2 b → w'.heap[b]? = w.heap[b]? := fun k p hp b hb => he b (.inl ⟨.inr k, p, hp, hb⟩)
 have back : ∀ u b, Bl w' β objs pend u b → Bl w β objs pend u b := by
  rintro (id | k) b ⟨o, ho, hb⟩
  ·refine ⟨o, ho, ?_⟩
   cases o with
   | box ro cells => exact hb
   | rows f sz rs => exact Blk.back hb (eO id _ ho)
   | link => exact hb
   | mp => exact hb
  ·exact ⟨o, ho, Blk.back hb (eP k _ ho)⟩
 refine ⟨⟨?_, ?_, ?_, ?_, h.ro, fun b hb => Nat.lt_of_lt_of_le (h.fz b hb) hs, Nat.le_trans h.n0 hs, h.live, fun b hb => ⟨(h.gl.1 b hb).1, (eR b (h.gl.1 b hb).1).trans (h.gl.1 b hb).2⟩, h.gl.2⟩, back⟩
 ·intro id o ho
  have hr := h.rep id o ho
  cases o with
  | box ro cells =>
   obtain ⟨b, c, hb, hrow, hl, hc, hro⟩ := hr
   refine ⟨b, c, hb, hrow.of_eq ?_, hl, hc, hro⟩
   cases ro with
   | true => exact eR b (hro rfl)
   | false => exact eO id _ ho b ⟨rfl, hb⟩
  | rows f sz rs => exact Ow.of_eq hr (fun _ h => h) (fun _ h => h) eR eF (eO id _ ho)
  | mp kf vf rs =>
   obtain ⟨b, hb, hm⟩ := hr
   exact ⟨b, hb, hm.of_eq (eO id _ ho b hb)⟩
  | link x ver i j =>
   refine ⟨hr.1, hr.2.1, fun hv f sz rs hx => ?_⟩
   obtain ⟨ht, b, o, n, cap, c, hbx, hrow, hc⟩ := hr.2.2 hv f sz rs hx
   refine ⟨ht, b, o, n, cap, c, hbx, hrow.of_eq ?_, hc⟩
   have hx' : Ow w X.RO FZ (.sl f sz rs) (β x) := h.rep x _ hx
   rw [hbx] at hx'
   rcases (Ow.head hx' (Ow.pos hx' ht)).2.2 with hh | hh | hh
   ·exact eO x _ hx b (by show Blk w _ (β x) b; rw [hbx]; exact hh)
   ·exact eR b hh
   ·exact eF b hh
 ·exact fun k p hp => Ow.of_eq (h.pow k p hp) (fun _ h => h) (fun _ h => h) eR eF (eP k p hp)
 ·exact fun u u' b hne hb hb' => h.apart u u' b hne (back _ _ hb) (back _ _ hb')
 ·exact fun u b hb => h.sep u b (back _ _ hb)
theorem OK.move {X : Cx} {w : World} {FZ : Nat → Prop} {β β' : Nat → Value} {objs objs' : Objs} {pend pend' : List (T × Value)} (h : OK X w FZ β objs pend)
  (rep : ∀ id o, (objs' id).o = some o → RepO w X.RO FZ β' objs' id o) (live : ∀ id o, (objs' id).o = some o → 1 ≤ (objs' id).ver) (pow : ∀ (k : Nat) p, pend'[k]? = some p → Ow w X.RO FZ p.1 p.2)
  (φ : Nat ⊕ Nat → Nat ⊕ Nat) (sub : ∀ u b, Bl w β' objs' pend' u b → Bl w β objs pend (φ u) b)
  (dis : ∀ u u' b, u ≠ u' → φ u = φ u' → Bl w β' objs' pend' u b → ¬ Bl w β' objs' pend' u' b) : OK X w FZ β' objs' pend' :=
 ⟨rep, pow, fun u u' b hne hb hb' => by
  by_cases e : φ u = φ u'
  ·exact dis u u' b hne e hb hb'
  ·exact h.apart _ _ b e (sub _ _ hb) (sub _ _ hb'), fun u b hb => h.sep _ b (sub _ _ hb), h.ro, h.fz, h.n0, live, h.gl⟩
theorem RepO.link_of {w : World} {RO FZ : Nat → Prop} {β β' : Nat → Value} {objs objs' : Objs} {id x ver i j : Nat} (h : RepO w RO FZ β objs id (.link x ver i j))
  (hv : (objs x).ver ≤ (objs' x).ver) (hid : β' id = β id) (hx : ver = (objs' x).ver → (objs' x).o = none ∨ ((objs' x).o = (objs x).o ∧ β' x = β x)) : RepO w RO FZ β' objs' id (.link x ver i j) := by
 refine ⟨Nat.le_trans h.1 hv, h.2.1, fun e f sz rs ho => ?_⟩
 rcases hx e with hn | ⟨he, hb⟩
 ·rw [hn] at ho; cases ho
 ·have := h.2.2 (Nat.le_antisymm h.1 (e ▸ hv)) f sz rs (he ▸ ho)
  rw [hid, hb]; exact this
theorem RepO.up {w : World} {RO FZ : Nat → Prop} {β β' : Nat → Value} {objs objs' : Objs} {id : Nat} {o : O} (h : RepO w RO FZ β objs id o) (hl : ∀ x ver i j, o ≠ .link x ver i j)
  (hv : ∀ i, (objs i).ver ≤ (objs' i).ver) (hb : ∀ i, 1 ≤ (objs i).ver → β' i = β i) (hid : β' id = β id) : RepO w RO FZ β' objs' id o := by
 cases o with
 | box ro cells =>
  obtain ⟨b, c, hb', hr, hs, hc, hro⟩ := h
  exact ⟨b, c, hid.trans hb', hr, hs, fun j v x hj hx => ⟨(hc j v x hj hx).1.up (fun i hi => Nat.le_trans hi (hv i)) hb, (hc j v x hj hx).2⟩, hro⟩
 | rows f sz rs => show Ow w RO FZ _ (β' id); rw [hid]; exact h
 | link x ver i j => exact absurd rfl (hl x ver i j)
 | mp kf vf rs =>
  obtain ⟨b, hb, hm⟩ := h
  exact ⟨b, hid.trans hb, hm⟩
theorem OK.sub {X : Cx} {w : World} {FZ : Nat → Prop} {β : Nat → Value} {objs objs' : Objs} {pend : List (T × Value)} (h : OK X w FZ β objs pend)
  (hs : ∀ id, (objs' id).o = none ∨ (objs' id).o = (objs id).o) (hv : ∀ id, (objs id).ver ≤ (objs' id).ver) : OK X w FZ β objs' pend := by
 have up : ∀ id o, (objs' id).o = some o → (objs id).o = some o := by
  intro id o ho
  rcases hs id with e | e
  ·rw [e] at ho; cases ho
  ·rw [← e]; exact ho
 have sub : ∀ u b, Bl w β objs' pend u b → Bl w β objs pend u b := by
  rintro (id | k) b ⟨o, ho, hb⟩
  ·exact ⟨o, up _ _ ho, hb⟩
  ·exact ⟨o, ho, hb⟩
 refine h.move ?_ (fun id o ho => Nat.le_trans (h.live id o (up _ _ ho)) (hv id)) h.pow id sub (fun u u' b hne e => absurd e hne)
 intro id o ho
 have hr := h.rep id o (up _ _ ho)
 cases o with
 | box => exact hr.up (by simp) hv (fun _ _ => rfl) rfl
 | rows => exact hr.up (by simp) hv (fun _ _ => rfl) rfl
 | mp => exact hr.up (by simp) hv (fun _ _ => rfl) rfl
 | link x ver i j => exact hr.link_of (hv x) rfl fun _ => (hs x).imp (fun x => x) fun x => ⟨x, rfl⟩
theorem cut_length {e : Bool} {off len : Nat} {rs : List (List T)} (h : off + len ≤ rs.length) (he : e = true → off + len = rs.length) : (cut e off len rs).length = len := by
 cases e
 ·simp [cut]; omega
 ·have := he rfl
  simp [cut]; omega
theorem cut_at {e : Bool} {off len : Nat} {rs : List (List T)} {i j : Nat} {t : T} (h : At (cut e off len rs) i j t) : At rs (off + i) j t := by
 obtain ⟨r, hr, hj⟩ := h
 refine ⟨r, ?_, hj⟩
 cases e
 ·simp only [cut, cond_false, List.getElem?_take, List.getElem?_drop] at hr
  split at hr
  ·exact hr
  ·cases hr
 ·simpa only [cut, cond_true, List.getElem?_drop] using hr
theorem cut_mem {e : Bool} {off len : Nat} {rs : List (List T)} {r : List T} (h : r ∈ cut e off len rs) : r ∈ rs := by
 cases e
 ·exact List.mem_of_mem_drop (List.mem_of_mem_take h)
 ·exact List.mem_of_mem_drop h
theorem At.lt {rs : List (List T)} {i j : Nat} {t : T} (h : At rs i j t) : i < rs.length := by
 obtain ⟨r, hr, _⟩ := h
 exact (List.getElem?_eq_some_iff.1 hr).1
theorem At.inj {rs : List (List T)} {i j : Nat} {t t' : T} (h : At rs i j t) (h' : At rs i j t') : t = t' := by
 obtain ⟨r, hr, hj⟩ := h
 obtain ⟨r', hr', hj'⟩ := h'
 rw [hr] at hr'
 injection hr' with e
 subst e
 rw [hj] at hj'
 exact Option.some.inj hj'
theorem At.cell {rs : List (List T)} {i j : Nat} {t : T} (h : At rs i j t) : cell rs i j = t := by
 obtain ⟨r, hr, hj⟩ := h
 simp [Vm.cell, List.getD, hr, hj]
theorem At.of_cell {rs : List (List T)} {i j : Nat} (h : Vm.cell rs i j ≠ .no) : At rs i j (Vm.cell rs i j) := by
 unfold Vm.cell at h ⊢
 cases hr : rs[i]? with
 | none => simp [List.getD, hr] at h
 | some r =>
  cases hj : r[j]? with
  | none => simp [List.getD, hr, hj] at h
  | some t => exact ⟨r, hr, by simp [List.getD, hr, hj]⟩
structure Part (rs : List (List T)) (e : Bool) (off len sz o cap o' cap' : Nat) : Prop where
 h1 : off + len ≤ rs.length
 h2 : off + cap' ≤ cap
 h3 : len ≤ cap'
 h4 : e = true → off + len = rs.length
 h5 : o' = o + off * sz ∨ (cap' = 0 ∧ o' ≤ o + cap * sz)
theorem Part.bound {rs : List (List T)} {e : Bool} {off len sz o cap o' cap' m : Nat} (p : Part rs e off len sz o cap o' cap') (hb : o + cap * sz ≤ m) : o' + cap' * sz ≤ m := by
 have h2 := Nat.mul_le_mul_right sz p.h2
 rw [Nat.add_mul] at h2
 rcases p.h5 with h | ⟨h, h'⟩
 ·omega
 ·subst h; omega
theorem Part.idx {rs : List (List T)} {e : Bool} {off len sz o cap o' cap' : Nat} (p : Part rs e off len sz o cap o' cap') {i j : Nat} {t : T} (h : At (cut e off len rs) i j t) :
  o' + i * sz + j = o + (off + i) * sz + j := by
 have hl := h.lt
 rw [cut_length p.h1 p.h4] at hl
 have := p.h3
 rcases p.h5 with h | ⟨h, _⟩
 ·rw [h, Nat.add_mul]; omega
 ·omega
theorem Im.cut {w : World} {A : Nat → Prop} {f : Fl} {sz : Nat} {rs : List (List T)} {b o n cap o' cap' off len : Nat} {e : Bool}
  (h : Im w A (.sl f sz rs) (.slice (some ⟨b, o, none⟩) n cap)) (p : Part rs e off len sz o cap o' cap') : Im w A (.sl f sz (cut e off len rs)) (.slice (some ⟨b, o', none⟩) len cap') := by
 cases h with
 | emp =>
  have h1 := p.h1
  have h2 := p.h2
  have e1 : cap' = 0 := by omega
  have e2 : len = 0 := by simpa using (show len ≤ 0 by simp at h1; omega)
  subst e1 e2
  have : Vm.cut e off 0 ([] : List (List T)) = [] := by cases e <;> simp [Vm.cut]
  rw [this]; exact .emp
 | sl hr ha hl hb hw hc =>
  have hlen := cut_length p.h1 p.h4
  have := Im.sl (f := f) (rs := Vm.cut e off len rs) (o := o') (cap := cap') hr ha (by rw [hlen]; exact p.h3) (p.bound hb) (fun r hr => hw r (cut_mem hr))
   (fun i j t v ht hv => hc _ _ t v (cut_at ht) (by rw [← p.idx ht]; exact hv))
  rwa [hlen] at this
theorem Blk.cut {w : World} {sz : Nat} {rs : List (List T)} {b o n cap o' cap' off len b' : Nat} {e : Bool} (p : Part rs e off len sz o cap o' cap')
  (h : Blk w (.sl .own sz (cut e off len rs)) (.slice (some ⟨b, o', none⟩) len cap') b') : Blk w (.sl .own sz rs) (.slice (some ⟨b, o, none⟩) n cap) b' := by
 cases h with
 | here h0 => exact .here (Nat.lt_of_lt_of_le h0 (Nat.le_trans (Nat.le_add_left _ _) p.h2))
 | deep h0 hr ht hv h => exact .deep (Nat.lt_of_lt_of_le h0 (Nat.le_trans (Nat.le_add_left _ _) p.h2)) hr (cut_at ht) (by rw [← p.idx ht]; exact hv) h
theorem Ow.cut {w : World} {RO FZ : Nat → Prop} {f : Fl} {sz : Nat} {rs : List (List T)} {b o n cap o' cap' off len : Nat} {e : Bool}
  (h : Ow w RO FZ (.sl f sz rs) (.slice (some ⟨b, o, none⟩) n cap)) (p : Part rs e off len sz o cap o' cap') : Ow w RO FZ (.sl f sz (cut e off len rs)) (.slice (some ⟨b, o', none⟩) len cap') := by
 cases h with
 | ro h => exact .ro (h.cut p)
 | fz h => exact .fz (h.cut p)
 | emp =>
  have h1 := p.h1
  have h2 := p.h2
  have e1 : cap' = 0 := by omega
  have e2 : len = 0 := by simpa using (show len ≤ 0 by simp at h1; omega)
  subst e1 e2
  have : Vm.cut e off 0 ([] : List (List T)) = [] := by cases e <;> simp [Vm.cut]
  rw [this]; exact .emp
 | own h0 hr hl hb hw hc hn hd =>
  have hlen := cut_length p.h1 p.h4
  by_cases hcap : cap' = 0
  ·have h3 := p.h3
   have e2 : len = 0 := by omega
   subst hcap e2
   rw [List.length_eq_zero_iff.1 hlen]; exact .emp
  have := Ow.own (RO := RO) (FZ := FZ) (rs := Vm.cut e off len rs) (o := o') (cap := cap') (by omega) hr (by rw [hlen]; exact p.h3) (p.bound hb) (fun r hr => hw r (cut_mem hr))
   (fun i j t v ht hv => hc _ _ t v (cut_at ht) (by rw [← p.idx ht]; exact hv)) (fun i j t v ht hv => hn _ _ t v (cut_at ht) (by rw [← p.idx ht]; exact hv))
   (fun i j t v i' j' t' v' ht hv ht' hv' hne => hd _ _ t v _ _ t' v' (cut_at ht) (by rw [← p.idx ht]; exact hv) (cut_at ht') (by rw [← p.idx ht']; exact hv') (by omega))
  rwa [hlen] at this
theorem setCell_length (rs : List (List T)) (i j : Nat) (t : T) : (setCell rs i j t).length = rs.length := by simp [setCell]
theorem setCell_width {rs : List (List T)} {i j sz : Nat} {t : T} (h : ∀ r ∈ rs, r.length = sz) : ∀ r ∈ setCell rs i j t, r.length = sz := by
 intro r hr
 rcases List.mem_or_eq_of_mem_set hr with hr | hr
 ·exact h r hr
 ·rename_i hr'
  subst hr
  by_cases hi : i < rs.length
  ·simp [List.getD, List.getElem?_eq_getElem hi]; exact h _ (List.getElem_mem hi)
  ·have : rs.set i ((rs.getD i []).set j t) = rs := List.set_eq_of_length_le (by omega)
   unfold setCell at hr'
   rw [this] at hr'
   exact h _ hr'
theorem setCell_at {rs : List (List T)} {i j i' j' : Nat} {t t' : T} (h : At (setCell rs i j t) i' j' t') : (i' = i ∧ j' = j ∧ t' = t) ∨ (At rs i' j' t' ∧ (i' ≠ i ∨ j' ≠ j)) := by
 obtain ⟨r, hr, hj⟩ := h
 unfold setCell at hr
 rw [List.getElem?_set] at hr
 split at hr
 ·rename_i hi
  subst hi
  split at hr
  ·rename_i hlt
   injection hr with hr
   subst hr
   simp only [List.getD, List.getElem?_eq_getElem hlt, Option.getD_some] at hj
   rw [List.getElem?_set] at hj
   split at hj
   ·rename_i hjj
    subst hjj
    split at hj
    ·injection hj with hj
     exact .inl ⟨rfl, rfl, hj.symm⟩
    ·cases hj
   ·rename_i hjj
    exact .inr ⟨⟨_, List.getElem?_eq_getElem hlt, hj⟩, .inr (fun e => hjj e.symm)⟩
  ·cases hr
 ·rename_i hi
  exact .inr ⟨⟨r, hr, hj⟩, .inl (fun e => hi e.symm)⟩
end Go.Vm
namespace Go.Vm
set_option linter.unusedVariables false
set_option linter.unusedSimpArgs false
@[simp] theorem upd_same {α : Type} (f : Nat → α) (i : Nat) (x : α) : upd f i x i = x := by simp [upd]
theorem upd_ne {α : Type} (f : Nat → α) {i n : Nat} (x : α) (h : n ≠ i) : upd f i x n = f n := by
 have : Nat.beq n i = false := by
  cases hb : Nat.beq n i
  ·rfl
  ·exact absurd (Nat.eq_of_beq_eq_true hb) h
 simp [upd, this]
@[simp] theorem putS_same (s : Objs) (i : Nat) (b : Bool) (o : Option O) : (putS s i b o i).o = o := by simp [putS]
theorem putS_ne (s : Objs) {i n : Nat} (b : Bool) (o : Option O) (h : n ≠ i) : putS s i b o n = s n := upd_ne _ _ h
theorem putS_ver (s : Objs) (i : Nat) (b : Bool) (o : Option O) (n : Nat) : (s n).ver ≤ (putS s i b o n).ver := by
 by_cases h : n = i
 ·subst h; simp only [putS, upd_same]; cases b <;> simp
 ·rw [putS_ne _ _ _ h]; exact Nat.le_refl _
theorem putS_bump (s : Objs) (i : Nat) (o : Option O) : (putS s i true o i).ver = (s i).ver + 1 := by simp [putS]
theorem beq_eq {a b : Nat} (h : Nat.beq a b = true) : a = b := Nat.eq_of_beq_eq_true h
theorem isSl_spec {sz : Nat} {t : T} (h : isSl sz t = true) : ∃ f rs, t = .sl f sz rs := by
 cases t with
 | sl f sz' rs => exact ⟨f, rs, by simp only [isSl] at h; rw [beq_eq h]⟩
 | im => cases h
 | no => cases h
theorem okSl_spec {sz : Nat} {f : Fl} {t : T} (h : T.okK f (.sl sz) t = true) : ∃ rs, t = .sl f sz rs := by
 cases t with
 | sl f' sz' rs =>
  simp only [T.okK, Bool.and_eq_true] at h
  refine ⟨rs, ?_⟩
  rw [beq_eq h.2]
  cases f <;> cases f' <;> first | rfl | cases h.1
 | im v => cases v <;> cases h
 | no => cases h
theorem Blk.isOwn' {w : World} {t : T} {v : Value} {b : Nat} (h : Blk w t v b) : ∃ sz rs, t = .sl .own sz rs := by cases h <;> exact ⟨_, _, rfl⟩
theorem Blk.isOwn {w : World} {f : Fl} {sz : Nat} {rs : List (List T)} {v : Value} {b : Nat} (h : Blk w (.sl f sz rs) v b) : f = .own := by
 obtain ⟨_, _, e⟩ := h.isOwn'
 injection e
inductive BorE (s : Objs) : V → T → Prop
 | im {v : Value} : BorE s (.im v) (.im v)
 | nl {sz : Nat} : BorE s (.nl sz) (.sl .ro sz [])
 | rows {id off len sz : Nat} {e : Bool} {f : Fl} {rs : List (List T)} (h : (s id).o = some (.rows f sz rs)) : BorE s (.sl id e off len sz) (.sl .ro sz (cut e off len rs))
 | link {id off len sz x i j szx : Nat} {e : Bool} {f f' : Fl} {rs rws : List (List T)} (h : (s id).o = some (.link x (s x).ver i j)) (hx : (s x).o = some (.rows f szx rs))
   (ht : cell rs i j = .sl f' sz rws) : BorE s (.sl id e off len sz) (.sl .ro sz (cut e off len rws))
theorem chk_run {α : Type} {b : Bool} {k : H α} {s : Objs} {fp : List (Bool × Nat)} {r : α × Objs × List (Bool × Nat)} (h : (H.chk b k).run s fp = some r) : b = true ∧ k.run s fp = some r := by
 cases b
 ·cases h
 ·exact ⟨rfl, h⟩
theorem bor_run {α : Type} {v : V} {k : T → H α} {s : Objs} {fp : List (Bool × Nat)} {r : α × Objs × List (Bool × Nat)} (h : (bor v k).run s fp = some r) :
  ∃ t fp', BorE s v t ∧ (k t).run s fp' = some r := by
 cases v with
 | im v => exact ⟨_, _, .im, h⟩
 | nl sz => exact ⟨_, _, .nl, h⟩
 | sl id e off len sz =>
  simp only [bor, H.run] at h
  cases ho : (s id).o with
  | none => rw [ho] at h; cases h
  | some o =>
   rw [ho] at h
   cases o with
   | box => cases h
   | mp => cases h
   | rows f sz' rs =>
    obtain ⟨hb, h2⟩ := chk_run h
    try simp only [cutS_eq, sCell_eq, slT_eq, okT_eq, rT_eq, sSetCell_eq] at hb h2
    have := beq_eq hb
    subst this
    exact ⟨_, _, .rows ho, h2⟩
   | link x ver i j =>
    simp only [H.run] at h
    cases hx : (s x).o with
    | none => rw [hx] at h; cases h
    | some o =>
     rw [hx] at h
     cases o with
     | box => cases h
     | mp => cases h
     | link => cases h
     | rows f szx rs =>
      obtain ⟨hb, h2⟩ := chk_run h
      try simp only [cutS_eq, sCell_eq, slT_eq, okT_eq, rT_eq, sSetCell_eq] at hb h2
      simp only [Bool.and_eq_true] at hb
      have hv := beq_eq hb.1
      subst hv
      obtain ⟨f', rws, ht⟩ := isSl_spec hb.2
      rw [ht] at h2
      exact ⟨_, _, .link ho hx ht, h2⟩
 | pt => cases h
 | ag => cases h
 | tu => cases h
 | fn => cases h
 | mp => cases h
 | no => cases h
theorem Im.len0 {w : World} {A : Nat → Prop} {f : Fl} {sz n cap : Nat} {p : Option Addr} {rs : List (List T)} (h : Im w A (.sl f sz rs) (.slice p n cap)) : n = rs.length := by
 cases h <;> rfl
theorem RepV.part {vr : Nat → Nat} {β : Nat → Value} {id off len sz : Nat} {e : Bool} {x : Value} (h : RepV vr β (.sl id e off len sz) x) :
  (β id = .slice none 0 0 ∧ off = 0 ∧ len = 0 ∧ x = .slice none 0 0) ∨ (∃ a a', β id = .slice (some a) 0 0 ∧ off = 0 ∧ len = 0 ∧ x = .slice (some a') 0 0) ∨
  ∃ b o n cap o' cap', β id = .slice (some ⟨b, o, none⟩) n cap ∧ x = .slice (some ⟨b, o', none⟩) len cap' ∧ ∀ rs : List (List T), rs.length = n → Part rs e off len sz o cap o' cap' := by
 cases h with
 | sl0 _ hv h => exact .inl ⟨h, rfl, rfl, rfl⟩
 | se hv h => exact .inr (.inl ⟨_, _, h, rfl, rfl, rfl⟩)
 | sl hv h h1 h2 h3 h4 h5 => exact .inr (.inr ⟨_, _, _, _, _, _, h, rfl, fun rs hl => ⟨hl ▸ h1, h2, h3, fun he => hl ▸ (h4 he).1, h5⟩⟩)
theorem Im.part {w : World} {A : Nat → Prop} {vr : Nat → Nat} {β : Nat → Value} {id off len sz : Nat} {e : Bool} {x : Value} {f : Fl} {rs : List (List T)} (h : RepV vr β (.sl id e off len sz) x)
  (hi : Im w A (.sl f sz rs) (β id)) : Im w A (.sl f sz (Vm.cut e off len rs)) x := by
 rcases h.part with ⟨hb, rfl, rfl, rfl⟩ | ⟨a, a', hb, rfl, rfl, rfl⟩ | ⟨b, o, n, cap, o', cap', hb, rfl, hp⟩
 ·rw [hb] at hi
  cases hi with
  | nil => cases e <;> exact .nil
 ·rw [hb] at hi
  have : rs = [] := List.length_eq_zero_iff.1 hi.len0.symm
  subst this
  cases e <;> exact .emp
 ·rw [hb] at hi
  have : n = rs.length := by cases hi <;> rfl
  exact hi.cut (hp rs this.symm)
theorem Ow.part {w : World} {RO FZ : Nat → Prop} {vr : Nat → Nat} {β : Nat → Value} {id off len sz : Nat} {e : Bool} {x : Value} {f : Fl} {rs : List (List T)} (h : RepV vr β (.sl id e off len sz) x)
  (hi : Ow w RO FZ (.sl f sz rs) (β id)) : Ow w RO FZ (.sl f sz (Vm.cut e off len rs)) x := by
 rcases h.part with ⟨hb, rfl, rfl, rfl⟩ | ⟨a, a', hb, rfl, rfl, rfl⟩ | ⟨b, o, n, cap, o', cap', hb, rfl, hp⟩
 ·rw [hb] at hi
  have : rs = [] := by
   cases hi with
   | nil => rfl
   | ro h => cases h; rfl
   | fz h => cases h; rfl
  subst this
  cases e <;> exact .nil
 ·rw [hb] at hi
  have : rs = [] := List.length_eq_zero_iff.1 hi.len.1.symm
  subst this
  cases e <;> exact .emp
 ·rw [hb] at hi
  exact hi.cut (hp rs hi.len.1.symm)
theorem Blk.part {w : World} {RO FZ : Nat → Prop} {vr : Nat → Nat} {β : Nat → Value} {id off len sz : Nat} {e : Bool} {x : Value} {f : Fl} {rs : List (List T)} (h : RepV vr β (.sl id e off len sz) x)
  (hi : Ow w RO FZ (.sl f sz rs) (β id)) {b' : Nat} (hb' : Blk w (.sl f sz (Vm.cut e off len rs)) x b') : Blk w (.sl f sz rs) (β id) b' := by
 rcases h.part with ⟨hb, rfl, rfl, rfl⟩ | ⟨a, a', hb, rfl, rfl, rfl⟩ | ⟨b, o, n, cap, o', cap', hb, rfl, hp⟩
 ·cases hb'
 ·cases hb' with
  | here h0 => omega
  | deep h0 => omega
 ·rw [hb] at hi ⊢
  cases f with
  | own => exact hb'.cut (hp rs hi.len.1.symm)
  | ro => cases hb'
  | fz => cases hb'
theorem OK.linked {X : Cx} {w : World} {FZ : Nat → Prop} {β : Nat → Value} {s : Objs} {pend : List (T × Value)} (h : OK X w FZ β s pend) {id x i j szx sz : Nat} {f f' : Fl} {rs rws : List (List T)}
  (hl : (s id).o = some (.link x (s x).ver i j)) (hx : (s x).o = some (.rows f szx rs)) (ht : cell rs i j = .sl f' sz rws) :
  At rs i j (.sl f' sz rws) ∧ ∃ b o n cap c, β x = .slice (some ⟨b, o, none⟩) n cap ∧ Rw w b c ∧ c[o + i * szx + j]? = some (β id) := by
 have hr := h.rep id _ hl
 obtain ⟨⟨t, hat⟩, b, o, n, cap, c, hb, hrow, hc⟩ := hr.2.2 rfl f szx rs hx
 have := hat.cell
 rw [ht] at this
 subst this
 exact ⟨hat, b, o, n, cap, c, hb, hrow, hc⟩
theorem Ow.readable {w : World} {RO FZ : Nat → Prop} {A : Nat → Prop} {t : T} {v : Value} (h : Ow w RO FZ t v) (hA : ∀ b, Blk w t v b ∨ RO b ∨ FZ b → A b) : Im w A t v :=
 h.im'.mono hA fun _ _ => rfl
theorem Ow.atCell {w : World} {RO FZ : Nat → Prop} {f : Fl} {sz i j b o n cap : Nat} {rs : List (List T)} {c : Array Value} {t : T} {v : Value}
  (h : Ow w RO FZ (.sl f sz rs) (.slice (some ⟨b, o, none⟩) n cap)) (hr : Rw w b c) (ht : At rs i j t) (hv : c[o + i * sz + j]? = some v) :
  (f = .own ∧ Ow w RO FZ t v) ∨ (f = .ro ∧ Im w RO t v) ∨ (f = .fz ∧ Im w FZ t v) := by
 have no : ∀ {t : T}, At ([] : List (List T)) i j t → False := fun ⟨r, h, _⟩ => by simp at h
 cases h with
 | emp => exact (no ht).elim
 | ro h => cases h with
  | emp => exact (no ht).elim
  | sl hr' ha hl hb hw hc => obtain rfl := hr.inj hr'; exact .inr (.inl ⟨rfl, hc _ _ _ _ ht hv⟩)
 | fz h => cases h with
  | emp => exact (no ht).elim
  | sl hr' ha hl hb hw hc => obtain rfl := hr.inj hr'; exact .inr (.inr ⟨rfl, hc _ _ _ _ ht hv⟩)
 | own _ hr' hl hb hw hc hn hd => obtain rfl := hr.inj hr'.rw; exact .inl ⟨rfl, hc _ _ _ _ ht hv⟩
theorem bor_sem {X : Cx} {w : World} {FZ : Nat → Prop} {β : Nat → Value} {s : Objs} {pend : List (T × Value)} (h : OK X w FZ β s pend) {v : V} {x : Value} (hv : RepV (vers s) β v x) {t : T} (he : BorE s v t) :
  Im w (Rd X w FZ β s pend) t x := by
 cases he with
 | im => cases hv with | im hf => exact .im hf
 | nl => cases hv; exact .nil
 | @rows id off len sz e f rs ho =>
  refine (Im.part (f := f) hv ?_).flag
  exact Ow.readable (h.rep _ _ ho) fun b hb => hb.imp (fun hb => ⟨.inl _, _, ho, hb⟩) fun h => h
 | @link id off len sz x i j szx e f f' rs rws hl hx ht =>
  refine (Im.part (f := f') hv ?_).flag
  obtain ⟨hat, b, o, n, cap, c, hb, hrow, hc⟩ := h.linked hl hx ht
  have hxr : Ow w X.RO FZ _ (β _) := h.rep _ _ hx
  rw [hb] at hxr
  rcases hxr.atCell hrow hat hc with ⟨rfl, ho⟩ | ⟨rfl, hi⟩ | ⟨rfl, hi⟩
  ·refine ho.readable fun b' hb' => hb'.imp (fun hb' => ⟨.inl _, _, hx, ?_⟩) fun h => h
   show Blk w _ (β _) b'
   rw [hb]
   exact .deep (Ow.pos hxr ⟨_, hat⟩) hrow hat hc hb'
  ·exact hi.mono (fun _ h => .inr (.inl h)) fun _ _ => rfl
  ·exact hi.mono (fun _ h => .inr (.inr h)) fun _ _ => rfl
inductive OwnE (s : Objs) : V → T → Objs → Prop
 | im {v : Value} : OwnE s (.im v) (.im v) s
 | nl {sz : Nat} : OwnE s (.nl sz) (.sl .own sz []) s
 | own {id off len sz : Nat} {e : Bool} {rs : List (List T)} (h : (s id).o = some (.rows .own sz rs)) : OwnE s (.sl id e off len sz) (.sl .own sz (cut e off len rs)) (putS s id true none)
 | imm {id off len sz : Nat} {e : Bool} {f : Fl} {rs : List (List T)} (h : (s id).o = some (.rows f sz rs)) (hf : f ≠ .own) : OwnE s (.sl id e off len sz) (.sl f sz (cut e off len rs)) s
 | link {id off len sz x i j szx : Nat} {e : Bool} {rs rws : List (List T)} (h : (s id).o = some (.link x (s x).ver i j)) (hx : (s x).o = some (.rows .own szx rs))
   (ht : cell rs i j = .sl .own sz rws) : OwnE s (.sl id e off len sz) (.sl .own sz (cut e off len rws)) (putS (putS s x true (some (.rows .own szx (setCell rs i j .no)))) id true none)
 | limm {id off len sz x i j szx : Nat} {e : Bool} {f f' : Fl} {rs rws : List (List T)} (h : (s id).o = some (.link x (s x).ver i j)) (hx : (s x).o = some (.rows f szx rs)) (hf : f ≠ .own)
   (ht : cell rs i j = .sl f' sz rws) : OwnE s (.sl id e off len sz) (.sl f sz (cut e off len rws)) s
theorem own_run {α : Type} {v : V} {k : T → H α} {s : Objs} {fp : List (Bool × Nat)} {r : α × Objs × List (Bool × Nat)} (h : (own v k).run s fp = some r) :
  ∃ t s' fp', OwnE s v t s' ∧ (k t).run s' fp' = some r := by
 cases v with
 | im v => exact ⟨_, _, _, .im, h⟩
 | nl sz => exact ⟨_, _, _, .nl, h⟩
 | sl id e off len sz =>
  simp only [own, H.run] at h
  cases ho : (s id).o with
  | none => rw [ho] at h; cases h
  | some o =>
   rw [ho] at h
   cases o with
   | box => cases h
   | mp => cases h
   | rows f sz' rs =>
    obtain ⟨hb, h2⟩ := chk_run h
    try simp only [cutS_eq, sCell_eq, slT_eq, okT_eq, rT_eq, sSetCell_eq] at hb h2
    have := beq_eq hb
    subst this
    cases f with
    | own => exact ⟨_, _, _, .own ho, h2⟩
    | ro => exact ⟨_, _, _, .imm ho (by simp), h2⟩
    | fz => exact ⟨_, _, _, .imm ho (by simp), h2⟩
   | link x ver i j =>
    simp only [H.run] at h
    cases hx : (s x).o with
    | none => rw [hx] at h; cases h
    | some o =>
     rw [hx] at h
     cases o with
     | box => cases h
     | mp => cases h
     | link => cases h
     | rows f szx rs =>
      cases f with
      | own =>
       obtain ⟨hb, h2⟩ := chk_run h
       try simp only [cutS_eq, sCell_eq, slT_eq, okT_eq, rT_eq, sSetCell_eq] at hb h2
       simp only [Bool.and_eq_true] at hb
       have hv := beq_eq hb.1
       subst hv
       obtain ⟨rws, ht⟩ := okSl_spec hb.2
       rw [ht] at h2
       exact ⟨_, _, _, .link ho hx ht, h2⟩
      | ro =>
       obtain ⟨hb, h2⟩ := chk_run h
       try simp only [cutS_eq, sCell_eq, slT_eq, okT_eq, rT_eq, sSetCell_eq] at hb h2
       simp only [Bool.and_eq_true] at hb
       have hv := beq_eq hb.1
       subst hv
       obtain ⟨f', rws, ht⟩ := isSl_spec hb.2
       rw [ht] at h2
       exact ⟨_, _, _, .limm ho hx (by simp) ht, h2⟩
      | fz =>
       obtain ⟨hb, h2⟩ := chk_run h
       try simp only [cutS_eq, sCell_eq, slT_eq, okT_eq, rT_eq, sSetCell_eq] at hb h2
       simp only [Bool.and_eq_true] at hb
       have hv := beq_eq hb.1
       subst hv
       obtain ⟨f', rws, ht⟩ := isSl_spec hb.2
       rw [ht] at h2
       exact ⟨_, _, _, .limm ho hx (by simp) ht, h2⟩
 | pt => cases h
 | ag => cases h
 | tu => cases h
 | fn => cases h
 | mp => cases h
 | no => cases h
theorem OK.hand {X : Cx} {w : World} {FZ : Nat → Prop} {β : Nat → Value} {s : Objs} {pend : List (T × Value)} (h : OK X w FZ β s pend) {t : T} {x : Value} (ho : Ow w X.RO FZ t x)
  (hn : ∀ b, ¬ Blk w t x b) : OK X w FZ β s (pend ++ [(t, x)]) := by
 have get : ∀ (k : Nat) p, (pend ++ [(t, x)])[k]? = some p → pend[k]? = some p ∨ p = (t, x) := by
  intro k p hk
  rw [List.getElem?_append] at hk
  split at hk
  ·exact .inl hk
  ·right
   cases hkk : k - pend.length with
   | zero => rw [hkk] at hk; exact (Option.some.inj hk).symm
   | succ m => rw [hkk] at hk; simp at hk
 refine h.move h.rep h.live ?_ id ?_ (fun u u' b hne e => absurd e hne)
 ·intro k p hk
  rcases get k p hk with hk | rfl
  ·exact h.pow k p hk
  ·exact ho
 ·rintro (id' | k) b ⟨o, hk, hb⟩
  ·exact ⟨o, hk, hb⟩
  ·rcases get k o hk with hk | rfl
   ·exact ⟨o, hk, hb⟩
   ·exact absurd hb (hn b)
theorem getElem?_snoc {α : Type} {l : List α} {x p : α} {k : Nat} (h : (l ++ [x])[k]? = some p) : (k < l.length ∧ l[k]? = some p) ∨ (k = l.length ∧ p = x) := by
 rw [List.getElem?_append] at h
 split at h
 ·rename_i hlt; exact .inl ⟨hlt, h⟩
 ·rename_i hge
  right
  cases hkk : k - l.length with
  | zero => rw [hkk] at h; exact ⟨by omega, (Option.some.inj h).symm⟩
  | succ m => rw [hkk] at h; simp at h
theorem own_sem {X : Cx} {w : World} {FZ : Nat → Prop} {β : Nat → Value} {s s' : Objs} {pend : List (T × Value)} (h : OK X w FZ β s pend) {v : V} {x : Value} (hv : RepV (vers s) β v x) {t : T} (he : OwnE s v t s') :
  OK X w FZ β s' (pend ++ [(t, x)]) := by
 cases he with
 | im =>
  cases hv with
  | im hf => exact h.hand (.im hf) fun b hb => by cases hb
 | nl => cases hv; exact h.hand .nil fun b hb => by cases hb
 | imm ho hf =>
  refine h.hand (Ow.part hv (h.rep _ _ ho)) fun b hb => ?_
  exact hf (Blk.part hv (h.rep _ _ ho) hb).isOwn
 | limm hl hx hf ht =>
  obtain ⟨hat, b, o, n, cap, c, hb, hrow, hc⟩ := h.linked hl hx ht
  have hxr : Ow w X.RO FZ _ (β _) := h.rep _ _ hx
  rw [hb] at hxr
  rcases hxr.atCell hrow hat hc with ⟨rfl, _⟩ | ⟨rfl, hi⟩ | ⟨rfl, hi⟩
  ·exact absurd rfl hf
  ·exact h.hand (.ro (Im.part hv hi.flag)) fun b hb => by cases hb
  ·exact h.hand (.fz (Im.part hv hi.flag)) fun b hb => by cases hb
 | @own id off len sz e rs ho =>
  have hup : ∀ n o, ((putS s id true none) n).o = some o → n ≠ id ∧ (s n).o = some o := by
   intro n o hn
   by_cases hne : n = id
   ·subst hne; simp at hn
   ·exact ⟨hne, by rwa [putS_ne _ _ _ hne] at hn⟩
  refine h.move ?_ (fun n o hn => Nat.le_trans (h.live n o (hup n o hn).2) (putS_ver _ _ _ _ _)) ?_ (fun u => if u = .inr pend.length then .inl id else u) ?_ ?_
  ·intro n o hn
   obtain ⟨hne, hn⟩ := hup n o hn
   have hr := h.rep n o hn
   cases o with
   | box => exact hr.up (by simp) (putS_ver _ _ _ _) (fun _ _ => rfl) rfl
   | rows => exact hr.up (by simp) (putS_ver _ _ _ _) (fun _ _ => rfl) rfl
   | mp => exact hr.up (by simp) (putS_ver _ _ _ _) (fun _ _ => rfl) rfl
   | link y ver i j =>
    refine hr.link_of (putS_ver _ _ _ _ _) rfl fun _ => ?_
    by_cases hy : y = id
    ·subst hy; exact .inl (by simp)
    ·exact .inr ⟨by rw [putS_ne _ _ _ hy], rfl⟩
  ·intro k p hk
   rcases getElem?_snoc hk with ⟨_, hk⟩ | ⟨_, rfl⟩
   ·exact h.pow k p hk
   ·exact Ow.part hv (h.rep _ _ ho)
  ·rintro (n | k) b ⟨o, hn, hb⟩
   ·obtain ⟨hne, hn⟩ := hup n o hn
    exact ⟨o, hn, hb⟩
   ·rcases getElem?_snoc hn with ⟨hlt, hk⟩ | ⟨rfl, rfl⟩
    ·rw [if_neg (by simp; omega)]
     exact ⟨o, hk, hb⟩
    ·rw [if_pos rfl]
     exact ⟨_, ho, Blk.part hv (h.rep _ _ ho) hb⟩
  ·intro u u' b hne e h1 h2
   by_cases hu : u = .inr pend.length <;> by_cases hu' : u' = .inr pend.length
   ·exact hne (hu.trans hu'.symm)
   ·rw [if_pos hu, if_neg hu'] at e
    subst e
    obtain ⟨o, ho2, _⟩ := h2
    exact (hup _ _ ho2).1 rfl
   ·rw [if_neg hu, if_pos hu'] at e
    subst e
    obtain ⟨o, ho1, _⟩ := h1
    exact (hup _ _ ho1).1 rfl
   ·rw [if_neg hu, if_neg hu'] at e
    exact hne e
 | @link id off len sz x' i j szx e rs rws hl hx ht =>
  obtain ⟨hat, b0, o0, n0, cap0, c0, hb0, hrow, hc⟩ := h.linked hl hx ht
  have hxr : Ow w X.RO FZ (.sl .own szx rs) (β x') := h.rep _ _ hx
  have hidx : id ≠ x' := fun e => by subst e; rw [hl] at hx; cases hx
  have hown : Ow w X.RO FZ (.sl .own sz rws) (β id) := by
   rw [hb0] at hxr
   rcases hxr.atCell hrow hat hc with ⟨_, ho⟩ | ⟨hf, _⟩ | ⟨hf, _⟩
   ·exact ho
   ·cases hf
   ·cases hf
  -- the tree without that cell
  have hrem : Ow w X.RO FZ (.sl .own szx (setCell rs i j .no)) (β x') ∧ ∀ b', Blk w (.sl .own szx (setCell rs i j .no)) (β x') b' → Blk w (.sl .own szx rs) (β x') b' ∧ ¬ Blk w (.sl .own sz rws) (β id) b' := by
   rw [hb0] at hxr ⊢
   cases hxr with
   | emp => obtain ⟨r, h, _⟩ := hat; simp at h
   | own h0 hr hlen hbd hw hcc hn hd =>
    obtain rfl := hr.rw.inj hrow
    constructor
    ·have := Ow.own (RO := X.RO) (FZ := FZ) (rs := setCell rs i j .no) h0 hr (by rw [setCell_length]; exact hlen) hbd (setCell_width hw)
      (fun i' j' t' v' ht' hv' => by
       rcases setCell_at ht' with ⟨rfl, rfl, rfl⟩ | ⟨ht', _⟩
       ·rw [hc] at hv'
        obtain rfl := Option.some.inj hv'
        exact .no hown.flatV
       ·exact hcc _ _ _ _ ht' hv')
      (fun i' j' t' v' ht' hv' => by
       rcases setCell_at ht' with ⟨rfl, rfl, rfl⟩ | ⟨ht', _⟩
       ·exact fun hx => by cases hx
       ·exact hn _ _ _ _ ht' hv')
      (fun i' j' t' v' i2 j2 t2 v2 ht' hv' ht2 hv2 hne b' h1 h2 => by
       rcases setCell_at ht' with ⟨rfl, rfl, rfl⟩ | ⟨ht', _⟩
       ·cases h1
       ·rcases setCell_at ht2 with ⟨rfl, rfl, rfl⟩ | ⟨ht2, _⟩
        ·cases h2
        ·exact hd _ _ _ _ _ _ _ _ ht' hv' ht2 hv2 hne b' h1 h2)
     rwa [setCell_length] at this
    ·intro b' hb'
     cases hb' with
     | here _ => exact ⟨.here h0, hn _ _ _ _ hat hc⟩
     | deep _ hr' ht' hv' hh =>
      obtain rfl := hr.rw.inj hr'
      rcases setCell_at ht' with ⟨rfl, rfl, rfl⟩ | ⟨ht', hne⟩
      ·cases hh
      ·exact ⟨.deep h0 hr.rw ht' hv' hh, fun h2 => hd _ _ _ _ _ _ _ _ ht' hv' hat hc hne b' hh h2⟩
  have hgo : ∀ n o, ((putS (putS s x' true (some (.rows .own szx (setCell rs i j .no)))) id true none) n).o = some o →
    n ≠ id ∧ ((n = x' ∧ o = .rows .own szx (setCell rs i j .no)) ∨ (n ≠ x' ∧ (s n).o = some o)) := by
   intro n o hn
   by_cases hne : n = id
   ·subst hne; simp at hn
   ·rw [putS_ne _ _ _ hne] at hn
    refine ⟨hne, ?_⟩
    by_cases hnx : n = x'
    ·subst hnx; simp at hn; exact .inl ⟨rfl, hn.symm⟩
    ·rw [putS_ne _ _ _ hnx] at hn; exact .inr ⟨hnx, hn⟩
  refine h.move ?_ (fun n o hn => ?_) ?_ (fun u => if u = .inr pend.length then .inl x' else u) ?_ ?_
  ·intro n o hn
   obtain ⟨hne, ⟨rfl, rfl⟩ | ⟨hnx, hn⟩⟩ := hgo n o hn
   ·exact hrem.1
   ·have hr := h.rep n o hn
    cases o with
    | box => exact hr.up (by simp) (fun i => Nat.le_trans (putS_ver _ _ _ _ _) (putS_ver _ _ _ _ _)) (fun _ _ => rfl) rfl
    | rows => exact hr.up (by simp) (fun i => Nat.le_trans (putS_ver _ _ _ _ _) (putS_ver _ _ _ _ _)) (fun _ _ => rfl) rfl
    | mp => exact hr.up (by simp) (fun i => Nat.le_trans (putS_ver _ _ _ _ _) (putS_ver _ _ _ _ _)) (fun _ _ => rfl) rfl
    | link y ver i2 j2 =>
     refine hr.link_of (Nat.le_trans (putS_ver _ _ _ _ _) (putS_ver _ _ _ _ _)) rfl fun hver => ?_
     by_cases hy : y = id
     ·subst hy; exact .inl (by simp)
     ·by_cases hyx : y = x'
      ·subst hyx
       exfalso
       rw [putS_ne _ _ _ hy, putS_bump] at hver
       have := hr.1
       omega
      ·exact .inr ⟨by rw [putS_ne _ _ _ hy, putS_ne _ _ _ hyx], rfl⟩
  ·have : ∃ o', (s n).o = some o' := by
    obtain ⟨hne, ⟨rfl, rfl⟩ | ⟨hnx, hn⟩⟩ := hgo n o hn
    ·exact ⟨_, hx⟩
    ·exact ⟨_, hn⟩
   obtain ⟨o', ho'⟩ := this
   exact Nat.le_trans (h.live n o' ho') (Nat.le_trans (putS_ver _ _ _ _ _) (putS_ver _ _ _ _ _))
  ·intro k p hk
   rcases getElem?_snoc hk with ⟨_, hk⟩ | ⟨_, rfl⟩
   ·exact h.pow k p hk
   ·exact Ow.part hv hown
  ·rintro (n | k) b ⟨o, hn, hb⟩
   ·obtain ⟨hne, ⟨rfl, rfl⟩ | ⟨hnx, hn⟩⟩ := hgo n o hn
    ·exact ⟨_, hx, (hrem.2 b hb).1⟩
    ·exact ⟨o, hn, hb⟩
   ·rcases getElem?_snoc hn with ⟨hlt, hk⟩ | ⟨rfl, rfl⟩
    ·rw [if_neg (by simp; omega)]
     exact ⟨o, hk, hb⟩
    ·rw [if_pos rfl]
     refine ⟨_, hx, ?_⟩
     show Blk w _ (β x') b
     rw [hb0]
     exact .deep (Ow.pos (hb0 ▸ hxr) ⟨_, hat⟩) hrow hat hc (Blk.part hv hown hb)
  ·have key : ∀ b, Bl w β (putS (putS s x' true (some (.rows .own szx (setCell rs i j .no)))) id true none) (pend ++ [(.sl .own sz (cut e off len rws), x)]) (.inr pend.length) b →
     ¬ Bl w β (putS (putS s x' true (some (.rows .own szx (setCell rs i j .no)))) id true none) (pend ++ [(.sl .own sz (cut e off len rws), x)]) (.inl x') b := by
    rintro b ⟨p, hp, hbp⟩ ⟨o, ho, hbo⟩
    rcases getElem?_snoc hp with ⟨hlt, _⟩ | ⟨_, rfl⟩
    ·omega
    ·obtain ⟨_, ⟨_, rfl⟩ | ⟨hnx, _⟩⟩ := hgo _ _ ho
     ·exact (hrem.2 b hbo).2 (Blk.part hv hown hbp)
     ·exact hnx rfl
   intro u u' b hne e h1 h2
   by_cases hu : u = .inr pend.length <;> by_cases hu' : u' = .inr pend.length
   ·exact hne (hu.trans hu'.symm)
   ·rw [if_pos hu, if_neg hu'] at e
    subst e hu
    exact key b h1 h2
   ·rw [if_neg hu, if_pos hu'] at e
    subst e hu'
    exact key b h2 h1
   ·rw [if_neg hu, if_neg hu'] at e
    exact hne e
end Go.Vm
namespace Go.Vm
set_option linter.unusedVariables false
set_option linter.unusedSimpArgs false
variable {X : Cx} {w w' : World} {FZ : Nat → Prop} {β : Nat → Value} {s : Objs} {pend : List (T × Value)} {f : Fl} {sz : Nat} {rs : List (List T)} {x : Value} {q : Nat}
theorem OK.take (h : OK X w FZ β s pend) (m : Nat) : OK X w FZ β s (pend.take m) := by
 have get : ∀ (k : Nat) p, (pend.take m)[k]? = some p → pend[k]? = some p := by
  intro k p hk
  rw [List.getElem?_take] at hk
  split at hk
  ·exact hk
  ·cases hk
 refine h.move h.rep h.live (fun k p hk => h.pow k p (get k p hk)) id ?_ (fun u u' b hne e => absurd e hne)
 rintro (n | k) b ⟨o, ho, hb⟩
 ·exact ⟨o, ho, hb⟩
 ·exact ⟨o, get k o ho, hb⟩
theorem OK.blk_lt (h : OK X w FZ β s pend) {u : Nat ⊕ Nat} {b : Nat} (hb : Bl w β s pend u b) : b < w.heap.size := by
 rcases u with id | k
 ·obtain ⟨o, ho, hb⟩ := hb
  have hr := h.rep id o ho
  cases o with
  | box ro cells =>
   obtain ⟨b', c, hb', hrow, _⟩ := hr
   obtain ⟨_, hb⟩ := hb
   rw [hb'] at hb
   injection hb with hb
   injection hb with hb
   injection hb with hb
   subst hb
   exact hrow.lt
  | rows f sz rs => exact (Blk.row hb hr).elim fun _ h => h.lt
  | link => exact False.elim hb
  | mp kf vf rs =>
   obtain ⟨b', hb', hm⟩ := hr
   obtain rfl : b' = b := by
    have hb : β id = .map (some b) := hb
    rw [hb'] at hb
    injection hb with hb
    exact Option.some.inj hb
   exact hm.lt
 ·obtain ⟨p, hp, hb⟩ := hb
  exact (Blk.row hb (h.pow k p hp)).elim fun _ h => h.lt
theorem OK.rd_lt (h : OK X w FZ β s pend) {b : Nat} (hb : Rd X w FZ β s pend b) : b < w.heap.size := by
 rcases hb with ⟨u, hb⟩ | hb | hb
 ·exact h.blk_lt hb
 ·exact Nat.lt_of_lt_of_le (h.ro b hb).1 h.n0
 ·exact h.fz b hb
def World.push (w : World) (o : Obj) : World := { w with heap := w.heap.push o }
theorem push_old (w : World) (o : Obj) {b : Nat} (h : b < w.heap.size) : (World.push w o).heap[b]? = w.heap[b]? := by
 simp only [World.push, Array.getElem?_push]
 rw [if_neg (by omega)]
theorem push_row (w : World) (c : Array Value) (t : TypeId) : Row (World.push w (.cells c t (0, 0))) w.heap.size c :=
 ⟨t, 0, 0, by show (w.heap.push _)[w.heap.size]? = _; rw [Array.getElem?_push, if_pos rfl], .inl (Nat.le_refl _)⟩
theorem OK.push (h : OK X w FZ β s pend) (o : Obj) : OK X (World.push w o) FZ β s pend ∧ ∀ u b, Bl (World.push w o) β s pend u b → Bl w β s pend u b :=
 h.world (fun b hb => push_old w o (h.rd_lt hb)) (by simp [World.push])
theorem OK.fresh (h : OK X w FZ β s pend) : ∀ u, ¬ Bl w β s pend u w.heap.size := fun u hb => Nat.lt_irrefl _ (h.blk_lt hb)
theorem OK.rep_new (h : OK X w FZ β s pend) (hq : (s q).ver = 0) (o : Option O) (y : Value) : ∀ id o', id ≠ q → (s id).o = some o' → RepO w X.RO FZ (upd β q y) (putS s q true o) id o' := by
 intro id o' hne ho
 have hr := h.rep id o' ho
 have hb : ∀ i, 1 ≤ (s i).ver → upd β q y i = β i := fun i hi => upd_ne _ _ (fun e => by subst e; omega)
 cases o' with
 | box => exact hr.up (by simp) (putS_ver _ _ _ _) hb (hb _ (h.live _ _ ho))
 | rows => exact hr.up (by simp) (putS_ver _ _ _ _) hb (hb _ (h.live _ _ ho))
 | mp => exact hr.up (by simp) (putS_ver _ _ _ _) hb (hb _ (h.live _ _ ho))
 | link x ver i j =>
  have hx : x ≠ q := fun e => by subst e; have := hr.1; have := hr.2.1; omega
  exact hr.link_of (putS_ver _ _ _ _ _) (hb _ (h.live _ _ ho)) fun _ => .inr ⟨by rw [putS_ne _ _ _ hx], upd_ne _ _ hx⟩
theorem Bl.ob_upd (hq : (s q).ver = 0) (hl : ∀ id o, (s id).o = some o → 1 ≤ (s id).ver) {id : Nat} {o : O} (y : Value) (ho : (s id).o = some o) {b : Nat} (hb : OB w (upd β q y) id o b) : OB w β id o b := by
 have : upd β q y id = β id := upd_ne _ _ (fun e => by subst e; have := hl _ _ ho; omega)
 cases o with
 | box => exact ⟨hb.1, this ▸ hb.2⟩
 | rows => show Blk w _ (β id) b; rw [← this]; exact hb
 | link => exact hb
 | mp => exact this.symm.trans hb
theorem push_rowF {fr : Nat × Nat} (w : World) (c : Array Value) (t : TypeId) (h : fr.2 ≤ fr.1 ∨ c.size ≤ fr.1) : Row (World.push w (.cells c t fr)) w.heap.size c :=
 ⟨t, fr.1, fr.2, by show (w.heap.push _)[w.heap.size]? = _; rw [Array.getElem?_push, if_pos rfl], h⟩
theorem OK.newRowsF {fr : Nat × Nat} (h : OK X w FZ β s pend) (m : Nat) {c : Array Value} (t : TypeId) {cap : Nat} (hw : ∀ r ∈ rs, r.length = sz) (hl : rs.length ≤ cap) (hb : cap * sz ≤ c.size)
  (hc : ∀ i j t v, At rs i j t → c[i * sz + j]? = some v → Ow w X.RO FZ t v ∧ ∀ b, Blk w t v b → ∃ k, m ≤ k ∧ Bl w β s pend (.inr k) b)
  (hd : ∀ i j t v i' j' t' v', At rs i j t → c[i * sz + j]? = some v → At rs i' j' t' → c[i' * sz + j']? = some v' → (i ≠ i' ∨ j ≠ j') → ∀ b, Blk w t v b → ¬ Blk w t' v' b) (hm : m ≤ pend.length) (hfr : fr.2 ≤ fr.1 ∨ c.size ≤ fr.1) :
  OK X (World.push w (.cells c t fr)) FZ β s (pend.take m ++ [(.sl .own sz rs, .slice (some ⟨w.heap.size, 0, none⟩) rs.length cap)]) := by
 obtain ⟨hp, back⟩ := h.push (.cells c t fr)
 have hrow := push_rowF w c t hfr
 have eqb : ∀ b, Rd X w FZ β s pend b → (World.push w (.cells c t fr)).heap[b]? = w.heap[b]? := fun b hb => push_old w _ (h.rd_lt hb)
 have hcell : ∀ i j t' v, At rs i j t' → c[i * sz + j]? = some v → Ow (World.push w (.cells c t fr)) X.RO FZ t' v ∧ ∀ b, Blk (World.push w (.cells c t fr)) t' v b → Blk w t' v b := by
  intro i j t' v ht hv
  have hk := hc i j t' v ht hv
  have he : ∀ b, Blk w t' v b → (World.push w (.cells c t fr)).heap[b]? = w.heap[b]? := fun b hb => by
   obtain ⟨k, _, hk⟩ := hk.2 b hb
   exact eqb b (.inl ⟨_, hk⟩)
  exact ⟨hk.1.of_eq (fun _ h => h) (fun _ h => h) (fun b hb => eqb b (.inr (.inl hb))) (fun b hb => eqb b (.inr (.inr hb))) he, fun b hb => hb.back he⟩
 have htree : Ow (World.push w (.cells c t fr)) X.RO FZ (.sl .own sz rs) (.slice (some ⟨w.heap.size, 0, none⟩) rs.length cap) := by
  by_cases hcap : cap = 0
  ·subst hcap
   obtain rfl : rs = [] := List.length_eq_zero_iff.1 (by omega)
   exact .emp
  refine .own (by omega) hrow hl (by omega) hw ?_ ?_ ?_
  ·intro i j t' v ht hv
   rw [Nat.zero_add] at hv
   exact (hcell i j t' v ht hv).1
  ·intro i j t' v ht hv hbk
   rw [Nat.zero_add] at hv
   obtain ⟨k, _, hk⟩ := (hc i j t' v ht hv).2 _ ((hcell i j t' v ht hv).2 _ hbk)
   exact h.fresh _ hk
  ·intro i j t1 v i' j' t' v' ht hv ht' hv' hne b h1 h2
   rw [Nat.zero_add] at hv hv'
   exact hd i j t1 v i' j' t' v' ht hv ht' hv' hne b ((hcell _ _ _ _ ht hv).2 b h1) ((hcell _ _ _ _ ht' hv').2 b h2)
 have hlen : (pend.take m).length = m := by simp; omega
 have hBl : ∀ u b, Bl (World.push w (.cells c t fr)) β s (pend.take m ++ [(.sl .own sz rs, .slice (some ⟨w.heap.size, 0, none⟩) rs.length cap)]) u b →
   (u = .inr m ∧ (b = w.heap.size ∨ ∃ k, m ≤ k ∧ Bl w β s pend (.inr k) b)) ∨ (u ≠ .inr m ∧ (∀ k, m ≤ k → u ≠ .inr k) ∧ Bl w β s pend u b) := by
  rintro (id | k) b ⟨o, ho, hbb⟩
  ·exact .inr ⟨by simp, fun _ _ => by simp, back (.inl id) b ⟨o, ho, hbb⟩⟩
  ·rcases getElem?_snoc ho with ⟨hlt, ho⟩ | ⟨rfl, rfl⟩
   ·rw [hlen] at hlt
    refine .inr ⟨fun e => by injection e; omega, fun k' hk' e => by injection e; omega, back (.inr k) b ⟨o, ?_, hbb⟩⟩
    rw [List.getElem?_take, if_pos hlt] at ho
    exact ho
   ·refine .inl ⟨by rw [hlen], ?_⟩
    cases hbb with
    | here _ => exact .inl rfl
    | deep _ hr ht hv hh =>
     obtain rfl := hr.inj hrow.rw
     rw [Nat.zero_add] at hv
     exact .inr ((hc _ _ _ _ ht hv).2 _ ((hcell _ _ _ _ ht hv).2 _ hh))
 refine ⟨hp.rep, ?_, ?_, ?_, h.ro, hp.fz, hp.n0, h.live, hp.gl⟩
 ·intro k p hk
  rcases getElem?_snoc hk with ⟨hlt, hk⟩ | ⟨_, rfl⟩
  ·rw [List.getElem?_take] at hk
   split at hk
   ·exact hp.pow k p hk
   ·cases hk
  ·exact htree
 ·intro u u' b hne h1 h2
  rcases hBl u b h1 with ⟨hu0, p1⟩ | ⟨hu, hk, p1⟩
  ·rcases hBl u' b h2 with ⟨hu1, _⟩ | ⟨_, hk', p2⟩
   ·exact hne (hu0.trans hu1.symm)
   ·rcases p1 with e | ⟨k, hmk, p3⟩
    ·exact h.fresh _ (e ▸ p2)
    ·exact h.apart _ _ b (hk' k hmk) p2 p3
  ·rcases hBl u' b h2 with ⟨hu1, p2⟩ | ⟨_, _, p2⟩
   ·rcases p2 with e | ⟨k, hmk, p3⟩
    ·exact h.fresh _ (e ▸ p1)
    ·exact h.apart _ _ b (hk k hmk) p1 p3
   ·exact h.apart u u' b hne p1 p2
 ·intro u b h1
  rcases hBl u b h1 with ⟨rfl, rfl | ⟨k, _, h1⟩⟩ | ⟨_, _, h1⟩
  ·refine ⟨fun hb => ?_, fun hb => ?_, .inr h.n0⟩
   ·have := (h.ro _ hb).1; have := h.n0; omega
   ·exact Nat.lt_irrefl _ (h.fz _ hb)
  ·exact h.sep _ b h1
  ·exact h.sep u b h1
theorem OK.newRows (h : OK X w FZ β s pend) (m : Nat) {c : Array Value} (t : TypeId) {cap : Nat} (hw : ∀ r ∈ rs, r.length = sz) (hl : rs.length ≤ cap) (hb : cap * sz ≤ c.size)
  (hc : ∀ i j t v, At rs i j t → c[i * sz + j]? = some v → Ow w X.RO FZ t v ∧ ∀ b, Blk w t v b → ∃ k, m ≤ k ∧ Bl w β s pend (.inr k) b)
  (hd : ∀ i j t v i' j' t' v', At rs i j t → c[i * sz + j]? = some v → At rs i' j' t' → c[i' * sz + j']? = some v' → (i ≠ i' ∨ j ≠ j') → ∀ b, Blk w t v b → ¬ Blk w t' v' b) (hm : m ≤ pend.length) :
  OK X (World.push w (.cells c t (0, 0))) FZ β s (pend.take m ++ [(.sl .own sz rs, .slice (some ⟨w.heap.size, 0, none⟩) rs.length cap)]) :=
 h.newRowsF m t hw hl hb hc hd hm (.inl (Nat.le_refl _))
theorem OK.place (h : OK X w FZ β s (pend ++ [(.sl f sz rs, x)])) (hq : (s q).ver = 0) : OK X w FZ (upd β q x) (putS s q true (some (.rows f sz rs))) pend := by
 have hb : ∀ i, 1 ≤ (s i).ver → upd β q x i = β i := fun i hi => upd_ne _ _ (fun e => by subst e; omega)
 have hget : ∀ id o, (putS s q true (some (.rows f sz rs)) id).o = some o → (id = q ∧ o = .rows f sz rs) ∨ (id ≠ q ∧ (s id).o = some o) := by
  intro id o ho
  by_cases e : id = q
  ·subst e; simp at ho; exact .inl ⟨rfl, ho.symm⟩
  ·rw [putS_ne _ _ _ e] at ho; exact .inr ⟨e, ho⟩
 have hlast : (pend ++ [(T.sl f sz rs, x)])[pend.length]? = some (T.sl f sz rs, x) := by simp
 have hup : ∀ (k : Nat) p, pend[k]? = some p → (pend ++ [(T.sl f sz rs, x)])[k]? = some p := by
  intro k p hk
  rw [List.getElem?_append_left (List.getElem?_eq_some_iff.1 hk).1]
  exact hk
 refine h.move ?_ ?_ (fun k p hk => h.pow k p (hup k p hk)) (fun u => if u = .inl q then .inr pend.length else u) ?_ ?_
 ·intro id o ho
  rcases hget id o ho with ⟨rfl, rfl⟩ | ⟨hne, ho⟩
  ·show Ow w X.RO FZ _ (upd β id x id)
   rw [upd_same]
   exact h.pow _ _ hlast
  ·exact h.rep_new hq _ _ id o hne ho
 ·intro id o ho
  rcases hget id o ho with ⟨rfl, rfl⟩ | ⟨hne, ho⟩
  ·rw [putS_bump]; omega
  ·exact Nat.le_trans (h.live id o ho) (putS_ver _ _ _ _ _)
 ·rintro (id | k) b ⟨o, ho, hbb⟩
  ·rcases hget id o ho with ⟨rfl, rfl⟩ | ⟨hne, ho⟩
   ·rw [if_pos rfl]
    refine ⟨_, hlast, ?_⟩
    have : Blk w (.sl f sz rs) (upd β id x id) b := hbb
    rwa [upd_same] at this
   ·rw [if_neg (fun e => hne (Sum.inl.inj e))]
    exact ⟨o, ho, Bl.ob_upd hq h.live _ ho hbb⟩
  ·rw [if_neg (by simp)]
   exact ⟨o, hup k o ho, hbb⟩
 ·intro u u' b hne e h1 h2
  by_cases hu : u = .inl q <;> by_cases hu' : u' = .inl q
  ·exact hne (hu.trans hu'.symm)
  ·rw [if_pos hu, if_neg hu'] at e
   subst e
   obtain ⟨p, hp, _⟩ := h2
   have := (List.getElem?_eq_some_iff.1 hp).1
   omega
  ·rw [if_neg hu, if_pos hu'] at e
   subst e
   obtain ⟨p, hp, _⟩ := h1
   have := (List.getElem?_eq_some_iff.1 hp).1
   omega
  ·rw [if_neg hu, if_neg hu'] at e
   exact hne e
theorem OK.placeBack (h : OK X w FZ β s (pend ++ [(.sl f sz rs, β q)])) (hq : (s q).o = none) (hq1 : 1 ≤ (s q).ver) (hno : ∀ id x ver i j, (s id).o = some (.link x ver i j) → x = q → ver < (s q).ver) (bump : Bool) :
  OK X w FZ β (putS s q bump (some (.rows f sz rs))) pend := by
 have hget : ∀ id o, (putS s q bump (some (.rows f sz rs)) id).o = some o → (id = q ∧ o = .rows f sz rs) ∨ (id ≠ q ∧ (s id).o = some o) := by
  intro id o ho
  by_cases e : id = q
  ·subst e; simp at ho; exact .inl ⟨rfl, ho.symm⟩
  ·rw [putS_ne _ _ _ e] at ho; exact .inr ⟨e, ho⟩
 have hlast : (pend ++ [(T.sl f sz rs, β q)])[pend.length]? = some (T.sl f sz rs, β q) := by simp
 have hup : ∀ (k : Nat) p, pend[k]? = some p → (pend ++ [(T.sl f sz rs, β q)])[k]? = some p := by
  intro k p hk
  rw [List.getElem?_append_left (List.getElem?_eq_some_iff.1 hk).1]
  exact hk
 refine h.move ?_ ?_ (fun k p hk => h.pow k p (hup k p hk)) (fun u => if u = .inl q then .inr pend.length else u) ?_ ?_
 ·intro id o ho
  rcases hget id o ho with ⟨rfl, rfl⟩ | ⟨hne, ho⟩
  ·exact h.pow _ _ hlast
  ·have hr := h.rep id o ho
   cases o with
   | box => exact hr.up (by simp) (putS_ver _ _ _ _) (fun _ _ => rfl) rfl
   | rows => exact hr.up (by simp) (putS_ver _ _ _ _) (fun _ _ => rfl) rfl
   | mp => exact hr.up (by simp) (putS_ver _ _ _ _) (fun _ _ => rfl) rfl
   | link y ver i j =>
    refine hr.link_of (putS_ver _ _ _ _ _) rfl fun hv => ?_
    by_cases e : y = q
    ·exfalso
     have := hno id y ver i j ho e
     subst e
     have := putS_ver s y bump (some (O.rows f sz rs)) y
     omega
    ·exact .inr ⟨by rw [putS_ne _ _ _ e], rfl⟩
 ·intro id o ho
  rcases hget id o ho with ⟨rfl, rfl⟩ | ⟨hne, ho⟩
  ·exact Nat.le_trans hq1 (putS_ver _ _ _ _ _)
  ·exact Nat.le_trans (h.live id o ho) (putS_ver _ _ _ _ _)
 ·rintro (id | k) b ⟨o, ho, hbb⟩
  ·rcases hget id o ho with ⟨rfl, rfl⟩ | ⟨hne, ho⟩
   ·rw [if_pos rfl]
    exact ⟨_, hlast, hbb⟩
   ·rw [if_neg (fun e => hne (Sum.inl.inj e))]
    exact ⟨o, ho, hbb⟩
  ·rw [if_neg (by simp)]
   exact ⟨o, hup k o ho, hbb⟩
 ·intro u u' b hne e h1 h2
  by_cases hu : u = .inl q <;> by_cases hu' : u' = .inl q
  ·exact hne (hu.trans hu'.symm)
  ·rw [if_pos hu, if_neg hu'] at e
   subst e
   obtain ⟨p, hp, _⟩ := h2
   have := (List.getElem?_eq_some_iff.1 hp).1
   omega
  ·rw [if_neg hu, if_pos hu'] at e
   subst e
   obtain ⟨p, hp, _⟩ := h1
   have := (List.getElem?_eq_some_iff.1 hp).1
   omega
  ·rw [if_neg hu, if_neg hu'] at e
   exact hne e
theorem OK.add (h : OK X w FZ β s pend) {t : T} (ho : Ow w X.RO FZ t x) (hd : ∀ u b, Bl w β s pend u b → ¬ Blk w t x b) (hs : ∀ b, Blk w t x b → ¬ X.RO b ∧ ¬ FZ b ∧ (X.W b ∨ X.n0 ≤ b)) :
  OK X w FZ β s (pend ++ [(t, x)]) := by
 have hBl : ∀ u b, Bl w β s (pend ++ [(t, x)]) u b → (u = .inr pend.length ∧ Blk w t x b) ∨ (u ≠ .inr pend.length ∧ Bl w β s pend u b) := by
  rintro (id | k) b ⟨o, ho, hb⟩
  ·exact .inr ⟨by simp, o, ho, hb⟩
  ·rcases getElem?_snoc ho with ⟨hlt, ho⟩ | ⟨rfl, rfl⟩
   ·exact .inr ⟨fun e => by injection e; omega, o, ho, hb⟩
   ·exact .inl ⟨rfl, hb⟩
 refine ⟨h.rep, ?_, ?_, ?_, h.ro, h.fz, h.n0, h.live, h.gl⟩
 ·intro k p hk
  rcases getElem?_snoc hk with ⟨_, hk⟩ | ⟨_, rfl⟩
  ·exact h.pow k p hk
  ·exact ho
 ·intro u u' b hne h1 h2
  rcases hBl u b h1 with ⟨e, p1⟩ | ⟨_, p1⟩
  ·rcases hBl u' b h2 with ⟨e', _⟩ | ⟨_, p2⟩
   ·exact hne (e.trans e'.symm)
   ·exact hd _ _ p2 p1
  ·rcases hBl u' b h2 with ⟨_, p2⟩ | ⟨_, p2⟩
   ·exact hd _ _ p1 p2
   ·exact h.apart u u' b hne p1 p2
 ·intro u b h1
  rcases hBl u b h1 with ⟨_, p1⟩ | ⟨_, p1⟩
  ·exact hs b p1
  ·exact h.sep u b p1
structure Wr (w w' : World) (b : Nat) (c' : Array Value) : Prop where
 row0 : ∃ c, Row w b c ∧ c'.size = c.size
 row : Row w' b c'
 old : ∀ b', b' ≠ b → w'.heap[b']? = w.heap[b']?
 size : w.heap.size ≤ w'.heap.size
 os : w'.os = w.os
 tape : w'.tape = w.tape
 output : w'.output = w.output
 drawn : w'.drawn = w.drawn
theorem OK.rewrite {b o n cap : Nat} {xs rs' : List (List T)} {L : List (T × Value)} {c c' : Array Value} (h00 : 0 < cap) (h : OK X w FZ β s (pend ++ [(.sl .own sz xs, .slice (some ⟨b, o, none⟩) n cap)] ++ L))
  (hr : Row w b c) (hw : Wr w w' b c') (hs : c.size ≤ c'.size) (hwid : ∀ r ∈ rs', r.length = sz) (hl : rs'.length ≤ cap)
  (hc : ∀ i j t v, At rs' i j t → c'[o + i * sz + j]? = some v → (At xs i j t ∧ c[o + i * sz + j]? = some v) ∨ (Ow w X.RO FZ t v ∧ ∀ b', Blk w t v b' → ∃ k, pend.length < k ∧ Bl w β s (pend ++ [(.sl .own sz xs, .slice (some ⟨b, o, none⟩) n cap)] ++ L) (.inr k) b'))
  (hd : ∀ i j t v i' j' t' v', At rs' i j t → c'[o + i * sz + j]? = some v → At rs' i' j' t' → c'[o + i' * sz + j']? = some v' → ¬ (At xs i j t ∧ c[o + i * sz + j]? = some v) → ¬ (At xs i' j' t' ∧ c[o + i' * sz + j']? = some v') → (i ≠ i' ∨ j ≠ j') →
   ∀ b', Blk w t v b' → ¬ Blk w t' v' b') :
  OK X w' FZ β s (pend ++ [(.sl .own sz rs', .slice (some ⟨b, o, none⟩) rs'.length cap)]) := by
 have hm : (pend ++ [((.sl .own sz xs : T), Value.slice (some ⟨b, o, none⟩) n cap)] ++ L)[pend.length]? = some (.sl .own sz xs, .slice (some ⟨b, o, none⟩) n cap) := by
  rw [List.append_assoc, List.getElem?_append_right (Nat.le_refl _)]
  simp
 have htree : Ow w X.RO FZ (.sl .own sz xs) (.slice (some ⟨b, o, none⟩) n cap) := h.pow _ _ hm
 have hbm : ∀ b', Blk w (.sl .own sz xs) (.slice (some ⟨b, o, none⟩) n cap) b' → Bl w β s (pend ++ [(.sl .own sz xs, .slice (some ⟨b, o, none⟩) n cap)] ++ L) (.inr pend.length) b' := fun b' hb' => ⟨_, hm, hb'⟩
 have h0 : OK X w FZ β s pend := by
  have := h.take pend.length
  rwa [List.append_assoc, List.take_left] at this
 have up : ∀ u b', Bl w β s pend u b' → (∀ k, pend.length ≤ k → u ≠ .inr k) ∧ Bl w β s (pend ++ [(.sl .own sz xs, .slice (some ⟨b, o, none⟩) n cap)] ++ L) u b' := by
  rintro (id | k) b' ⟨p, hp, hb'⟩
  ·exact ⟨fun _ _ => by simp, p, hp, hb'⟩
  ·have hlt := (List.getElem?_eq_some_iff.1 hp).1
   refine ⟨fun k' hk' e => by injection e; omega, p, ?_, hb'⟩
   rw [List.append_assoc, List.getElem?_append_left hlt]
   exact hp
 have hnb : ∀ u, ¬ Bl w β s pend u b := fun u hu => h.apart u (.inr pend.length) b ((up u b hu).1 _ (Nat.le_refl _)) (up u b hu).2 (hbm b (.here h00))
 have hsep := h.sep (.inr pend.length) b (hbm b (.here h00))
 obtain ⟨h1, back⟩ := h0.world (w' := w') (fun b' hb' => hw.old b' (by
  rintro rfl
  rcases hb' with ⟨u, hu⟩ | hb' | hb'
  ·exact hnb u hu
  ·exact hsep.1 hb'
  ·exact hsep.2.1 hb')) hw.size
 cases htree with
 | emp => omega
 | own _ hr' hlen hbd hwx hcx hn hdx =>
  obtain rfl := hr.inj hr'
  -- the cells, in the new world
  have hcell : ∀ i j t v, At rs' i j t → c'[o + i * sz + j]? = some v → Ow w' X.RO FZ t v ∧ (∀ b', Blk w' t v b' → Blk w t v b') ∧ ∀ b', Blk w t v b' → b' ≠ b ∧
    ∃ k, pend.length ≤ k ∧ Bl w β s (pend ++ [(.sl .own sz xs, .slice (some ⟨b, o, none⟩) xs.length cap)] ++ L) (.inr k) b' := by
   intro i j t v ht hv
   have key : Ow w X.RO FZ t v ∧ ∀ b', Blk w t v b' → b' ≠ b ∧ ∃ k, pend.length ≤ k ∧ Bl w β s (pend ++ [(.sl .own sz xs, .slice (some ⟨b, o, none⟩) xs.length cap)] ++ L) (.inr k) b' := by
    rcases hc i j t v ht hv with ⟨ht', hv'⟩ | ⟨ho, hk⟩
    ·refine ⟨hcx _ _ _ _ ht' hv', fun b' hb' => ⟨?_, pend.length, Nat.le_refl _, hbm b' (.deep h00 hr.rw ht' hv' hb')⟩⟩
     rintro rfl
     exact hn _ _ _ _ ht' hv' hb'
    ·refine ⟨ho, fun b' hb' => ?_⟩
     obtain ⟨k, hk1, hk2⟩ := hk b' hb'
     refine ⟨?_, k, by omega, hk2⟩
     rintro rfl
     exact h.apart (.inr k) (.inr pend.length) b' (by intro e; injection e; omega) hk2 (hbm b' (.here h00))
   have he : ∀ b', Blk w t v b' → w'.heap[b']? = w.heap[b']? := fun b' hb' => hw.old b' (key.2 b' hb').1
   refine ⟨key.1.of_eq (fun _ h => h) (fun _ h => h) (fun b' hb' => hw.old b' ?_) (fun b' hb' => hw.old b' ?_) he, fun b' hb' => hb'.back he, key.2⟩
   ·rintro rfl; exact hsep.1 hb'
   ·rintro rfl; exact hsep.2.1 hb'
  have hBk : ∀ b', Blk w' (.sl .own sz rs') (.slice (some ⟨b, o, none⟩) rs'.length cap) b' → b' = b ∨ ∃ k, pend.length ≤ k ∧ Bl w β s (pend ++ [(.sl .own sz xs, .slice (some ⟨b, o, none⟩) xs.length cap)] ++ L) (.inr k) b' := by
   intro b' hb'
   cases hb' with
   | here _ => exact .inl rfl
   | deep _ hr2 ht hv hh =>
    obtain rfl := hr2.inj hw.row.rw
    have hk := hcell _ _ _ _ ht hv
    exact .inr (hk.2.2 _ (hk.2.1 _ hh)).2
  refine h1.add ?_ ?_ ?_
  ·refine .own h00 hw.row hl (Nat.le_trans hbd hs) hwid (fun i j t v ht hv => (hcell i j t v ht hv).1) (fun i j t v ht hv hb' => ?_) (fun i j t v i' j' t' v' ht hv ht' hv' hne b' p1 p2 => ?_)
   ·exact ((hcell i j t v ht hv).2.2 _ ((hcell i j t v ht hv).2.1 _ hb')).1 rfl
   ·have q1 := (hcell i j t v ht hv).2.1 _ p1
    have q2 := (hcell i' j' t' v' ht' hv').2.1 _ p2
    by_cases o1 : At xs i j t ∧ c[o + i * sz + j]? = some v <;> by_cases o2 : At xs i' j' t' ∧ c[o + i' * sz + j']? = some v'
    ·exact hdx _ _ _ _ _ _ _ _ o1.1 o1.2 o2.1 o2.2 hne b' q1 q2
    ·obtain ⟨k, hk1, hk2⟩ := ((hc i' j' t' v' ht' hv').resolve_left o2).2 b' q2
     exact h.apart (.inr k) (.inr pend.length) b' (by intro e; injection e; omega) hk2 (hbm b' (.deep h00 hr.rw o1.1 o1.2 q1))
    ·obtain ⟨k, hk1, hk2⟩ := ((hc i j t v ht hv).resolve_left o1).2 b' q1
     exact h.apart (.inr k) (.inr pend.length) b' (by intro e; injection e; omega) hk2 (hbm b' (.deep h00 hr.rw o2.1 o2.2 q2))
    ·exact hd i j t v i' j' t' v' ht hv ht' hv' o1 o2 hne b' q1 q2
  ·intro u b' hu hb'
   have hu := back u b' hu
   rcases hBk b' hb' with rfl | ⟨k, hk1, hk2⟩
   ·exact hnb u hu
   ·exact h.apart u (.inr k) b' ((up u b' hu).1 k hk1) (up u b' hu).2 hk2
  ·intro b' hb'
   rcases hBk b' hb' with rfl | ⟨k, hk1, hk2⟩
   ·exact hsep
   ·exact h.sep _ b' hk2
theorem OK.setOb {id b : Nat} {o0 o1 : O} (h : OK X w FZ β s pend) (ho : (s id).o = some o0) (hb0 : OB w β id o0 b) (hb1 : ∀ b', OB w' β id o1 b' → b' = b)
  (hw : ∀ b', b' ≠ b → w'.heap[b']? = w.heap[b']?) (hsz : w.heap.size ≤ w'.heap.size) (bump : Bool) (hnr : ∀ f sz rs, o1 ≠ .rows f sz rs)
  (hrep : RepO w' X.RO FZ β (putS s id bump (some o1)) id o1) :
  OK X w' FZ β (putS s id bump (some o1)) pend := by
 have hob : Bl w β s pend (.inl id) b := ⟨_, ho, hb0⟩
 have hget : ∀ n o, (putS s id bump (some o1) n).o = some o → (n = id ∧ o = o1) ∨ (n ≠ id ∧ (s n).o = some o) := by
  intro n o hn
  by_cases e : n = id
  ·subst e; simp at hn; exact .inl ⟨rfl, hn.symm⟩
  ·rw [putS_ne _ _ _ e] at hn; exact .inr ⟨e, hn⟩
 have hsub : OK X w FZ β (putS s id false none) pend := h.sub (fun n => by
  by_cases e : n = id
  ·subst e; exact .inl (by simp)
  ·exact .inr (by rw [putS_ne _ _ _ e])) (putS_ver _ _ _ _)
 have hup : ∀ u b', Bl w β (putS s id false none) pend u b' → u ≠ .inl id ∧ Bl w β s pend u b' := by
  rintro (n | k) b' ⟨o, hn, hb'⟩
  ·by_cases e : n = id
   ·subst e; simp at hn
   ·rw [putS_ne _ _ _ e] at hn
    exact ⟨fun e' => e (Sum.inl.inj e'), o, hn, hb'⟩
  ·exact ⟨by simp, o, hn, hb'⟩
 have hsep := h.sep _ b hob
 obtain ⟨h1, back⟩ := hsub.world (w' := w') (fun b' hb' => hw b' (by
  rintro rfl
  rcases hb' with ⟨u, hu⟩ | hb' | hb'
  ·exact h.apart u (.inl id) b' (hup u b' hu).1 (hup u b' hu).2 hob
  ·exact hsep.1 hb'
  ·exact hsep.2.1 hb')) hsz
 have hBl : ∀ u b', Bl w' β (putS s id bump (some o1)) pend u b' → (u = .inl id ∧ b' = b) ∨ (u ≠ .inl id ∧ Bl w β s pend u b') := by
  rintro (n | k) b' ⟨o, hn, hb'⟩
  ·rcases hget n o hn with ⟨rfl, rfl⟩ | ⟨hne, hn⟩
   ·exact .inl ⟨rfl, hb1 _ hb'⟩
   ·exact .inr ⟨fun e => hne (Sum.inl.inj e), (hup _ _ (back (.inl n) b' ⟨o, by rw [putS_ne _ _ _ hne]; exact hn, hb'⟩)).2⟩
  ·exact .inr ⟨by simp, (hup _ _ (back (.inr k) b' ⟨o, hn, hb'⟩)).2⟩
 refine ⟨?_, h1.pow, ?_, ?_, h.ro, h1.fz, h1.n0, ?_, h1.gl⟩
 ·intro n o hn
  rcases hget n o hn with ⟨rfl, rfl⟩ | ⟨hne, hn⟩
  ·exact hrep
  ·have hr := h1.rep n o (by rw [putS_ne _ _ _ hne]; exact hn)
   have hv : ∀ i, (putS s id false none i).ver ≤ (putS s id bump (some o1) i).ver := by
    intro i
    by_cases e : i = id
    ·subst e; simp only [putS, upd_same]; cases bump <;> simp
    ·rw [putS_ne _ _ _ e, putS_ne _ _ _ e]; exact Nat.le_refl _
   cases o with
   | box => exact hr.up (by simp) hv (fun _ _ => rfl) rfl
   | rows => exact hr.up (by simp) hv (fun _ _ => rfl) rfl
   | mp => exact hr.up (by simp) hv (fun _ _ => rfl) rfl
   | link y ver i j =>
    refine ⟨Nat.le_trans hr.1 (hv y), hr.2.1, fun e f sz rs hy => ?_⟩
    by_cases ey : y = id
    ·subst ey; simp only [putS, upd_same, Option.some.injEq] at hy; exact absurd hy (hnr _ _ _)
    ·rw [putS_ne _ _ _ ey] at hy e
     exact hr.2.2 (by rw [putS_ne _ _ _ ey]; exact e) f sz rs (by rw [putS_ne _ _ _ ey]; exact hy)
 ·intro u u' b' hne p1 p2
  rcases hBl u b' p1 with ⟨e, eb⟩ | ⟨hu, p1⟩
  ·rcases hBl u' b' p2 with ⟨e', _⟩ | ⟨hu', p2⟩
   ·exact hne (e.trans e'.symm)
   ·subst eb; exact h.apart u' (.inl id) b' hu' p2 hob
  ·rcases hBl u' b' p2 with ⟨e', eb⟩ | ⟨hu', p2⟩
   ·subst eb; exact h.apart u (.inl id) b' hu p1 hob
   ·exact h.apart u u' b' hne p1 p2
 ·intro u b' p1
  rcases hBl u b' p1 with ⟨_, rfl⟩ | ⟨_, p1⟩
  ·exact hsep
  ·exact h.sep u b' p1
 ·intro n o hn
  rcases hget n o hn with ⟨rfl, rfl⟩ | ⟨hne, hn⟩
  ·exact Nat.le_trans (h.live _ _ ho) (putS_ver _ _ _ _ _)
  ·exact Nat.le_trans (h.live n o hn) (putS_ver _ _ _ _ _)
theorem OK.writeBox {id b : Nat} {cells cells' : List V} {c' : Array Value} (h : OK X w FZ β s pend) (ho : (s id).o = some (.box false cells)) (hb : β id = .pointer (some ⟨b, 0, none⟩))
  (hw : Wr w w' b c') (bump : Bool) (hl : c'.size = cells'.length) (hc : ∀ (j : Nat) (v : V) (x : Value), cells'[j]? = some v → c'[j]? = some x → RepV (vers s) β v x ∧ flat x) :
  OK X w' FZ β (putS s id bump (some (.box false cells'))) pend :=
 h.setOb ho ⟨rfl, hb⟩ (fun b' e => by have e := e.2; rw [hb] at e; simp at e; exact e.symm) hw.old hw.size bump (by simp)
  ⟨b, c', hb, hw.row, hl, fun j v x hj hx => ⟨(hc j v x hj hx).1.up (fun i hi => Nat.le_trans hi (putS_ver _ _ _ _ _)) (fun _ _ => rfl), (hc j v x hj hx).2⟩, by simp⟩
theorem OK.newOb (h : OK X w FZ β s pend) (hq : (s q).ver = 0) (o : Obj) (y : Value) (o1 : O) (hb1 : ∀ b', OB (World.push w o) (upd β q y) q o1 b' → b' = w.heap.size)
  (hrep : RepO (World.push w o) X.RO FZ (upd β q y) (putS s q true (some o1)) q o1) :
  OK X (World.push w o) FZ (upd β q y) (putS s q true (some o1)) pend := by
 obtain ⟨hp, back⟩ := h.push o
 have hget : ∀ id o, (putS s q true (some o1) id).o = some o → (id = q ∧ o = o1) ∨ (id ≠ q ∧ (s id).o = some o) := by
  intro id o ho
  by_cases e : id = q
  ·subst e; simp at ho; exact .inl ⟨rfl, ho.symm⟩
  ·rw [putS_ne _ _ _ e] at ho; exact .inr ⟨e, ho⟩
 have hBl : ∀ u b, Bl (World.push w o) (upd β q y) (putS s q true (some o1)) pend u b → (u = .inl q ∧ b = w.heap.size) ∨ (u ≠ .inl q ∧ Bl w β s pend u b) := by
  rintro (id | k) b ⟨o, ho, hbb⟩
  ·rcases hget id o ho with ⟨rfl, rfl⟩ | ⟨hne, ho⟩
   ·exact .inl ⟨rfl, hb1 _ hbb⟩
   ·exact .inr ⟨fun e => hne (Sum.inl.inj e), back _ _ ⟨o, ho, Bl.ob_upd hq h.live _ ho hbb⟩⟩
  ·exact .inr ⟨by simp, back (.inr k) b ⟨o, ho, hbb⟩⟩
 refine ⟨?_, hp.pow, ?_, ?_, h.ro, hp.fz, hp.n0, ?_, hp.gl⟩
 ·intro id o ho
  rcases hget id o ho with ⟨rfl, rfl⟩ | ⟨hne, ho⟩
  ·exact hrep
  ·exact hp.rep_new hq _ _ id o hne ho
 ·intro u u' b hne h1 h2
  rcases hBl u b h1 with ⟨rfl, rfl⟩ | ⟨h1', h1⟩
  ·rcases hBl u' _ h2 with ⟨rfl, _⟩ | ⟨_, h2⟩
   ·exact hne rfl
   ·exact h.fresh _ h2
  ·rcases hBl u' b h2 with ⟨rfl, rfl⟩ | ⟨_, h2⟩
   ·exact h.fresh _ h1
   ·exact h.apart u u' b hne h1 h2
 ·intro u b h1
  rcases hBl u b h1 with ⟨rfl, rfl⟩ | ⟨_, h1⟩
  ·refine ⟨fun hb => ?_, fun hb => ?_, .inr h.n0⟩
   ·have := (h.ro _ hb).1; have := h.n0; omega
   ·exact Nat.lt_irrefl _ (h.fz _ hb)
  ·exact h.sep u b h1
 ·intro id o ho
  rcases hget id o ho with ⟨rfl, rfl⟩ | ⟨hne, ho⟩
  ·rw [putS_bump]; omega
  ·exact Nat.le_trans (h.live id o ho) (putS_ver _ _ _ _ _)
theorem OK.newBox (h : OK X w FZ β s pend) (hq : (s q).ver = 0) {cells : List V} {c : Array Value} (t : TypeId) (hl : c.size = cells.length)
  (hc : ∀ (j : Nat) (v : V) (x : Value), cells[j]? = some v → c[j]? = some x → RepV (vers s) β v x ∧ flat x) :
  OK X (World.push w (.cells c t (0, 0))) FZ (upd β q (.pointer (some ⟨w.heap.size, 0, none⟩))) (putS s q true (some (.box false cells))) pend :=
 h.newOb hq _ _ _ (fun b' e => by have e := e.2; simp at e; exact e.symm)
  ⟨w.heap.size, c, by simp, push_row _ _ _, hl, fun j v x hj hx => ⟨(hc j v x hj hx).1.up (fun i hi => Nat.le_trans hi (putS_ver _ _ _ _ _)) (fun i hi => upd_ne _ _ (fun e => by subst e; have : 1 ≤ (s i).ver := hi; omega)), (hc j v x hj hx).2⟩, by simp⟩
end Go.Vm
namespace Go.Vm
set_option linter.unusedVariables false
set_option linter.unusedSimpArgs false
variable {P : Program} {w w' : World}
theorem Wr.refl {b : Nat} {c : Array Value} (h : Row w b c) : Wr w w b c := ⟨⟨c, h, rfl⟩, h, fun _ _ => rfl, Nat.le_refl _, rfl, rfl, rfl, rfl⟩
theorem Wr.trans {w1 w2 w3 : World} {b : Nat} {c c' : Array Value} (h : Wr w1 w2 b c) (h' : Wr w2 w3 b c') : Wr w1 w3 b c' :=
 ⟨by
  obtain ⟨c1, h1, e1⟩ := h.row0
  obtain ⟨c2, h2, e2⟩ := h'.row0
  obtain rfl := h2.inj h.row
  exact ⟨c1, h1, e2.trans e1⟩, h'.row, fun b' hb => (h'.old b' hb).trans (h.old b' hb), Nat.le_trans h.size h'.size, h'.os.trans h.os, h'.tape.trans h.tape, h'.output.trans h.output, h'.drawn.trans h.drawn⟩
theorem flat_one {v : Value} (h : flat v) : v.oneCell' = true := by cases v <;> first | rfl | exact h.elim
theorem Row.cell {b o : Nat} {c : Array Value} (h : Row w b c) : w.cell? ⟨b, o, none⟩ = c[o]? := by
 obtain ⟨t, lo, hi, e, _⟩ := h
 simp [World.cell?, e]
theorem Rw.cell {b o : Nat} {c : Array Value} (h : Rw w b c) : w.cell? ⟨b, o, none⟩ = c[o]? := by
 obtain ⟨t, fr, e⟩ := h
 simp [World.cell?, e]
theorem Row.unfrozen {b o : Nat} {c : Array Value} (h : Row w b c) (ho : o < c.size) : w.frozen? ⟨b, o, none⟩ = false := by
 obtain ⟨t, lo, hi, e, f⟩ := h
 simp only [World.frozen?, e, Bool.and_eq_false_iff, decide_eq_false_iff_not]
 omega
theorem Row.shape {b : Nat} {c : Array Value} (h : Row w b c) : ∃ t, w.shape? b = some (t, c.size) := by
 obtain ⟨t, lo, hi, e, f⟩ := h
 exact ⟨t, by simp [World.shape?, e]⟩
theorem Row.setCell {b o : Nat} {c : Array Value} (h : Row w b c) (v : Value) : Wr w (w.setCell ⟨b, o, none⟩ v) b (c.setIfInBounds o v) := by
 obtain ⟨t, lo, hi, e, f⟩ := h
 refine ⟨⟨c, ⟨t, lo, hi, e, f⟩, by simp⟩, ⟨t, lo, hi, ?_, ?_⟩, fun b' hb => ?_, ?_, rfl, rfl, rfl, rfl⟩
 ·simp only [World.setCell, Array.getElem?_modify]
  rw [if_pos trivial, e]
  simp
 ·simpa using f
 ·simp only [World.setCell, Array.getElem?_modify]
  rw [if_neg (fun e => hb e.symm)]
 ·simp [World.setCell]
theorem run_store_row {b o : Nat} {c : Array Value} (h : Row w b c) (ho : o < c.size) {v : Value} (hv : flat v) :
  (store ⟨b, o, none⟩ v).run P w = .ok () (w.setCell ⟨b, o, none⟩ v) := by
 rw [run_store P w _ v _ (flat_one hv), h.cell, Array.getElem?_eq_getElem ho]
 simp [h.unfrozen ho]
def spl (c : Array Value) (k : Nat) (vs : List Value) : Array Value := (c.toList.take k ++ vs ++ c.toList.drop (k + vs.length)).toArray
theorem spl_size {c : Array Value} {k : Nat} {vs : List Value} (h : k + vs.length ≤ c.size) : (spl c k vs).size = c.size := by
 simp [spl]; omega
theorem spl_get {c : Array Value} {k : Nat} {vs : List Value} (h : k + vs.length ≤ c.size) (n : Nat) :
  (spl c k vs)[n]? = if k ≤ n ∧ n < k + vs.length then vs[n - k]? else c[n]? := by
 have hk : (c.toList.take k).length = k := by simp; omega
 simp only [spl, List.getElem?_toArray]
 rw [List.append_assoc, List.getElem?_append]
 rw [hk]
 split
 ·rename_i h1
  rw [if_neg (by omega), List.getElem?_take, if_pos h1]
  simp
 ·rename_i h1
  rw [List.getElem?_append]
  split
  ·rename_i h2
   rw [if_pos (by omega)]
  ·rename_i h2
   rw [if_neg (by omega), List.getElem?_drop]
   simp only [Array.getElem?_toList]
   congr 1
   omega
theorem spl_cons {c : Array Value} {k : Nat} {v : Value} {vs : List Value} (h : k + vs.length + 1 ≤ c.size) : spl (c.setIfInBounds k v) (k + 1) vs = spl c k (v :: vs) := by
 apply Array.ext_getElem?
 intro n
 rw [spl_get (by simp; omega), spl_get (by simp; omega)]
 simp only [List.length_cons, Array.getElem?_setIfInBounds]
 by_cases h1 : k + 1 ≤ n ∧ n < k + 1 + vs.length
 ·rw [if_pos h1, if_pos (by omega)]
  have : n - k = (n - (k + 1)) + 1 := by omega
  rw [this, List.getElem?_cons_succ]
 ·rw [if_neg h1]
  by_cases h2 : k = n
  ·subst h2
   rw [if_pos rfl, if_pos (by omega), if_pos (by omega)]
   simp
  ·rw [if_neg h2, if_neg (by omega)]
theorem add_addr (b o n : Nat) : (⟨b, o, none⟩ : Addr).add n = ⟨b, o + n, none⟩ := by
 unfold Addr.add
 split
 ·rename_i h; subst h; rfl
 ·rfl
theorem run_storeCells {b o : Nat} : ∀ (vs : List Value) (i : Nat) {w : World} {c : Array Value}, Row w b c → o + i + vs.length ≤ c.size → (∀ v ∈ vs, flat v) →
  ∃ w', (storeCells ⟨b, o, none⟩ vs i).run P w = .ok () w' ∧ Wr w w' b (spl c (o + i) vs)
 | [], i, w, c, h, hl, hf => by
  refine ⟨w, by simp [storeCells], ?_⟩
  have : spl c (o + i) [] = c := by simp [spl]
  rw [this]
  exact .refl h
 | v :: vs, i, w, c, h, hl, hf => by
  simp only [List.length_cons] at hl
  have hs := run_store_row (P := P) h (o := o + i) (by omega) (hf v (by simp))
  have hr := h.setCell (o := o + i) v
  obtain ⟨w', h1, h2⟩ := run_storeCells (b := b) (o := o) vs (i + 1) hr.row (by simp; omega) (fun v hv => hf v (by simp [hv]))
  refine ⟨w', ?_, ?_⟩
  ·simp only [storeCells, Sem.run_bind, add_addr, hs, Result.andThen_ok]
   exact h1
  ·have := hr.trans h2
   rwa [← Nat.add_assoc, spl_cons (by omega)] at this
theorem run_loadRow {b o n : Nat} {c : Array Value} (h : Rw w b c) (hl : o + n ≤ c.size) : (loadCells ⟨b, o, none⟩ n).run P w = .ok (c.extract o (o + n)) w := by
 rw [run_loadCells w _ n (fun j => c.getD (o + j) undef) (fun j hj => by
  rw [add_addr, h.cell, Array.getElem?_eq_getElem (by omega)]
  simp [Array.getD, show o + j < c.size by omega])]
 congr 1
 apply Array.ext_getElem?
 intro j
 simp only [List.getElem?_toArray, List.getElem?_map, Array.getElem?_extract]
 by_cases hj : j < n
 ·rw [List.getElem?_range hj, if_pos (by omega)]
  simp [Array.getD, show o + j < c.size by omega]
 ·rw [if_neg (by omega)]
  simp [List.getElem?_eq_none (show (List.range n).length ≤ j by simp; omega)]
theorem run_sizeP {t : TypeId} (h : ∃ d, P.underlying t = some d) : (sizeOf t).run P w = .ok (sizeP P t) w := by
 obtain ⟨d, h⟩ := h
 unfold Program.underlying at h
 cases hi : P.info? t with
 | none => rw [hi] at h; cases h
 | some i => simp [sizeOf, typeInfo, hi, sizeP]
theorem run_isAggT {t : TypeId} (h : ∃ d, P.underlying t = some d) : (isAgg t).run P w = .ok (isAggT P t) w := by
 obtain ⟨d, h⟩ := h
 simp only [isAgg, Sem.run_bind, run_underlying h, Result.andThen_ok, isAggT, h]
 cases d <;> rfl
end Go.Vm
namespace Go.Vm
set_option linter.unusedVariables false
set_option linter.unusedSimpArgs false
structure Wd (X : Cx) (FZ FZ' : Nat → Prop) (w w' : World) : Prop where
 os : w'.os = w.os
 tape : w'.tape = w.tape
 output : w'.output = w.output
 drawn : drw → w.drawn ≤ w'.drawn
 size : w.heap.size ≤ w'.heap.size
 old : ∀ b, b < X.n0 → ¬ X.W b → w'.heap[b]? = w.heap[b]?
 row : ∀ b c, Row w b c → ∃ c', Row w' b c' ∧ c'.size = c.size
 fz : ∀ b, FZ b → FZ' b
 fz' : ∀ b, FZ' b → FZ b ∨ X.W b ∨ X.n0 ≤ b
theorem Wd.refl (X : Cx) (FZ : Nat → Prop) (w : World) : Wd X FZ FZ w w := ⟨rfl, rfl, rfl, fun _ => (by first | exact Nat.le_refl _ | exact Nat.le_succ _), Nat.le_refl _, fun _ _ _ => rfl, fun _ c h => ⟨c, h, rfl⟩, fun _ h => h, fun _ h => .inl h⟩
theorem Wd.trans {X : Cx} {F1 F2 F3 : Nat → Prop} {w1 w2 w3 : World} (h : Wd X F1 F2 w1 w2) (h' : Wd X F2 F3 w2 w3) : Wd X F1 F3 w1 w3 :=
 ⟨h'.os.trans h.os, h'.tape.trans h.tape, h'.output.trans h.output, fun q => Nat.le_trans (h.drawn q) (h'.drawn q), Nat.le_trans h.size h'.size, fun b hb hw => (h'.old b hb hw).trans (h.old b hb hw), fun b c hc => by
  obtain ⟨c1, h1, e1⟩ := h.row b c hc
  obtain ⟨c2, h2, e2⟩ := h'.row b c1 h1
  exact ⟨c2, h2, e2.trans e1⟩, fun b hb => h'.fz b (h.fz b hb),
  fun b hb => (h'.fz' b hb).elim (h.fz' b) .inr⟩
def Post (X : Cx) (FZ : Nat → Prop) (β : Nat → Value) (s : Objs) (w : World) (v : V) (s' : Objs) (x : Value) (w' : World) : Prop :=
 ∃ β' FZ', OK X w' FZ' β' s' [] ∧ (∀ i, 1 ≤ (s i).ver → 1 ≤ (s' i).ver ∧ β' i = β i) ∧ RepV (vers s') β' v x ∧ Wd X FZ FZ' w w'
inductive Runs (P : Program) (r : Result Next) (Q : Value → World → Prop) : Prop
 | value {x : Value} {w' : World} (h : r = .ok (.value x) w') (q : Q x w') : Runs P r Q
 | skip {w' : World} (h : r = .ok .skip w') (q : Q undef w') : Runs P r Q
 | enter {f : FuncId} {args : Array Value} {w' : World} (h : r = .ok (.enter f args) w') (c : Calls P f args w' fun e w'' => ∃ x, e = .returned x ∧ Q x w'') : Runs P r Q
theorem Runs.wp {P : Program} {o : Oper} {a : Act} {w : World} {Q : Value → World → Prop} {next : Act → World → Prop} {K : Exit → Act → World → Prop}
  (h : Runs P ((execOp a.eval o).run P w) Q) (k : ∀ x w', Q x w' → next (a.put o.dst x) w') : o.wp P a w next K := by
 unfold Oper.wp
 cases h with
 | value h q => rw [h]; exact k _ _ q
 | skip h q => rw [h]; exact k _ _ q
 | enter h c =>
  rw [h]
  refine c.mono fun e w'' he => ?_
  obtain ⟨x, rfl, q⟩ := he
  exact k _ _ q
variable {P : Program} {X : Cx} {FZ : Nat → Prop} {β : Nat → Value} {s s' : Objs} {w : World} {v : V} {fp fp' : List (Bool × Nat)}
theorem Post.same (h : OK X w FZ β s []) {x : Value} (hv : RepV (vers s) β v x) : Post X FZ β s w v s x w := ⟨β, FZ, h, fun i hi => ⟨hi, rfl⟩, hv, Wd.refl X FZ w⟩
theorem ret_run {α : Type} {a : α} {r : α × Objs × List (Bool × Nat)} (h : (H.ret a).run s fp = some r) : r = (a, s, fp) := (Option.some.inj h).symm
theorem flatB_flat {v : Value} (h : flatB v = true) : flat v := by cases v <;> first | trivial | cases h
theorem rep_oneV {vr : Nat → Nat} (v : Value) : RepV vr β (oneV v) v := by
 unfold oneV
 split
 ·exact .nl
 ·cases h : flatB v
  ·exact .no
  ·exact .im (flatB_flat h)
theorem rep_constV {vr : Nat → Nat} (v : Value) : RepV vr β (constV v) v := by
 unfold constV
 split
 ·rename_i cs
  cases h : cs.toList.all flatB
  ·exact .no
  ·rw [List.all_eq_true] at h
   refine .ag (by simp) (fun i x hx => flatB_flat (h x (Array.mem_toList_iff.2 (Array.mem_of_getElem? hx)))) fun i v x hv hx => ?_
   rw [List.getElem?_map, Array.getElem?_toList, hx] at hv
   obtain rfl := Option.some.inj hv
   exact rep_oneV x
 ·rename_i f a b
  cases h : (a.isEmpty && b.isEmpty)
  ·exact .no
  ·simp only [Bool.and_eq_true, Array.isEmpty_iff] at h
   obtain ⟨rfl, rfl⟩ := h
   exact .fn (by simp) fun i v x hv hx => by simp at hv
 ·exact rep_oneV _
theorem rep_castK {vr : Nat → Nat} {v : V} {x : Value} (h : RepV vr β v x) (k : Kd) : RepV vr β (castK k v) x := by
 unfold castK
 split
 ·cases h; exact .nl
 ·exact h
theorem castL_length : ∀ (ks : List Kd) (vs : List V), (castL ks vs).length = vs.length
 | [], vs => by simp [castL]
 | k :: ks, [] => by simp [castL]
 | k :: ks, v :: vs => by simp [castL, castL_length ks vs]
theorem castL_get : ∀ (ks : List Kd) (vs : List V) (i : Nat) (v : V), (castL ks vs)[i]? = some v → ∃ v' k, vs[i]? = some v' ∧ (v = v' ∨ v = castK k v')
 | [], vs, i, v, h => ⟨v, .oth, by simpa [castL] using h, .inl rfl⟩
 | k :: ks, [], i, v, h => by simp [castL] at h
 | k :: ks, u :: vs, 0, v, h => by
  simp only [castL, List.getElem?_cons_zero, Option.some.injEq] at h
  exact ⟨u, k, rfl, .inr h.symm⟩
 | k :: ks, u :: vs, i + 1, v, h => by
  simp only [castL, List.getElem?_cons_succ] at h ⊢
  exact castL_get ks vs i v h
theorem rep_castT {vr : Nat → Nat} {v : V} {x : Value} (h : RepV vr β v x) (t : Ty) : RepV vr β (castT t v) x := by
 unfold castT
 split
 ·exact rep_castK h _
 ·rename_i ks vs
  cases h with
  | ag hl hf hc =>
   refine .ag (by rw [castL_length]; exact hl) hf fun i v x hv hx => ?_
   obtain ⟨v', k, h1, h2⟩ := castL_get ks vs i v hv
   rcases h2 with rfl | rfl
   ·exact hc i _ x h1 hx
   ·exact rep_castK (hc i _ x h1 hx) k
 ·exact h
theorem castK_notNo {v : V} (k : Kd) (h : V.notNo v = true) : V.notNo (castK k v) = true := by
 unfold castK
 split
 ·rfl
 ·exact h
theorem castT_notNo {v : V} (t : Ty) (h : V.notNo v = true) : V.notNo (castT t v) = true := by
 unfold castT
 split
 ·exact castK_notNo _ h
 ·rfl
 ·exact h
theorem rep_cells {vr : Nat → Nat} {v : V} {x : Value} (h : RepV vr β v x) (hn : V.notNo v = true) :
  (vCells v).length = x.cells.size ∧ (∀ (i : Nat) (y : Value), x.cells[i]? = some y → flat y) ∧ ∀ (i : Nat) (u : V) (y : Value), (vCells v)[i]? = some u → x.cells[i]? = some y → RepV vr β u y := by
 have one : ∀ {v : V} {x : Value}, RepV vr β v x → vCells v = [v] → x.cells = #[x] → flat x →
   (vCells v).length = x.cells.size ∧ (∀ (i : Nat) (y : Value), x.cells[i]? = some y → flat y) ∧ ∀ (i : Nat) (u : V) (y : Value), (vCells v)[i]? = some u → x.cells[i]? = some y → RepV vr β u y := by
  intro v x h e1 e2 hf
  rw [e1, e2]
  refine ⟨rfl, fun i y hy => ?_, fun i u y hu hy => ?_⟩
  ·cases i with
   | zero => simp at hy; subst hy; exact hf
   | succ i => simp at hy
  ·cases i with
   | zero => simp at hu hy; subst hu hy; exact h
   | succ i => simp at hu
 cases h with
 | im hf =>
  refine one (.im hf) rfl ?_ hf
  unfold Value.cells
  split
  ·exact hf.elim
  ·rfl
 | nl => exact one .nl rfl rfl trivial
 | sl0 hz hv h => exact one (.sl0 hz hv h) rfl rfl trivial
 | se hv h => exact one (.se hv h) rfl rfl trivial
 | sl hv h a b c d e => exact one (.sl hv h a b c d e) rfl rfl trivial
 | ptb hv h => exact one (.ptb hv h) rfl rfl trivial
 | pts hv h hi => exact one (.pts hv h hi) rfl rfl trivial
 | ag hl hf hc => exact ⟨hl, hf, hc⟩
 | tu => cases hn
 | fn hl hc => exact one (.fn hl hc) rfl rfl trivial
 | mp hv h => exact one (.mp hv h) rfl rfl trivial
 | no => cases hn
theorem isK_bool {v : V} (h : V.isK .bool v = true) : ∃ b, v = .im (.bool b) := by
 cases v with
 | im v => cases v <;> first | exact ⟨_, rfl⟩ | cases h
 | _ => cases h
theorem isK_int {k : IntKind} {v : V} (h : V.isK (.int k) v = true) : ∃ n, v = .im (.int k n) := by
 cases v with
 | im v =>
  cases v with
  | int k' n =>
   have : k = k' := by simpa [V.isK, Value.okK] using h
   subst this
   exact ⟨n, rfl⟩
  | _ => cases h
 | _ => cases h
theorem rep_im {vr : Nat → Nat} {v x : Value} (h : RepV vr β (.im v) x) : x = v := by cases h; rfl
theorem intArith_run (op : BinOp) (k : IntKind) (a b : Int) (h : op = .add ∨ op = .sub ∨ op = .mul) :
  (Op.intArith op k a b).run P w = .ok (.int k (k.wrap (match op with | .add => a + b | .sub => a - b | _ => a * b))) w := by
 rcases h with rfl | rfl | rfl <;> rfl
theorem equal_bool {t : TypeId} {a b : Bool} (h : P.underlying t = some .bool) : (Op.equal t (.bool a) (.bool b)).run P w = .ok (a == b) w := by
 show (Op.equalIn (9999 + 1) t (.bool a) (.bool b)).run P w = .ok (a == b) w
 unfold Op.equalIn
 simp only [Sem.run_bind, run_underlying h, Result.andThen_ok]
 rfl
theorem binV_sound {tb : Bool} {op : BinOp} {t : TypeId} {x y : Operand} {a b : V} {va vb : Value} {r : V × Objs × List (Bool × Nat)} (ha : RepV (vers s) β a va) (hb : RepV (vers s) β b vb)
  (htb : tb = true → P.underlying t = some .bool) (h : (binV tb op a b).run s fp = some r) :
  ∃ z, ((do eqGuard op t x y va vb; binOp op t va vb : Sem Value)).run P w = .ok z w ∧ r.1 = .im z ∧ flat z ∧ r.2.1 = s := by
 have nog : ∀ {u v : Value}, (∀ c c', ¬ (u = .agg c ∧ v = .agg c')) → ¬ (u = .nilIface ∧ v = .nilIface) → (eqGuard op t x y u v).run P w = .ok () w := by
  intro u v h1 h2
  have : eqGuard op t x y u v = pure () := by
   clear h
   unfold eqGuard
   repeat' split
   all_goals first
    | rfl
    | exact absurd ⟨rfl, rfl⟩ h2
    | exact absurd ⟨rfl, rfl⟩ (h1 _ _)
  rw [this]; rfl
 unfold binV at h
 simp only [sAdd_eq, sSub_eq, sMul_eq, sQuo_eq, sRem_eq, sAnd_eq, sOr_eq, sXor_eq, sShl_eq, sShr_eq, sEq_eq, sLt_eq, sLe_eq, sBeq_eq, sFit_eq, sCat_eq, sSeq_eq] at h
 split at h
 ·-- two integers
  obtain rfl := rep_im ha
  obtain rfl := rep_im hb
  rename_i k a k' b
  have hg := nog (u := .int k a) (v := .int k' b) (by simp) (by simp)
  simp only [Sem.run_bind, hg, Result.andThen_ok]
  split at h
  ·obtain ⟨hc, h⟩ := chk_run h
   obtain rfl := ret_run h
   have hc : 0 ≤ b := of_decide_eq_true hc
   refine ⟨_, ?_, rfl, trivial, rfl⟩
   simp only [binOp, Op.shift]
   rw [if_neg (by omega)]
   rfl
  ·obtain ⟨hc, h⟩ := chk_run h
   obtain rfl := ret_run h
   have hc : 0 ≤ b := of_decide_eq_true hc
   refine ⟨_, ?_, rfl, trivial, rfl⟩
   simp only [binOp, Op.shift]
   rw [if_neg (by omega)]
   rfl
  ·rename_i hne1 hne2
   obtain ⟨hc, h2⟩ := chk_run h
   clear h
   have hc : k = k' := of_decide_eq_true hc
   subst hc
   have hb' : binOp op t (.int k a) (.int k b) = (match op with
    | .add | .sub | .mul => Op.intArith op k a b
    | .quo | .rem => Op.intDiv op k a b
    | .and | .or | .xor | .andNot => Op.intBits op k a b
    | _ => Op.intCmp op a b) := by
    cases op <;> first | (exact absurd rfl hne1) | (exact absurd rfl hne2) | (simp [binOp])
   rw [hb']
   have divs : ∀ {z : V}, (H.chk (!decide (b = 0)) (H.ret z)).run s fp = some r → ¬ b = 0 ∧ r = (z, s, fp) := by
    intro z h
    obtain ⟨hz, h3⟩ := chk_run h
    exact ⟨by simpa using hz, ret_run h3⟩
   cases op with
   | quo =>
    obtain ⟨hz, rfl⟩ := divs h2
    refine ⟨_, ?_, rfl, trivial, rfl⟩
    simp only [Op.intDiv]
    rw [if_neg hz]
    rfl
   | rem =>
    obtain ⟨hz, rfl⟩ := divs h2
    refine ⟨_, ?_, rfl, trivial, rfl⟩
    simp only [Op.intDiv]
    rw [if_neg hz]
    rfl
   | shl => exact absurd rfl hne1
   | shr => exact absurd rfl hne2
   | andNot => cases h2
   | _ => obtain rfl := ret_run h2; exact ⟨_, rfl, rfl, trivial, rfl⟩
 ·-- two strings
  obtain rfl := rep_im ha
  obtain rfl := rep_im hb
  rename_i a b
  have hg := nog (u := .string a) (v := .string b) (by simp) (by simp)
  simp only [Sem.run_bind, hg, Result.andThen_ok]
  have hb' : binOp op t (.string a) (.string b) = Op.stringOp op a b := by cases op <;> rfl
  rw [hb']
  split at h
  ·obtain ⟨hc, h⟩ := chk_run h
   obtain rfl := ret_run h
   have hc : a.size + b.size < 4294967296 := by simpa [Nat.blt_eq] using hc
   refine ⟨_, ?_, rfl, trivial, rfl⟩
   simp only [Op.stringOp]
   rw [if_neg (by have : IntKind.i64.max = 9223372036854775807 := (by decide); omega)]
   rfl
  ·obtain rfl := ret_run h; exact ⟨_, rfl, rfl, trivial, rfl⟩
  ·obtain rfl := ret_run h; exact ⟨_, rfl, rfl, trivial, rfl⟩
  ·cases h
 ·obtain rfl := rep_im ha
  obtain rfl := rep_im hb
  rename_i a b
  have hg := nog (u := .bool a) (v := .bool b) (by simp) (by simp)
  simp only [Sem.run_bind, hg, Result.andThen_ok]
  split at h
  ·obtain ⟨hc, h⟩ := chk_run h
   obtain rfl := ret_run h
   refine ⟨_, ?_, rfl, trivial, rfl⟩
   show (do pure (Value.bool (← Op.equal t (.bool a) (.bool b))) : Sem Value).run P w = _
   simp only [Sem.run_bind, equal_bool (htb hc), Result.andThen_ok, Sem.run_pure]
  ·obtain ⟨hc, h⟩ := chk_run h
   obtain rfl := ret_run h
   refine ⟨_, ?_, rfl, trivial, rfl⟩
   show (do pure (Value.bool (!(← Op.equal t (.bool a) (.bool b)))) : Sem Value).run P w = _
   simp only [Sem.run_bind, equal_bool (htb hc), Result.andThen_ok, Sem.run_pure]
  ·cases h
 ·cases h
end Go.Vm
namespace Go.Vm
set_option linter.unusedVariables false
set_option linter.unusedSimpArgs false
variable {P : Program} {X : Cx} {FZ : Nat → Prop} {β : Nat → Value} {s s' : Objs} {w : World} {v : V} {fp fp' : List (Bool × Nat)}
theorem unV_sound {op : UnOp} {a : V} {va : Value} {r : V × Objs × List (Bool × Nat)} (ha : RepV (vers s) β a va) (h : (unV op a).run s fp = some r) :
  ∃ z, (Op.unary op va).run P w = .ok z w ∧ r.1 = .im z ∧ flat z ∧ r.2.1 = s := by
 unfold unV at h
 simp only [sNeg_eq, sCpl_eq] at h
 split at h
 ·obtain rfl := rep_im ha
  obtain rfl := ret_run h
  exact ⟨_, rfl, rfl, trivial, rfl⟩
 ·obtain rfl := rep_im ha
  obtain rfl := ret_run h
  exact ⟨_, rfl, rfl, trivial, rfl⟩
 ·obtain rfl := rep_im ha
  obtain rfl := ret_run h
  exact ⟨_, rfl, rfl, trivial, rfl⟩
 ·cases h
theorem and3 {a b c : Bool} (h : (a && b && c) = true) : a = true ∧ b = true ∧ c = true := by simpa [and_assoc] using h
theorem bound_run {n : Int} {y : Nat} {code : BoundsCode} (h0 : 0 ≤ n) (hy : n ≤ y) : (Instr.sliceBound (.int .i64 n) y code).run P w = .ok n.toNat w := by
 simp only [Instr.sliceBound, asIntOf, Sem.run_bind, Sem.run_pure, Result.andThen_ok]
 rw [if_pos ⟨h0, hy⟩]
 rfl
inductive RepOp (vr : Nat → Nat) (β : Nat → Value) : Option V → Option Value → Prop
 | nn : RepOp vr β none none
 | ss {v : V} {x : Value} (h : RepV vr β v x) : RepOp vr β (some v) (some x)
theorem RepOp.int {vr : Nat → Nat} {l : Option V} {l' : Option Value} (h : RepOp vr β l l') (hk : l.elim true (V.isK (.int .i64)) = true) :
  (l = none ∧ l' = none) ∨ ∃ n, l = some (.im (.int .i64 n)) ∧ l' = some (.int .i64 n) := by
 cases h with
 | nn => exact .inl ⟨rfl, rfl⟩
 | ss h =>
  obtain ⟨n, rfl⟩ := isK_int hk
  obtain rfl := rep_im h
  exact .inr ⟨n, rfl, rfl⟩
theorem bounds_run {lo hi : Option V} {lo' hi' : Option Value} {isS : Bool} {len cap : Nat} (hl : RepOp (vers s) β lo lo') (hh : RepOp (vers s) β hi hi')
  (kl : lo.elim true (V.isK (.int .i64)) = true) (kh : hi.elim true (V.isK (.int .i64)) = true) (h0 : 0 ≤ lo.elim 0 V.int) (h1 : lo.elim 0 V.int ≤ hi.elim (len : Int) V.int)
  (h2 : hi.elim (len : Int) V.int ≤ cap) : (Instr.sliceBounds isS len cap lo' hi' none).run P w = .ok ((lo.elim 0 V.int).toNat, (hi.elim (len : Int) V.int).toNat, cap) w := by
 unfold Instr.sliceBounds
 rcases hh.int kh with ⟨rfl, rfl⟩ | ⟨m, rfl, rfl⟩ <;> rcases hl.int kl with ⟨rfl, rfl⟩ | ⟨n, rfl, rfl⟩
 ·simp
 ·simp only [Sem.run_bind, Sem.run_pure, Result.andThen_ok, Option.isSome_none]
  have h0' : 0 ≤ n := h0
  have h1' : n ≤ (len : Int) := h1
  rw [bound_run h0' h1']
  simp [V.int, Value.asInt]
 ·have h0' : 0 ≤ m := h1
  have h2' : m ≤ (cap : Int) := h2
  simp only [Sem.run_bind, Sem.run_pure, Result.andThen_ok, Option.isSome_none]
  rw [bound_run h0' h2']
  simp [V.int, Value.asInt]
 ·have h0' : 0 ≤ n := h0
  have h1' : n ≤ m := h1
  have h2' : m ≤ (cap : Int) := h2
  simp only [Sem.run_bind, Sem.run_pure, Result.andThen_ok, Option.isSome_none]
  rw [bound_run (by omega) h2']
  simp only [Result.andThen_ok, Sem.run_bind]
  rw [bound_run h0' (by omega)]
  simp [V.int, Value.asInt]
theorem idxK_run {α : Type} {i : V} {k : Int → H α} {r : α × Objs × List (Bool × Nat)} (h : (idxK i k).run s fp = some r) : ∃ n, i = .im (.int .i64 n) ∧ (k n).run s fp = some r := by
 unfold idxK at h
 split at h
 ·exact ⟨_, rfl, h⟩
 ·cases h
theorem optK_run {α : Type} {o : Option V} {d : Int} {k : Int → H α} {r : α × Objs × List (Bool × Nat)} (h : (optK o d k).run s fp = some r) :
  o.elim true (V.isK (.int .i64)) = true ∧ (k (o.elim d V.int)).run s fp = some r := by
 unfold optK at h
 split at h
 ·exact ⟨rfl, h⟩
 ·obtain ⟨n, rfl, h⟩ := idxK_run h
  exact ⟨rfl, h⟩
theorem cutV_sound {esz : Nat} {t : TypeId} {lo hi mx : Option V} {lo' hi' mx' : Option Value} {a : V} {x : Value} {r : V × Objs × List (Bool × Nat)}
  (ht : (P.underlying t = some .string ∧ ∃ y, a = .im y) ∨ ((∃ e, P.underlying t = some (.slice e) ∧ hasU P e = true ∧ sizeP P e = esz) ∧ ∀ y, a ≠ .im y))
  (hl : RepOp (vers s) β lo lo') (hh : RepOp (vers s) β hi hi') (hm : RepOp (vers s) β mx mx') (ha : RepV (vers s) β a x) (h : (cutV esz lo hi mx a).run s fp = some r) :
  ∃ z, (Instr.sliceAt t x lo' hi' mx').run P w = .ok z w ∧ RepV (vers s) β r.1 z ∧ r.2.1 = s := by
 unfold cutV at h
 simp only [sLe_eq, sEq_eq, sSub'_eq] at h
 have hok : mx.isNone = true → mx' = none := by
  intro h3
  cases hm with
  | nn => rfl
  | ss => cases h3
 split at h
 ·-- a string
  rename_i st
  rcases ht with ⟨ht, _⟩ | ⟨_, hne⟩
  ·obtain rfl := rep_im ha
   obtain ⟨kl, h⟩ := optK_run h
   obtain ⟨kh, h⟩ := optK_run h
   obtain ⟨hc, h2⟩ := chk_run h
   obtain rfl := ret_run h2
   simp only [Bool.and_eq_true, decide_eq_true_eq] at hc
   obtain ⟨⟨⟨hk, h0⟩, h1⟩, h3⟩ := hc
   obtain rfl := hok hk
   refine ⟨.string (st.extract (lo.elim 0 V.int).toNat (hi.elim (st.size : Int) V.int).toNat), ?_, ?_, rfl⟩
   ·simp only [Instr.sliceAt, Sem.run_bind, run_underlying ht, Result.andThen_ok, Instr.slice, Option.isSome_none, Bool.false_eq_true, if_false]
    rw [bounds_run hl hh kl kh h0 h1 h3]
    rfl
   ·exact .im trivial
  ·exact absurd rfl (hne _)
 ·-- a slice
  rename_i id e off len sz
  rcases ht with ⟨_, y, hy⟩ | ⟨⟨el, ht, hu, hsz⟩, _⟩
  ·cases hy
  ·have hu' : ∃ d, P.underlying el = some d := Option.isSome_iff_exists.1 hu
   have key : ∀ (hk : lo.elim true (V.isK (.int .i64)) = true) (hk' : hi.elim true (V.isK (.int .i64)) = true) (e2 : Bool), sz = esz → 0 ≤ lo.elim 0 V.int → lo.elim 0 V.int ≤ hi.elim (len : Int) V.int → hi.elim (len : Int) V.int ≤ len →
     (e2 = true → e = true ∧ hi.elim (len : Int) V.int = len) →
     ∃ z, (Instr.sliceAt t x lo' hi' none).run P w = .ok z w ∧ RepV (vers s) β (.sl id e2 ((lo.elim 0 V.int).toNat + off) ((hi.elim (len : Int) V.int).toNat - (lo.elim 0 V.int).toNat) sz) z := by
    intro hk hk' e2 hs h0 h1 h3 he
    generalize hL : (lo.elim 0 V.int).toNat = L
    generalize hH : (hi.elim (len : Int) V.int).toNat = HH
    have hLH : L ≤ HH := by omega
    have hHl : HH ≤ len := by omega
    cases ha with
    | sl0 hz hv hb =>
     refine ⟨.slice none (HH - L) (0 - L), ?_, ?_⟩
     ·simp only [Instr.sliceAt, Sem.run_bind, run_underlying ht, Result.andThen_ok, Instr.slice]
      rw [bounds_run hl hh hk hk' h0 h1 h3, hL, hH]
      simp only [Result.andThen_ok, run_sizeP hu', Sem.run_pure]
      have : L = 0 := by omega
      subst this
      simp
     ·have h1 : L = 0 := by omega
      have h2 : HH = 0 := by omega
      subst h1 h2
      exact .sl0 hz hv hb
    | @se _ _ _ a0 a' hv hb =>
     refine ⟨.slice (some a') (HH - L) (0 - L), ?_, ?_⟩
     ·simp only [Instr.sliceAt, Sem.run_bind, run_underlying ht, Result.andThen_ok, Instr.slice]
      rw [bounds_run hl hh hk hk' h0 h1 h3, hL, hH]
      simp only [Result.andThen_ok, run_sizeP hu', Sem.run_pure]
      have : L = 0 := by omega
      subst this
      simp
     ·have h1 : L = 0 := by omega
      have h2 : HH = 0 := by omega
      subst h1 h2
      exact .se hv hb
    | sl hv hb p1 p2 p3 p4 p5 =>
     rename_i b o n cap o' cap'
     have hcap : hi.elim (len : Int) V.int ≤ (cap' : Int) := by omega
     refine ⟨.slice (if cap' = L then some ⟨b, o', none⟩ else some ⟨b, o' + L * sz, none⟩) (HH - L) (cap' - L), ?_, ?_⟩
     ·simp only [Instr.sliceAt, Sem.run_bind, run_underlying ht, Result.andThen_ok, Instr.slice]
      rw [bounds_run hl hh hk hk' h0 h1 hcap, hL, hH]
      simp only [Result.andThen_ok, run_sizeP hu', Sem.run_pure, hsz, ← hs, Option.map_some, add_addr]
     ·have he' : e2 = true → L + off + (HH - L) = n ∧ L + off + (cap' - L) = cap := by
       intro h
       obtain ⟨h1, h2⟩ := he h
       have := p4 h1
       omega
      by_cases hc : cap' = L
      ·rw [if_pos hc]
       refine .sl hv hb (by omega) (by omega) (by omega) he' (.inr ⟨by omega, ?_⟩)
       rcases p5 with p5 | ⟨p5, p6⟩
       ·have : off * sz ≤ cap * sz := Nat.mul_le_mul_right _ (by omega)
        omega
       ·exact p6
      ·rw [if_neg hc]
       refine .sl hv hb (by omega) (by omega) (by omega) he' (.inl ?_)
       rcases p5 with p5 | ⟨p5, p6⟩
       ·rw [p5, Nat.add_mul]; omega
       ·omega
   obtain ⟨kl, h⟩ := optK_run h
   cases hi with
   | none =>
    obtain ⟨hc, h2⟩ := chk_run h
    obtain rfl := ret_run h2
    simp only [Bool.and_eq_true, decide_eq_true_eq] at hc
    obtain ⟨⟨⟨hk, hs⟩, h0⟩, h1⟩ := hc
    obtain rfl := hok hk
    have := key kl rfl e (beq_eq hs) h0 (by simpa using h1) (by simp) (fun h => ⟨h, by simp⟩)
    simpa using this
   | some hv =>
    obtain ⟨m, rfl, h⟩ := idxK_run h
    obtain ⟨hc, h2⟩ := chk_run h
    obtain rfl := ret_run h2
    simp only [Bool.and_eq_true, decide_eq_true_eq] at hc
    obtain ⟨⟨⟨⟨hk, hs⟩, h0⟩, h1⟩, h3⟩ := hc
    obtain rfl := hok hk
    have := key kl rfl false (beq_eq hs) h0 (by simpa [V.int, Value.asInt] using h1) (by simpa [V.int, Value.asInt] using h3) (by simp)
    simpa [V.int, Value.asInt] using this
 ·-- nil
  rename_i sz
  rcases ht with ⟨_, y, hy⟩ | ⟨⟨el, ht, hu, hsz⟩, _⟩
  ·cases hy
  ·have hu' : ∃ d, P.underlying el = some d := Option.isSome_iff_exists.1 hu
   obtain ⟨kl, h⟩ := optK_run h
   obtain ⟨kh, h⟩ := optK_run h
   obtain ⟨hc, h2⟩ := chk_run h
   obtain rfl := ret_run h2
   simp only [Bool.and_eq_true, decide_eq_true_eq] at hc
   obtain ⟨⟨hk, h0⟩, h1⟩ := hc
   obtain rfl := hok hk
   cases ha
   have hh0 : hi.elim ((0 : Nat) : Int) V.int = 0 := by cases hi with | none => rfl | some y => simpa using h1
   refine ⟨.slice none 0 0, ?_, .nl, rfl⟩
   simp only [Instr.sliceAt, Sem.run_bind, run_underlying ht, Result.andThen_ok, Instr.slice]
   rw [bounds_run hl hh kl kh (by omega) (by omega) (by omega), h0, hh0]
   simp [run_sizeP hu']
 ·cases h
theorem sizePos_run {t : TypeId} (h : 0 < sizeP P t) : (sizeOf t).run P w = .ok (sizeP P t) w := by
 unfold sizeP at h ⊢
 cases hi : P.info? t with
 | none => rw [hi] at h; cases h
 | some i => simp [sizeOf, typeInfo, hi]
theorem indexAddr_sound {t : TypeId} {a i : V} {x y : Value} {r : V × Objs × List (Bool × Nat)} (ha : RepV (vers s) β a x) (hi : RepV (vers s) β i y) (h : (indexAddrH P t a i).run s fp = some r) :
  ∃ z, (Instr.indexAt t x y).run P w = .ok z w ∧ RepV (vers s) β r.1 z ∧ r.2.1 = s := by
 unfold indexAddrH at h
 simp only [sLe_eq, sLt_eq] at h
 split at h
 ·rename_i e id e' off len sz hu
  obtain ⟨n, rfl, hi'⟩ := idxK_run h
  clear h
  obtain ⟨hc, h2⟩ := chk_run hi'
  clear hi'
  obtain rfl := ret_run h2
  simp only [Bool.and_eq_true, decide_eq_true_eq] at hc
  obtain ⟨⟨⟨h0, h1⟩, hs⟩, hp⟩ := hc
  obtain rfl := rep_im hi
  have hs := beq_eq hs
  have hp : 0 < sizeP P e := by simpa [Nat.blt_eq] using hp
  have h0 : 0 ≤ n := h0
  have h1 : n < (len : Int) := h1
  cases ha with
  | sl0 => exact absurd h1 (by omega)
  | se => exact absurd h1 (by omega)
  | sl hv hb p1 p2 p3 p4 p5 =>
   rename_i b o m cap o' cap'
   refine ⟨.pointer (some ⟨b, o' + n.toNat * sz, none⟩), ?_, ?_, rfl⟩
   ·simp only [Instr.indexAt, Sem.run_bind, run_underlying hu, Result.andThen_ok, asIntOf, Sem.run_pure]
    rw [if_pos ⟨h0, h1⟩]
    simp only [Sem.run_bind, sizePos_run hp, Result.andThen_ok, Sem.run_pure, add_addr, hs]
   ·rcases p5 with p5 | ⟨p5, _⟩
    ·have : o' + n.toNat * sz = o + (n.toNat + off) * sz + 0 := by rw [p5, Nat.add_mul]; omega
     show RepV _ _ (.pt id sz (n.toNat + off) 0) _
     rw [this]
     exact .pts hv hb (by omega)
    ·omega
 ·rename_i n e id sz i' j hu
  obtain ⟨m, rfl, hi'⟩ := idxK_run h
  clear h
  obtain ⟨hc, h2⟩ := chk_run hi'
  clear hi'
  obtain rfl := ret_run h2
  simp only [Bool.and_eq_true, decide_eq_true_eq] at hc
  obtain ⟨⟨h0, h1⟩, hp⟩ := hc
  obtain rfl := rep_im hi
  have hp : 0 < sizeP P e := by simpa [Nat.blt_eq] using hp
  have h0 : 0 ≤ m := h0
  have h1 : m < (n : Int) := h1
  cases ha with
  | ptb hv hb =>
   rename_i b
   refine ⟨.pointer (some ⟨b, j + m.toNat * sizeP P e, none⟩), ?_, ?_, rfl⟩
   ·simp only [Instr.indexAt, Sem.run_bind, run_underlying hu, Result.andThen_ok, asIntOf, Sem.run_pure, Instr.sureAddr]
    rw [if_pos ⟨h0, h1⟩]
    simp only [Sem.run_bind, sizePos_run hp, Result.andThen_ok, Sem.run_pure, add_addr]
   ·show RepV _ _ (.pt id sz 0 (m.toNat * sizeP P e + j)) _
    rw [Nat.add_comm]
    exact .ptb hv hb
  | pts hv hb hlt =>
   rename_i b o m' cap
   refine ⟨.pointer (some ⟨b, o + i' * sz + j + m.toNat * sizeP P e, none⟩), ?_, ?_, rfl⟩
   ·simp only [Instr.indexAt, Sem.run_bind, run_underlying hu, Result.andThen_ok, asIntOf, Sem.run_pure, Instr.sureAddr]
    rw [if_pos ⟨h0, h1⟩]
    simp only [Sem.run_bind, sizePos_run hp, Result.andThen_ok, Sem.run_pure, add_addr]
   ·show RepV _ _ (.pt id sz i' (m.toNat * sizeP P e + j)) _
    have : o + i' * sz + j + m.toNat * sizeP P e = o + i' * sz + (m.toNat * sizeP P e + j) := by omega
    rw [this]
    exact .pts hv hb hlt
 ·cases h
theorem fieldOf_spec {st : TypeId} {k off n : Nat} {agg : Bool} (h : fieldOf P st k = some (off, n, agg)) :
  ∃ fs f, P.underlying st = some (.struct fs) ∧ fs[k]? = some f ∧ f.offset = off ∧ sizeP P f.type = n ∧ isAggT P f.type = agg ∧ ∃ d, P.underlying f.type = some d := by
 unfold fieldOf at h
 split at h
 ·rename_i fs hu
  split at h
  ·rename_i f hf
   cases hh : hasU P f.type with
   | false => rw [hh] at h; cases h
   | true =>
    rw [hh] at h
    simp only [cond_true, Option.some.injEq, Prod.mk.injEq] at h
    exact ⟨fs, f, hu, hf, h.1, h.2.1, h.2.2, Option.isSome_iff_exists.1 hh⟩
  ·cases h
 ·cases h
theorem fieldAddr_run {st : TypeId} {k off n : Nat} {agg : Bool} (h : fieldOf P st k = some (off, n, agg)) (hn : 0 < n) (b o : Nat) :
  (Instr.fieldAt st (.pointer (some ⟨b, o, none⟩)) k).run P w = .ok (.pointer (some ⟨b, o + off, none⟩)) w := by
 obtain ⟨fs, f, hu, hf, rfl, rfl, _, _⟩ := fieldOf_spec h
 simp only [Instr.fieldAt, Sem.run_bind, run_underlying hu, Result.andThen_ok, hf, Instr.sureAddr, Sem.run_pure, fieldPlace, sizePos_run hn]
 rw [if_neg (by omega)]
 simp only [Sem.run_pure, Result.andThen_ok, add_addr]
theorem part_run {t : TypeId} (hu : ∃ d, P.underlying t = some d) {xs : Array Value} {off : Nat} (hb : off + sizeP P t ≤ xs.size) (h1 : isAggT P t = true ∨ sizeP P t = 1) :
  ∃ z, (part t xs off).run P w = .ok z w ∧ (isAggT P t = true → z = .agg (xs.extract off (off + sizeP P t))) ∧ (isAggT P t = false → xs[off]? = some z) := by
 unfold part
 simp only [Sem.run_bind, run_isAggT hu, Result.andThen_ok]
 cases ha : isAggT P t with
 | true =>
  simp only [if_true, Sem.run_bind, run_sizeP hu, Result.andThen_ok, Sem.run_pure]
  exact ⟨_, rfl, fun _ => rfl, fun h => by cases h⟩
 | false =>
  rcases h1 with h1 | h1
  ·rw [ha] at h1; cases h1
  ·simp only [Bool.false_eq_true, if_false]
   have : off < xs.size := by omega
   refine ⟨xs[off], ?_, (fun h => by cases h), fun _ => by simp [this]⟩
   simp [Array.getElem?_eq_getElem this]
theorem wrap_rep {vr : Nat → Nat} {agg : Bool} {vs : List V} {xs : Array Value} {off n : Nat} {z : Value} (hl : vs.length = xs.size) (hf : ∀ (i : Nat) (x : Value), xs[i]? = some x → flat x)
  (h : ∀ (i : Nat) (v : V) (x : Value), vs[i]? = some v → xs[i]? = some x → RepV vr β v x) (hb : off + n ≤ xs.size) (h1 : agg = true ∨ n = 1)
  (za : agg = true → z = .agg (xs.extract off (off + n))) (zb : agg = false → xs[off]? = some z) : RepV vr β (wrapAg agg ((vs.drop off).take n)) z := by
 cases agg with
 | true =>
  obtain rfl := za rfl
  simp only [wrapAg, cond_true]
  refine .ag (by simp; omega) (fun i x hx => ?_) fun i v x hv hx => ?_
  ·rw [Array.getElem?_extract] at hx
   split at hx
   ·exact hf _ _ hx
   ·cases hx
  ·rw [List.getElem?_take, List.getElem?_drop] at hv
   rw [Array.getElem?_extract] at hx
   split at hv
   ·split at hx
    ·exact h _ _ _ hv hx
    ·cases hx
   ·cases hv
 | false =>
  have h1 : n = 1 := by simpa using h1
  subst h1
  have hz := zb rfl
  simp only [wrapAg, cond_false]
  have : ((vs.drop off).take 1).getD 0 .no = vs.getD off .no := by
   simp [List.getD, List.getElem?_drop]
  rw [this]
  have hlt : off < vs.length := by omega
  simp only [List.getD, List.getElem?_eq_getElem hlt, Option.getD_some]
  exact h off _ z (List.getElem?_eq_getElem hlt) hz
theorem eqTyOk_len : ∀ {fs : List Field} {n : Nat} {vs : List V}, eqTyOk P fs n vs = true → vs.length = fs.length
 | [], n, [], _ => rfl
 | f :: fs, n, v :: vs, h => by
  rw [eqTyOk, Bool.and_eq_true] at h
  rw [List.length_cons, List.length_cons, eqTyOk_len h.2]
 | [], _, _ :: _, h => by cases h
 | _ :: _, _, [], h => by cases h
theorem kindIs_eq {vr : Nat → Nat} {d : Nat} {t : TypeId} {u v : V} {a b : Value} (hu : kindIs (P.underlying t) u = true) (hv : kindIs (P.underlying t) v = true) (ha : RepV vr β u a) (hb : RepV vr β v b) :
  (Op.equalIn (d + 1) t a b).run P w = .ok (eqCell u v) w := by
 unfold kindIs at hu
 split at hu
 ·rename_i k k' n ht
  obtain rfl := rep_im ha
  rw [ht] at hv
  unfold kindIs at hv
  split at hv
  ·rename_i k2 k3 m e
   simp only [Option.some.injEq, TypeDesc.int.injEq] at e
   subst e
   obtain rfl := rep_im hb
   have h1 := of_decide_eq_true hu
   have h2 := of_decide_eq_true hv
   subst h1 h2
   rw [run_equalIn_int w d t _ _ _ _ ht]
   show _ = Result.ok (sEq _ _) w
   rw [sEq_eq]; rfl
  ·rename_i e; cases e
  ·rename_i e; cases e
  ·cases hv
 ·rename_i b0 ht
  obtain rfl := rep_im ha
  rw [ht] at hv
  unfold kindIs at hv
  split at hv
  ·rename_i e; cases e
  ·obtain rfl := rep_im hb
   rw [run_equalIn_bool' w d t _ _ ht]
   show _ = Result.ok (sBeq _ _) w
   rw [sBeq_eq]
  ·rename_i e; cases e
  ·cases hv
 ·rename_i s0 ht
  obtain rfl := rep_im ha
  rw [ht] at hv
  unfold kindIs at hv
  split at hv
  ·rename_i e; cases e
  ·rename_i e; cases e
  ·obtain rfl := rep_im hb
   rw [run_equalIn_string w d t _ _ ht]
   show _ = Result.ok (sSeq _ _) w
   rw [sSeq_eq]
  ·cases hv
 ·cases hu
theorem eqFields_run {vr : Nat → Nat} {d : Nat} {xs ys : Array Value} : ∀ (fs : List Field) (n : Nat) (us vs : List V), eqTyOk P fs n us = true → eqTyOk P fs n vs = true →
  (∀ (i : Nat) (v : V), us[i]? = some v → ∃ x, xs[n + i]? = some x ∧ RepV vr β v x) → (∀ (i : Nat) (v : V), vs[i]? = some v → ∃ x, ys[n + i]? = some x ∧ RepV vr β v x) →
  (Op.eqFields (d + 1) xs ys fs).run P w = .ok (eqCells us vs) w
 | [], n, [], [], _, _, _, _ => rfl
 | f :: fs, n, u :: us, v :: vs, hu, hv, h1, h2 => by
  rw [eqTyOk] at hu hv
  simp only [Bool.and_eq_true] at hu hv
  obtain ⟨⟨⟨⟨⟨hn, ho⟩, hsz⟩, hag⟩, hk⟩, hr⟩ := hu
  obtain ⟨⟨⟨⟨⟨_, _⟩, _⟩, _⟩, hk'⟩, hr'⟩ := hv
  have ho := beq_eq ho
  have hsz := beq_eq hsz
  obtain ⟨x, hx, rx⟩ := h1 0 u rfl
  obtain ⟨y, hy, ry⟩ := h2 0 v rfl
  rw [Nat.add_zero] at hx hy
  have hn : f.name ≠ "_" := by simpa using hn
  have hagf : isAggT P f.type = false := by simpa using hag
  have hud : ∃ d, P.underlying f.type = some d := by
   unfold kindIs at hk
   split at hk
   ·rename_i e; exact ⟨_, e⟩
   ·rename_i e; exact ⟨_, e⟩
   ·rename_i e; exact ⟨_, e⟩
   ·cases hk
  have hxs := (Array.getElem?_eq_some_iff.1 hx).1
  have hys := (Array.getElem?_eq_some_iff.1 hy).1
  obtain ⟨z, hz, _, zb⟩ := part_run (P := P) (w := w) hud (xs := xs) (off := f.offset) (by omega) (.inr hsz)
  obtain ⟨z', hz', _, zb'⟩ := part_run (P := P) (w := w) hud (xs := ys) (off := f.offset) (by omega) (.inr hsz)
  have e1 : z = x := by have := zb hagf; rw [ho, hx] at this; exact (Option.some.inj this).symm
  have e2 : z' = y := by have := zb' hagf; rw [ho, hy] at this; exact (Option.some.inj this).symm
  subst e1 e2
  rw [Op.eqFields, if_pos hn]
  simp only [Sem.run_bind, hz, hz', Result.andThen_ok, kindIs_eq hk hk' rx ry]
  show _ = Result.ok (eqCell u v && eqCells us vs) w
  cases eqCell u v with
  | false => simp
  | true =>
   simp only [Bool.not_true, Bool.false_eq_true, if_false, Bool.true_and]
   exact eqFields_run fs (n + 1) us vs hr hr' (fun i v hv => by
    obtain ⟨x, hx, hr⟩ := h1 (i + 1) v (by simpa using hv)
    exact ⟨x, by rw [← hx]; congr 1; omega, hr⟩) (fun i v hv => by
    obtain ⟨x, hx, hr⟩ := h2 (i + 1) v (by simpa using hv)
    exact ⟨x, by rw [← hx]; congr 1; omega, hr⟩)
 | [], _, _ :: _, _, h, _, _, _ => by cases h
 | [], _, [], _ :: _, _, h, _, _ => by cases h
 | _ :: _, _, [], _, h, _, _, _ => by cases h
 | _ :: _, _, _ :: _, [], _, h, _, _ => by cases h
theorem eqAg_sound {op : BinOp} {t : TypeId} {fs : Array Field} {x y : Operand} {us vs : List V} {va vb : Value} {r : V × Objs × List (Bool × Nat)} (ha : RepV (vers s) β (.ag us) va) (hb : RepV (vers s) β (.ag vs) vb)
  (ht : P.underlying t = some (.struct fs)) (h : (eqAgV P t fs.toList op us vs).run s fp = some r) :
  ∃ z, ((do eqGuard op t x y va vb; binOp op t va vb : Sem Value)).run P w = .ok z w ∧ r.1 = .im z ∧ flat z ∧ r.2.1 = s := by
 unfold eqAgV at h
 obtain ⟨hc, h⟩ := chk_run h
 simp only [Bool.and_eq_true] at hc
 obtain ⟨⟨⟨h1, h2⟩, h3⟩, h4⟩ := hc
 have h3 : P.stoodInHeld t = false := by simpa using h3
 have h4 : P.eqGuardType P.depth t = false := by simpa using h4
 cases ha with
 | @ag _ xs hl hf hr =>
 cases hb with
 | @ag _ ys hl' hf' hr' =>
 have hfs : P.fieldsOf t = fs := by unfold Program.fieldsOf; rw [ht]
 have ht' : P.underlying t = some (.struct (P.fieldsOf t)) := by rw [hfs]; exact ht
 have he : (Op.equalIn 10000 t (.agg xs) (.agg ys)).run P w = .ok (eqCells us vs) w := by
  rw [show 10000 = 9999 + 1 from rfl, run_equalIn_struct w 9999 t xs ys ht' h3, hfs]
  exact eqFields_run fs.toList 0 us vs h1 h2 (fun i v hv => by
   have hi := (List.getElem?_eq_some_iff.1 hv).1
   have hx : xs[i]? = some xs[i] := Array.getElem?_eq_getElem (by omega)
   exact ⟨_, by rw [Nat.zero_add]; exact hx, hr i v _ hv hx⟩) (fun i v hv => by
   have hi := (List.getElem?_eq_some_iff.1 hv).1
   have hx : ys[i]? = some ys[i] := Array.getElem?_eq_getElem (by omega)
   exact ⟨_, by rw [Nat.zero_add]; exact hx, hr' i v _ hv hx⟩)
 simp only [Sem.run_bind, run_eqGuard_agg w op t x y xs ys h4, Result.andThen_ok]
 cases op with
 | eql =>
  obtain rfl := ret_run h
  refine ⟨.bool (eqCells us vs), ?_, rfl, trivial, rfl⟩
  rw [run_eql_struct, he]; rfl
 | neq =>
  obtain rfl := ret_run h
  refine ⟨.bool (!eqCells us vs), ?_, rfl, trivial, rfl⟩
  rw [run_neq_struct, he]; rfl
 | _ => cases h
end Go.Vm
namespace Go.Vm
set_option linter.unusedVariables false
set_option linter.unusedSimpArgs false
variable {P : Program} {X : Cx} {FZ : Nat → Prop} {β : Nat → Value} {s s' : Objs} {w : World} {v : V} {fp fp' : List (Bool × Nat)} {pend : List (T × Value)}
theorem OK.newLink (h : OK X w FZ β s pend) {q x i j : Nat} (hq : (s q).ver = 0) {f : Fl} {sz : Nat} {rs : List (List T)} (hx : (s x).o = some (.rows f sz rs)) {t : T} (ht : At rs i j t)
  {b o n cap : Nat} {c : Array Value} {y : Value} (hb : β x = .slice (some ⟨b, o, none⟩) n cap) (hr : Rw w b c) (hc : c[o + i * sz + j]? = some y) :
  OK X w FZ (upd β q y) (putS s q true (some (.link x (s x).ver i j))) pend := by
 have hxq : x ≠ q := fun e => by subst e; have := h.live _ _ hx; omega
 have hget : ∀ id o, (putS s q true (some (.link x (s x).ver i j)) id).o = some o → (id = q ∧ o = .link x (s x).ver i j) ∨ (id ≠ q ∧ (s id).o = some o) := by
  intro id o ho
  by_cases e : id = q
  ·subst e; simp at ho; exact .inl ⟨rfl, ho.symm⟩
  ·rw [putS_ne _ _ _ e] at ho; exact .inr ⟨e, ho⟩
 refine h.move ?_ ?_ h.pow id ?_ (fun u u' b hne e => absurd e hne)
 ·intro id o ho
  rcases hget id o ho with ⟨rfl, rfl⟩ | ⟨hne, ho⟩
  ·refine ⟨by rw [putS_ne _ _ _ hxq]; exact Nat.le_refl _, h.live _ _ hx, fun _ f' sz' rs' hx' => ?_⟩
   rw [putS_ne _ _ _ hxq, hx] at hx'
   injection hx' with hx'
   injection hx' with e1 e2 e3
   subst e1 e2 e3
   exact ⟨⟨t, ht⟩, b, _, n, cap, c, by rw [upd_ne _ _ hxq]; exact hb, hr.rw, by rw [upd_same]; exact hc⟩
  ·exact h.rep_new hq _ _ id o hne ho
 ·intro id o ho
  rcases hget id o ho with ⟨rfl, rfl⟩ | ⟨hne, ho⟩
  ·rw [putS_bump]; omega
  ·exact Nat.le_trans (h.live id o ho) (putS_ver _ _ _ _ _)
 ·rintro (id | k) b' ⟨o', ho, hbb⟩
  ·rcases hget id o' ho with ⟨rfl, rfl⟩ | ⟨hne, ho⟩
   ·exact False.elim hbb
   ·exact ⟨o', ho, Bl.ob_upd hq h.live _ ho hbb⟩
  ·exact ⟨o', ho, hbb⟩
theorem okK_im {f : Fl} {k : Kd} {t : T} (hk : ∀ sz, k ≠ .sl sz) (h : T.okK f k t = true) : ∃ v, t = .im v ∧ (T.etaK f k t).val = v := by
 cases k with
 | sl sz => exact absurd rfl (hk sz)
 | oth => cases t with
  | im v => cases v <;> cases h
  | sl => cases h
  | no => cases h
 | int k =>
  cases t with
  | im v =>
   cases v with
   | int k' n =>
    have : k = k' := by simpa [T.okK, Value.okK] using h
    subst this
    exact ⟨_, rfl, rfl⟩
   | _ => cases h
  | sl => cases h
  | no => cases h
 | bool =>
  cases t with
  | im v => cases v <;> first | exact ⟨_, rfl, rfl⟩ | cases h
  | sl => cases h
  | no => cases h
 | str =>
  cases t with
  | im v => cases v <;> first | exact ⟨_, rfl, rfl⟩ | cases h
  | sl => cases h
  | no => cases h
theorem head_rep {vr : Nat → Nat} {β : Nat → Value} {q : Nat} {A : Nat → Prop} {f : Fl} {sz : Nat} {rws : List (List T)} {y : Value} (hz : q ≠ 7) (hv : 1 ≤ vr q) (hb : β q = y) (h : Im w A (.sl f sz rws) y) :
  RepV vr β (.sl q true 0 rws.length sz) y := by
 cases h with
 | nil => exact .sl0 hz hv hb
 | emp => exact .se hv hb
 | sl hr ha hl hbd hw hc => exact .sl hv hb (by omega) (by omega) hl (fun _ => by omega) (.inl (by omega))
theorem Ow.cellAt {RO FZ : Nat → Prop} {f : Fl} {sz i j b o n cap : Nat} {rs : List (List T)} {t : T} (h : Ow w RO FZ (.sl f sz rs) (.slice (some ⟨b, o, none⟩) n cap)) (ht : At rs i j t) :
  ∃ c y, Rw w b c ∧ c[o + i * sz + j]? = some y ∧ Im w (fun b' => Blk w (.sl f sz rs) (.slice (some ⟨b, o, none⟩) n cap) b' ∨ RO b' ∨ FZ b') t y := by
 have h0 := Ow.pos h ⟨t, ht⟩
 obtain ⟨hn, ⟨c, hr, hl, hb, hw⟩, _⟩ := h.head h0
 obtain ⟨r, hri, hrj⟩ := ht
 have hi := (List.getElem?_eq_some_iff.1 hri).1
 have hj := (List.getElem?_eq_some_iff.1 hrj).1
 rw [hw r (List.mem_of_getElem? hri)] at hj
 have hlt : o + i * sz + j < c.size := by
  have h1 : (i + 1) * sz ≤ cap * sz := Nat.mul_le_mul_right _ (by omega)
  rw [Nat.add_mul] at h1
  omega
 refine ⟨c, c[o + i * sz + j], hr, Array.getElem?_eq_getElem hlt, ?_⟩
 rcases h.atCell hr ⟨r, hri, hrj⟩ (Array.getElem?_eq_getElem hlt) with ⟨rfl, ho⟩ | ⟨rfl, hi⟩ | ⟨rfl, hi⟩
 ·exact ho.im'.mono (fun b' hb' => hb'.imp (fun hb' => .deep h0 hr ⟨r, hri, hrj⟩ (Array.getElem?_eq_getElem hlt) hb') fun h => h) fun _ _ => rfl
 ·exact hi.mono (fun b' hb' => .inr (.inl hb')) fun _ _ => rfl
 ·exact hi.mono (fun b' hb' => .inr (.inr hb')) fun _ _ => rfl
theorem rdCells_sound {id ver i : Nat} {rs : List (List T)} {f : Fl} {sz b o n0 cap : Nat} {c : Array Value} : ∀ (ks : List Kd) (j n : Nat) (k : List V → H V) {s : Objs} {β : Nat → Value} {fp : List (Bool × Nat)} {r : V × Objs × List (Bool × Nat)},
  7 < n → OK X w FZ β s [] → (s id).o = some (.rows f sz rs) → (s id).ver = ver → β id = .slice (some ⟨b, o, none⟩) n0 cap → Rw w b c → okCells ks rs i j = true → (rdCells id ver i rs ks j n k).run s fp = some r →
  ∃ vs s' β' fp', (k vs).run s' fp' = some r ∧ OK X w FZ β' s' [] ∧ (∀ i, 1 ≤ (s i).ver → 1 ≤ (s' i).ver ∧ β' i = β i) ∧ vs.length = ks.length ∧ (∀ m, m < ks.length → o + i * sz + j + m < c.size) ∧
   (∀ (m : Nat) (u : V) (x : Value), vs[m]? = some u → c[o + i * sz + j + m]? = some x → RepV (vers s') β' u x ∧ flat x)
 | [], j, n, k, s, β, fp, r, h7, hO, hid, hver, hb, hrow, hok, h => ⟨[], s, β, fp, h, hO, fun i hi => ⟨hi, rfl⟩, rfl, fun m hm => by simp at hm, fun m u x hu => by simp at hu⟩
 | kd :: ks, j, n, k, s, β, fp, r, h7, hO, hid, hver, hb, hrow, hok, h => by
  have hx : Ow w X.RO FZ (.sl f sz rs) (β id) := hO.rep _ _ hid
  rw [hb] at hx
  by_cases hk : ∃ sz', kd = .sl sz'
  ·obtain ⟨sz', rfl⟩ := hk
   simp only [rdCells] at h
   rw [okCells, Bool.and_eq_true] at hok
   have hc := hok.1
   have h2 := h
   simp only [sCell_eq, rT_eq, sLen_eq] at h2
   obtain ⟨f', rws, ht⟩ := isSl_spec hc
   have hat : At rs i j (.sl f' sz' rws) := by rw [← ht]; exact At.of_cell (by rw [ht]; simp)
   rw [ht] at h2
   simp only [H.run] at h2
   cases hq : Nat.beq (s n).ver 0 with
   | false => rw [hq] at h2; cases h2
   | true =>
    rw [hq] at h2
    have hq := beq_eq hq
    obtain ⟨c', y, hr', hcy, hy⟩ := hx.cellAt hat
    obtain rfl := hrow.inj hr'
    have hidn : id ≠ n := fun e => by subst e; have := hO.live _ _ hid; omega
    have hO' := hO.newLink hq hid hat hb hrow hcy
    rw [hver] at hO'
    obtain ⟨vs, s', β', fp', h3, hO2, hext, hlen, hbd, hvs⟩ := rdCells_sound (sz := sz) (f := f) ks (j + 1) (n + 1) _ (by omega) hO' (by rw [putS_ne _ _ _ hidn]; exact hid) (by rw [putS_ne _ _ _ hidn]; exact hver)
     (by rw [upd_ne _ _ hidn]; exact hb) hrow hok.2 h2
    have hvn : 1 ≤ (putS s n true (some (.link id ver i j)) n).ver := by rw [putS_bump]; omega
    refine ⟨_, s', β', fp', h3, hO2, fun i' hi' => ?_, by simp [hlen], fun m hm => ?_, fun m u x hu hx' => ?_⟩
    ·have hne : i' ≠ n := fun e => by subst e; omega
     have := hext i' (by rw [putS_ne _ _ _ hne]; exact hi')
     exact ⟨this.1, this.2.trans (upd_ne _ _ hne)⟩
    ·cases m with
     | zero => exact (Array.getElem?_eq_some_iff.1 hcy).1
     | succ m => have := hbd m (by simpa using hm); omega
    ·cases m with
     | zero =>
      simp only [List.getElem?_cons_zero, Option.some.injEq] at hu
      subst hu
      rw [Nat.add_zero, hcy] at hx'
      obtain rfl := Option.some.inj hx'
      have := hext n hvn
      refine ⟨head_rep (by omega) this.1 (this.2.trans (upd_same _ _ _)) hy, ?_⟩
      cases hy <;> trivial
     | succ m =>
      simp only [List.getElem?_cons_succ] at hu
      exact hvs m u x hu (by rw [← hx']; congr 1; omega)
  ·have hk' : ∀ sz, kd ≠ .sl sz := fun sz e => hk ⟨sz, e⟩
   have h2 : (rdCells id ver i rs ks (j + 1) (n + 1) fun vs => k (.im (T.etaK .own kd (cell rs i j)).val :: vs)).run s fp = some r := by
    cases kd <;> first | (simp only [rdCells, iT_eq, bT_eq, sT_eq, sCell_eq] at h; exact h) | exact absurd rfl (hk' _) | cases h
   have hok' : T.okK .own kd (cell rs i j) = true ∧ okCells ks rs i (j + 1) = true := by
    cases kd <;> first | (simpa only [okCells, Bool.and_eq_true] using hok) | exact absurd rfl (hk' _)
   have hc := hok'.1
   obtain ⟨v, ht, hv⟩ := okK_im hk' hc
   have hat : At rs i j (.im v) := by rw [← ht]; exact At.of_cell (by rw [ht]; simp)
   obtain ⟨c', y, hr', hcy, hy⟩ := hx.cellAt hat
   obtain rfl := hrow.inj hr'
   obtain ⟨vs, s', β', fp', h3, hO2, hext, hlen, hbd, hvs⟩ := rdCells_sound ks (j + 1) (n + 1) _ (by omega) hO hid hver hb hrow hok'.2 h2
   refine ⟨_, s', β', fp', h3, hO2, hext, by simp [hlen], fun m hm => ?_, fun m u x hu hx' => ?_⟩
   ·cases m with
    | zero => exact (Array.getElem?_eq_some_iff.1 hcy).1
    | succ m => have := hbd m (by simpa using hm); omega
   ·cases m with
    | zero =>
     simp only [List.getElem?_cons_zero, Option.some.injEq] at hu
     subst hu
     rw [Nat.add_zero, hcy] at hx'
     obtain rfl := Option.some.inj hx'
     rw [hv]
     cases hy with
     | im hf => exact ⟨.im hf, hf⟩
    | succ m =>
     simp only [List.getElem?_cons_succ] at hu
     exact hvs m u x hu (by rw [← hx']; congr 1; omega)
theorem rdFlat_sound {i : Nat} {rs : List (List T)} {A : Nat → Prop} {f : Fl} {sz b o n0 cap : Nat} {c : Array Value} (hx : Im w A (.sl f sz rs) (.slice (some ⟨b, o, none⟩) n0 cap)) (hrow : Rw w b c) :
  ∀ (ks : List Kd) (j : Nat) (k : List V → H V) {s : Objs} {fp : List (Bool × Nat)} {r : V × Objs × List (Bool × Nat)}, okCells ks rs i j = true → (rdFlat i rs ks j k).run s fp = some r →
  ∃ vs, (k vs).run s fp = some r ∧ vs.length = ks.length ∧ (∀ m, m < ks.length → o + i * sz + j + m < c.size) ∧
   (∀ (m : Nat) (u : V) (x : Value), vs[m]? = some u → c[o + i * sz + j + m]? = some x → RepV (vers s) β u x ∧ flat x)
 | [], j, k, s, fp, r, hok, h => ⟨[], h, rfl, fun m hm => by simp at hm, fun m u x hu => by simp at hu⟩
 | kd :: ks, j, k, s, fp, r, hok, h => by
  by_cases hk : ∃ sz', kd = .sl sz'
  ·obtain ⟨sz', rfl⟩ := hk
   cases h
  ·have hk' : ∀ sz, kd ≠ .sl sz := fun sz e => hk ⟨sz, e⟩
   have h2 : (rdFlat i rs ks (j + 1) fun vs => k (.im (T.etaK .own kd (cell rs i j)).val :: vs)).run s fp = some r := by
    cases kd <;> first | (simp only [rdFlat, iT_eq, bT_eq, sT_eq, sCell_eq] at h; exact h) | exact absurd rfl (hk' _) | cases h
   have hok' : T.okK .own kd (cell rs i j) = true ∧ okCells ks rs i (j + 1) = true := by
    cases kd <;> first | (simpa only [okCells, Bool.and_eq_true] using hok) | exact absurd rfl (hk' _)
   have hc := hok'.1
   obtain ⟨v, ht, hv⟩ := okK_im hk' hc
   have hat : At rs i j (.im v) := by rw [← ht]; exact At.of_cell (by rw [ht]; simp)
   obtain ⟨y, hcy, hy⟩ : ∃ y, c[o + i * sz + j]? = some y ∧ Im w A (.im v) y := by
    cases hx with
    | emp => obtain ⟨r, hri, _⟩ := hat; simp at hri
    | sl hr ha hl hb hw hcc =>
     obtain rfl := hr.inj hrow.rw
     obtain ⟨r, hri, hrj⟩ := hat
     have hi := (List.getElem?_eq_some_iff.1 hri).1
     have hj := (List.getElem?_eq_some_iff.1 hrj).1
     rw [hw r (List.mem_of_getElem? hri)] at hj
     have h1 : (i + 1) * sz ≤ cap * sz := Nat.mul_le_mul_right _ (by omega)
     rw [Nat.add_mul] at h1
     have hlt : o + i * sz + j < _ := Nat.lt_of_lt_of_le (by omega) hb
     exact ⟨_, Array.getElem?_eq_getElem hlt, hcc _ _ _ _ ⟨r, hri, hrj⟩ (Array.getElem?_eq_getElem hlt)⟩
   obtain ⟨vs, h3, hlen, hbd, hvs⟩ := rdFlat_sound hx hrow ks (j + 1) _ hok'.2 h2
   refine ⟨_, h3, by simp [hlen], fun m hm => ?_, fun m u x hu hx' => ?_⟩
   ·cases m with
    | zero => exact (Array.getElem?_eq_some_iff.1 hcy).1
    | succ m => have := hbd m (by simpa using hm); omega
   ·cases m with
    | zero =>
     simp only [List.getElem?_cons_zero, Option.some.injEq] at hu
     subst hu
     rw [Nat.add_zero, hcy] at hx'
     obtain rfl := Option.some.inj hx'
     rw [hv]
     cases hy with
     | im hf => exact ⟨.im hf, hf⟩
    | succ m =>
     simp only [List.getElem?_cons_succ] at hu
     exact hvs m u x hu (by rw [← hx']; congr 1; omega)
theorem loadVar_run {t : TypeId} (hu : ∃ d, P.underlying t = some d) {b off : Nat} {c : Array Value} (hr : Rw w b c) (hb : off + sizeP P t ≤ c.size) (h1 : isAggT P t = true ∨ sizeP P t = 1) :
  ∃ z, (Instr.loadAt t (.pointer (some ⟨b, off, none⟩))).run P w = .ok z w ∧ (isAggT P t = true → z = .agg (c.extract off (off + sizeP P t))) ∧ (isAggT P t = false → c[off]? = some z) := by
 simp only [Instr.loadAt, Instr.sureAddr, Sem.run_bind, Sem.run_pure, Result.andThen_ok, loadVar, run_isAggT hu]
 cases ha : isAggT P t with
 | true =>
  simp only [if_true, Sem.run_bind, run_sizeP hu, Result.andThen_ok, Sem.run_map, run_loadRow hr hb, Sem.run_pure]
  exact ⟨_, rfl, fun _ => rfl, fun h => by cases h⟩
 | false =>
  rcases h1 with h1 | h1
  ·rw [ha] at h1; cases h1
  ·simp only [Bool.false_eq_true, if_false]
   have : off < c.size := by omega
   refine ⟨c[off], ?_, (fun h => by cases h), fun _ => by simp [this]⟩
   rw [run_load, hr.cell, Array.getElem?_eq_getElem this]
theorem extract_again {c : Array Value} {p n : Nat} (h : p + n ≤ c.size) : (c.extract p (p + n)).extract 0 (0 + n) = c.extract p (p + n) := by
 rw [Nat.zero_add]
 exact Array.extract_eq_self_of_le (by simp; omega)
theorem load_sound {key : Nat} {t : TypeId} {p : V} {x : Value} {r : V × Objs × List (Bool × Nat)} (hO : OK X w FZ β s []) (hp : RepV (vers s) β p x) (h : (loadH P key t p).run s fp = some r) :
  ∃ z, (Instr.loadAt t x).run P w = .ok z w ∧ Post X FZ β s w r.1 r.2.1 z w := by
 unfold loadH at h
 split at h
 ·rename_i id sz i j
  simp only [H.run] at h
  split at h
  ·-- a box
   rename_i ro cells ho
   obtain ⟨hc, h2⟩ := chk_run h
   obtain rfl := ret_run h2
   simp only [Bool.and_eq_true, Bool.or_eq_true] at hc
   obtain ⟨⟨⟨hu, hb⟩, hi⟩, h1⟩ := hc
   have hi := beq_eq hi
   subst hi
   have hb := Nat.le_of_ble_eq_true hb
   have hu' : ∃ d, P.underlying t = some d := Option.isSome_iff_exists.1 hu
   obtain ⟨b, c, hβ, hrow, hsz, hcells, _⟩ := hO.rep _ _ ho
   cases hp with
   | pts hv hb' => rw [hβ] at hb'; cases hb'
   | ptb hv hb' =>
    rw [hβ] at hb'
    injection hb' with hb'
    injection hb' with hb'
    injection hb' with hb'
    subst hb'
    obtain ⟨z, hz, za, zb⟩ := loadVar_run (P := P) hu' hrow.rw (off := j) (by omega) (h1.imp (fun h => h) beq_eq)
    refine ⟨z, hz, Post.same hO ?_⟩
    refine wrap_rep (xs := c) hsz.symm (fun i x hx => ?_) (fun i v x hv hx => (hcells i v x hv hx).1) (by omega) (h1.imp (fun h => h) beq_eq) za zb
    have hlt := (Array.getElem?_eq_some_iff.1 hx).1
    exact (hcells i _ x (List.getElem?_eq_getElem (by omega)) hx).2
  ·-- rows
   rename_i f sz' rs ho
   obtain ⟨hc, h2⟩ := chk_run h
   simp only [Bool.and_eq_true, Bool.or_eq_true] at hc
   obtain ⟨⟨⟨⟨hu, hs⟩, hb⟩, hl⟩, h1⟩ := hc
   obtain ⟨hok, h2⟩ := chk_run h2
   rw [sOkC_eq] at hok
   have hs := beq_eq hs
   subst hs
   have hl := beq_eq hl
   have hu' : ∃ d, P.underlying t = some d := Option.isSome_iff_exists.1 hu
   cases hp with
   | ptb hv hb' =>
    have := hO.rep _ _ ho
    have hx : Ow w X.RO FZ (.sl f sz rs) (β id) := this
    rw [hb'] at hx
    cases hx with
    | ro h => cases h
    | fz h => cases h
   | pts hv hβ hlt =>
    rename_i b o n cap
    have hx : Ow w X.RO FZ (.sl f sz rs) (β id) := hO.rep _ _ ho
    rw [hβ] at hx
    have hlen := hx.len
    obtain ⟨hn, ⟨c, hrow, hl2, hbd, hw⟩, _⟩ := hx.head (by omega)
    obtain ⟨vs, s', β', fp', h3, hO2, hext, hlen, hbnd, hvs⟩ := rdCells_sound (ksOf P t) j (nKey key 0) _ (by unfold nKey; omega) hO ho rfl hβ hrow hok h2
    obtain rfl := ret_run h3
    have hsize : o + i * sz + j + sizeP P t ≤ c.size := by
     have hb := Nat.le_of_ble_eq_true hb
     have h1 : (i + 1) * sz ≤ cap * sz := Nat.mul_le_mul_right _ (by omega)
     rw [Nat.add_mul] at h1
     omega
    obtain ⟨z, hz, za, zb⟩ := loadVar_run (P := P) hu' hrow hsize (h1.imp (fun h => h) beq_eq)
    refine ⟨z, hz, β', FZ, hO2, hext, ?_, Wd.refl _ _ _⟩
    have hvs' : vs = (vs.drop 0).take (sizeP P t) := by
     rw [List.drop_zero, List.take_of_length_le (by omega)]
    show RepV _ _ (wrapAg _ vs) z
    rw [hvs']
    refine wrap_rep (xs := c.extract (o + i * sz + j) (o + i * sz + j + sizeP P t)) (by simp; omega) (fun m x hx => ?_) (fun m u x hu hx => ?_) (by simp; omega) (h1.imp (fun h => h) beq_eq) ?_ ?_
    ·rw [Array.getElem?_extract] at hx
     split at hx
     ·rename_i hm
      exact (hvs m _ x (List.getElem?_eq_getElem (by omega)) hx).2
     ·cases hx
    ·rw [Array.getElem?_extract] at hx
     split at hx
     ·exact (hvs m u x hu hx).1
     ·cases hx
    ·intro ha
     rw [za ha, extract_again hsize]
    ·intro ha
     rw [Array.getElem?_extract, if_pos (by
      have := (Array.getElem?_eq_some_iff.1 (zb ha)).1
      have := (h1.imp (fun h => h) beq_eq).resolve_left (by rw [ha]; simp)
      omega)]
     exact zb ha
  ·-- a link
   rename_i x ver i' j' ho
   simp only [H.run] at h
   split at h
   ·rename_i f szx rs hx
    obtain ⟨hc, h2⟩ := chk_run h
    simp only [Bool.and_eq_true, Bool.or_eq_true] at hc
    obtain ⟨⟨⟨⟨⟨⟨hu, hvv⟩, hb⟩, hl⟩, h1⟩, hsl⟩, hok⟩ := hc
    simp only [slT_eq, sCell_eq, rT_eq, sOkC_eq] at hsl hok h2
    have hvv := beq_eq hvv
    subst hvv
    have hl := beq_eq hl
    have hu' : ∃ d, P.underlying t = some d := Option.isSome_iff_exists.1 hu
    obtain ⟨f', rws, ht⟩ := isSl_spec hsl
    obtain ⟨hat, b0, o0, n0, cap0, c0, hb0, hrow0, hc0⟩ := hO.linked ho hx ht
    have hxr : Ow w X.RO FZ (.sl f szx rs) (β x) := hO.rep _ _ hx
    rw [hb0] at hxr
    obtain ⟨c1, y, hr1, hcy, hy⟩ := hxr.cellAt hat
    obtain rfl := hrow0.inj hr1.rw
    rw [hc0] at hcy
    obtain rfl := Option.some.inj hcy
    rw [ht] at h2 hok
    cases hp with
    | ptb hv hb' => rw [hb'] at hy; cases hy
    | pts hv hβ hlt =>
     rename_i b o n cap
     rw [hβ] at hy
     have hinfo : n = rws.length ∧ ∃ c, Rw w b c ∧ rws.length ≤ cap ∧ o + cap * sz ≤ c.size := by
      cases hy with
      | emp => omega
      | sl hr ha hl hbd hw hcc => exact ⟨rfl, _, hr, hl, hbd⟩
     obtain ⟨hn, c, hrow, hl2, hbd⟩ := hinfo
     obtain ⟨vs, h3, hlen, hbnd, hvs⟩ := rdFlat_sound (β := β) hy hrow (ksOf P t) j _ hok h2
     obtain rfl := ret_run h3
     have hsize : o + i * sz + j + sizeP P t ≤ c.size := by
      have hb := Nat.le_of_ble_eq_true hb
      have h1 : (i + 1) * sz ≤ cap * sz := Nat.mul_le_mul_right _ (by omega)
      rw [Nat.add_mul] at h1
      omega
     obtain ⟨z, hz, za, zb⟩ := loadVar_run (P := P) hu' hrow hsize (h1.imp (fun h => h) beq_eq)
     refine ⟨z, hz, Post.same hO ?_⟩
     have hvs' : vs = (vs.drop 0).take (sizeP P t) := by
      rw [List.drop_zero, List.take_of_length_le (by omega)]
     show RepV _ _ (wrapAg _ vs) z
     rw [hvs']
     refine wrap_rep (xs := c.extract (o + i * sz + j) (o + i * sz + j + sizeP P t)) (by simp; omega) (fun m x hx => ?_) (fun m u x hu hx => ?_) (by simp; omega) (h1.imp (fun h => h) beq_eq) ?_ ?_
     ·rw [Array.getElem?_extract] at hx
      split at hx
      ·rename_i hm
       exact (hvs m _ x (List.getElem?_eq_getElem (by omega)) hx).2
      ·cases hx
     ·rw [Array.getElem?_extract] at hx
      split at hx
      ·exact (hvs m u x hu hx).1
      ·cases hx
     ·intro ha
      rw [za ha, extract_again hsize]
     ·intro ha
      rw [Array.getElem?_extract, if_pos (by
       have := (Array.getElem?_eq_some_iff.1 (zb ha)).1
       have := (h1.imp (fun h => h) beq_eq).resolve_left (by rw [ha]; simp)
       omega)]
      exact zb ha
   ·cases h
  ·cases h
 ·cases h
end Go.Vm
namespace Go.Vm
set_option linter.unusedVariables false
set_option linter.unusedSimpArgs false
variable {P : Program} {X : Cx} {FZ : Nat → Prop} {β : Nat → Value} {s s' : Objs} {w : World} {v : V} {fp fp' : List (Bool × Nat)} {pend : List (T × Value)}
theorem OwnE.ver {t : T} (h : OwnE s v t s') : ∀ i, (s i).ver ≤ (s' i).ver := by
 cases h with
 | im => exact fun _ => Nat.le_refl _
 | nl => exact fun _ => Nat.le_refl _
 | own => exact putS_ver _ _ _ _
 | imm => exact fun _ => Nat.le_refl _
 | link => exact fun i => Nat.le_trans (putS_ver _ _ _ _ i) (putS_ver _ _ _ _ i)
 | limm => exact fun _ => Nat.le_refl _
theorem RepV.ver {β : Nat → Value} {x : Value} (h : RepV (vers s) β v x) (hv : ∀ i, (s i).ver ≤ (s' i).ver) : RepV (vers s') β v x :=
 h.up (fun i hi => Nat.le_trans hi (hv i)) fun _ _ => rfl
inductive OwnLs : Objs → List V → List T → Objs → Prop
 | nil {s : Objs} : OwnLs s [] [] s
 | cons {s s1 s2 : Objs} {v : V} {vs : List V} {t : T} {ts : List T} (h : OwnE s v t s1) (hs : OwnLs s1 vs ts s2) : OwnLs s (v :: vs) (t :: ts) s2
theorem foldOwn_run {α : Type} : ∀ (vs : List V) (k : List T → H α) {s : Objs} {fp : List (Bool × Nat)} {r : α × Objs × List (Bool × Nat)}, (foldL .own vs k).run s fp = some r →
  ∃ ts s' fp', OwnLs s vs ts s' ∧ (k ts).run s' fp' = some r
 | [], k, s, fp, r, h => ⟨[], s, fp, .nil, h⟩
 | v :: vs, k, s, fp, r, h => by
  obtain ⟨t, s1, fp1, he, h1⟩ := own_run (show (own v fun t => foldL .own vs fun ts => k (t :: ts)).run s fp = some r from h)
  obtain ⟨ts, s2, fp2, hs, h2⟩ := foldOwn_run vs _ h1
  exact ⟨_, _, _, .cons he hs, h2⟩
theorem OwnLs.ver {vs : List V} {ts : List T} (h : OwnLs s vs ts s') : ∀ i, (s i).ver ≤ (s' i).ver := by
 induction h with
 | nil => exact fun _ => Nat.le_refl _
 | cons h _ ih => exact fun i => Nat.le_trans (h.ver i) (ih i)
theorem OwnLs.length {vs : List V} {ts : List T} (h : OwnLs s vs ts s') : ts.length = vs.length := by
 induction h with
 | nil => rfl
 | cons _ _ ih => simp [ih]
theorem foldOwn_sem {vs : List V} {ts : List T} {s s' : Objs} (h : OwnLs s vs ts s') : ∀ {pend : List (T × Value)} {xs : List Value}, OK X w FZ β s pend → xs.length = vs.length →
  (∀ (i : Nat) (u : V) (x : Value), vs[i]? = some u → xs[i]? = some x → RepV (vers s) β u x) → OK X w FZ β s' (pend ++ ts.zip xs) := by
 induction h with
 | nil =>
  intro pend xs hO hl hr
  have : xs = [] := List.length_eq_zero_iff.1 hl
  subst this
  simpa using hO
 | cons he _ ih =>
  intro pend xs hO hl hr
  cases xs with
  | nil => cases hl
  | cons x xs =>
   have h1 := own_sem hO (hr 0 _ x rfl rfl) he
   have := ih h1 (by simpa using hl) (fun i u x hu hx => (hr (i + 1) u x (by simpa using hu) (by simpa using hx)).ver he.ver)
   simpa [List.append_assoc] using this
theorem OK.rot {p : T × Value} {L : List (T × Value)} (h : OK X w FZ β s (L ++ [p])) : OK X w FZ β s (p :: L) := by
 refine h.move h.rep h.live ?_ (fun u => match u with | .inr 0 => .inr L.length | .inr (k + 1) => .inr k | u => u) ?_ ?_
 ·intro k q hk
  cases k with
  | zero => simp at hk; subst hk; exact h.pow L.length _ (by simp)
  | succ k =>
   simp only [List.getElem?_cons_succ] at hk
   exact h.pow k _ (by rw [List.getElem?_append_left (List.getElem?_eq_some_iff.1 hk).1]; exact hk)
 ·rintro (id | k) b ⟨o, ho, hb⟩
  ·exact ⟨o, ho, hb⟩
  ·cases k with
   | zero => simp at ho; subst ho; exact ⟨_, by simp, hb⟩
   | succ k =>
    simp only [List.getElem?_cons_succ] at ho
    exact ⟨o, by rw [List.getElem?_append_left (List.getElem?_eq_some_iff.1 ho).1]; exact ho, hb⟩
 ·have lt : ∀ k b, Bl w β s (p :: L) (.inr (k + 1)) b → k < L.length := by
   rintro k b ⟨o, ho, _⟩
   simp only [List.getElem?_cons_succ] at ho
   exact (List.getElem?_eq_some_iff.1 ho).1
  rintro (id | _ | k) (id' | _ | k') b hne e h1 h2
  ·exact hne (by simpa using e)
  ·cases e
  ·cases e
  ·cases e
  ·exact hne rfl
  ·have := lt k' b h2
   simp at e; omega
  ·cases e
  ·have := lt k b h1
   simp at e; omega
  ·simp at e; subst e; exact hne rfl
theorem splice_get {α : Type} {xs ys : List α} {j : Nat} (h : j + ys.length ≤ xs.length) (n : Nat) : (splice xs j ys)[n]? = if j ≤ n ∧ n < j + ys.length then ys[n - j]? else xs[n]? := by
 have hk : (xs.take j).length = j := by simp; omega
 simp only [splice]
 rw [List.append_assoc, List.getElem?_append, hk]
 split
 ·rename_i h1
  rw [if_neg (by omega), List.getElem?_take, if_pos h1]
 ·rename_i h1
  rw [List.getElem?_append]
  split
  ·rename_i h2; rw [if_pos (by omega)]
  ·rename_i h2
   rw [if_neg (by omega), List.getElem?_drop]
   congr 1
   omega
theorem splice_length {α : Type} {xs ys : List α} {j : Nat} (h : j + ys.length ≤ xs.length) : (splice xs j ys).length = xs.length := by
 simp [splice]; omega
theorem setRow_length (rs : List (List T)) (i j : Nat) (ts : List T) : (setRow rs i j ts).length = rs.length := by simp [setRow]
theorem setRow_width {rs : List (List T)} {i j sz : Nat} {ts : List T} (h : ∀ r ∈ rs, r.length = sz) (hb : j + ts.length ≤ sz) : ∀ r ∈ setRow rs i j ts, r.length = sz := by
 intro r hr
 by_cases hi : i < rs.length
 ·rcases List.mem_or_eq_of_mem_set hr with hr | hr
  ·exact h r hr
  ·subst hr
   have hl := h _ (List.getElem_mem hi)
   rw [show rs.getD i [] = rs[i] by simp [List.getD, List.getElem?_eq_getElem hi]]
   rw [splice_length (by omega)]
   exact hl
 ·have : setRow rs i j ts = rs := List.set_eq_of_length_le (by omega)
  rw [this] at hr
  exact h r hr
theorem setRow_at {rs : List (List T)} {i j sz i' j' : Nat} {ts : List T} {t : T} (h : ∀ r ∈ rs, r.length = sz) (hb : j + ts.length ≤ sz) (hi : i < rs.length) (ht : At (setRow rs i j ts) i' j' t) :
  (i' = i ∧ j ≤ j' ∧ j' < j + ts.length ∧ ts[j' - j]? = some t) ∨ (At rs i' j' t ∧ ¬ (i' = i ∧ j ≤ j' ∧ j' < j + ts.length)) := by
 obtain ⟨r, hr, hj⟩ := ht
 unfold setRow at hr
 rw [List.getElem?_set] at hr
 split at hr
 ·rename_i e
  subst e
  try rw [if_pos hi] at hr
  injection hr with hr
  subst hr
  have hl := h _ (List.getElem_mem hi)
  have e : rs.getD i [] = rs[i] := by simp [List.getD, List.getElem?_eq_getElem hi]
  rw [e, splice_get (by omega)] at hj
  split at hj
  ·rename_i h2; exact .inl ⟨rfl, h2.1, h2.2, hj⟩
  ·rename_i h2; exact .inr ⟨⟨_, List.getElem?_eq_getElem hi, hj⟩, fun h3 => h2 h3.2⟩
 ·rename_i e
  exact .inr ⟨⟨r, hr, hj⟩, fun h3 => e h3.1.symm⟩
theorem putS_putS (s : Objs) (i : Nat) (o o' : Option O) : putS (putS s i true o) i false o' = putS s i true o' := by
 funext n
 by_cases e : n = i
 ·subst e; simp [putS]
 ·rw [putS_ne _ _ _ e, putS_ne _ _ _ e, putS_ne _ _ _ e]
theorem cut_all (n : Nat) (rs : List (List T)) : cut true 0 n rs = rs := by simp [cut]
theorem storeVar_run {t : TypeId} (hu : ∃ d, P.underlying t = some d) {b off : Nat} {c : Array Value} {x : Value} (hr : Row w b c) (hs : x.cells.size = sizeP P t) (hb : off + x.cells.size ≤ c.size)
  (hf : ∀ (i : Nat) (y : Value), x.cells[i]? = some y → flat y) : ∃ w', (Instr.storeAt t (.pointer (some ⟨b, off, none⟩)) x).run P w = .ok () w' ∧ Wr w w' b (spl c off x.cells.toList) := by
 obtain ⟨w', h1, h2⟩ := run_storeCells (P := P) (b := b) (o := off) x.cells.toList 0 hr (by simpa using hb) (fun v hv => by
  obtain ⟨i, hi⟩ := List.mem_iff_getElem?.1 hv
  exact hf i v (by rw [← Array.getElem?_toList]; exact hi))
 refine ⟨w', ?_, by simpa using h2⟩
 simp only [Instr.storeAt, Instr.sureAddr, Sem.run_bind, Sem.run_pure, Result.andThen_ok, storeVar, run_sizeP hu, hs]
 rw [if_neg (by simp)]
 exact h1
theorem Wr.wd {b : Nat} {c' : Array Value} {w' : World} (h : Wr w w' b c') (hb : X.W b ∨ X.n0 ≤ b) : Wd X FZ FZ w w' :=
 ⟨h.os, h.tape, h.output, fun _ => Nat.le_of_eq h.drawn.symm, h.size, fun b' hb' hw => h.old b' (by rintro rfl; rcases hb with hb | hb; exact hw hb; omega), fun b' c hc => by
  by_cases e : b' = b
  ·subst e
   obtain ⟨c0, h0, e0⟩ := h.row0
   obtain rfl := h0.inj hc
   exact ⟨c', h.row, e0⟩
  ·exact ⟨c, hc.of_eq (h.old _ e), rfl⟩, fun _ h => h, fun _ h => .inl h⟩
theorem store_sound {t : TypeId} {p x : V} {px xx : Value} {r : V × Objs × List (Bool × Nat)} (hO : OK X w FZ β s []) (hp : RepV (vers s) β p px) (hx : RepV (vers s) β x xx) (h : (storeH P t p x).run s fp = some r) :
  ∃ w', (Instr.storeAt t px xx).run P w = .ok () w' ∧ Post X FZ β s w r.1 r.2.1 undef w' := by
 unfold storeH at h
 split at h
 ·rename_i id sz i j
  simp only [H.run] at h
  split at h
  ·-- a box
   rename_i cells ho
   obtain ⟨hc, h2⟩ := chk_run h
   simp only [H.run] at h2
   obtain rfl := Option.some.inj h2
   simp only [Bool.and_eq_true] at hc
   obtain ⟨⟨⟨⟨hu, hn⟩, hb⟩, hi⟩, hl⟩ := hc
   have hi := beq_eq hi
   subst hi
   have hb := Nat.le_of_ble_eq_true hb
   have hl := beq_eq hl
   have hu' : ∃ d, P.underlying t = some d := Option.isSome_iff_exists.1 hu
   obtain ⟨b, c, hβ, hrow, hsz, hcells, _⟩ := hO.rep _ _ ho
   obtain ⟨k1, k2, k3⟩ := rep_cells (rep_castT hx (ty P t)) (castT_notNo _ hn)
   cases hp with
   | pts hv hb' => rw [hβ] at hb'; cases hb'
   | ptb hv hb' =>
    rw [hβ] at hb'
    injection hb' with hb'
    injection hb' with hb'
    injection hb' with hb'
    subst hb'
    obtain ⟨w', h3, h4⟩ := storeVar_run (P := P) hu' hrow (off := j) (by omega) (by omega) k2
    have hob : Bl w β s [] (.inl id) b := ⟨_, ho, rfl, hβ⟩
    refine ⟨w', h3, β, FZ, OK.writeBox hO ho hβ h4 true ?_ ?_, fun i hi => ⟨Nat.le_trans hi (putS_ver _ _ _ _ _), rfl⟩, .no, h4.wd (hO.sep _ b hob).2.2⟩
    ·rw [spl_size (by simp; omega), splice_length (by omega)]; exact hsz
    ·intro m u y hu2 hy
     rw [splice_get (by omega)] at hu2
     rw [spl_get (by simp; omega)] at hy
     simp only [Array.length_toList] at hy
     by_cases hm : j ≤ m ∧ m < j + xx.cells.size
     ·rw [if_pos (by omega)] at hu2
      rw [if_pos hm, Array.getElem?_toList] at hy
      exact ⟨k3 _ _ _ hu2 hy, k2 _ _ hy⟩
     ·rw [if_neg (by omega)] at hu2
      rw [if_neg hm] at hy
      exact hcells _ _ _ hu2 hy
  ·-- rows
   rename_i sz' rs0 ho0
   obtain ⟨hc, h2⟩ := chk_run h
   clear h
   simp only [Bool.and_eq_true] at hc
   obtain ⟨⟨⟨⟨hu, hn⟩, hs⟩, hb⟩, hl⟩ := hc
   have hs := beq_eq hs
   subst hs
   have hb := Nat.le_of_ble_eq_true hb
   have hl := beq_eq hl
   have hu' : ∃ d, P.underlying t = some d := Option.isSome_iff_exists.1 hu
   obtain ⟨k1, k2, k3⟩ := rep_cells (rep_castT hx (ty P t)) (castT_notNo _ hn)
   obtain ⟨ts, s1, fp1, hown, h3⟩ := foldOwn_run _ _ h2
   have hO1 := foldOwn_sem hown hO (xs := xx.cells.toList) (by simp [k1]) (fun i u y hu hy => k3 i u y hu (by simpa using hy))
   have htl := hown.length
   simp only [H.run] at h3
   split at h3
   ·rename_i sz2 rs ho
    obtain ⟨hs2, h4⟩ := chk_run h3
    have hs2 := beq_eq hs2
    subst hs2
    simp only [H.run, sSetRow_eq] at h4
    obtain rfl := Option.some.inj h4
    have htree0 : Ow w X.RO FZ (.sl .own sz rs) (β id) := hO1.rep _ _ ho
    cases hp with
    | ptb hv hb' =>
     rw [hb'] at htree0
     cases htree0
    | pts hv hβ hlt =>
     rename_i b o n cap
     have htree := htree0
     rw [hβ] at htree
     have hlen0 := htree.len
     have hcap0 : 0 < cap := by omega
     obtain ⟨hn', ⟨c, hrow, hlc, hbd, hw⟩, _⟩ := htree.headO hcap0
     have hsize : o + i * sz + j + sizeP P t ≤ c.size := by
      have h1 : (i + 1) * sz ≤ cap * sz := Nat.mul_le_mul_right _ (by omega)
      rw [Nat.add_mul] at h1
      omega
     obtain ⟨w', h5, h6⟩ := storeVar_run (P := P) hu' hrow (off := o + i * sz + j) (x := xx) (by omega) (by omega) k2
     have hv1 : 1 ≤ (s1 id).ver := hO1.live _ _ ho
     have hwhole : RepV (vers s1) β (.sl id true 0 n sz) (.slice (some ⟨b, o, none⟩) n cap) := .sl hv1 hβ (by omega) (by omega) (by omega) (fun _ => by omega) (.inl (by omega))
     have hO2 := (own_sem hO1 hwhole (.own ho)).rot
     rw [cut_all, List.nil_append] at hO2
     have hO3 := OK.rewrite (pend := []) (L := ts.zip xx.cells.toList) (rs' := setRow rs i j ts) hcap0 (by simpa using hO2) hrow h6 (by rw [spl_size (by simp; omega)]; exact Nat.le_refl _) (setRow_width hw (by omega)) (by rw [setRow_length]; exact hlc)
      (fun i' j' t' v' ht' hv' => by
       rw [spl_get (by simp; omega)] at hv'
       simp only [Array.length_toList] at hv'
       rcases setRow_at hw (by omega) (by omega) ht' with ⟨rfl, q1, q2, q3⟩ | ⟨q1, q2⟩
       ·rw [if_pos (by omega), Array.getElem?_toList] at hv'
        have e : o + i' * sz + j' - (o + i' * sz + j) = j' - j := by omega
        rw [e] at hv'
        have hz : (ts.zip xx.cells.toList)[j' - j]? = some (t', v') := by
         rw [List.getElem?_zip_eq_some]
         exact ⟨q3, by simpa using hv'⟩
        right
        refine ⟨hO1.pow (j' - j) _ (by simpa using hz), fun b' hb' => ⟨j' - j + 1, by simp, (t', v'), ?_, hb'⟩⟩
        simpa using hz
       ·left
        refine ⟨q1, ?_⟩
        rw [if_neg] at hv'
        ·exact hv'
        ·rintro ⟨z1, z2⟩
         obtain ⟨r', hr', hj'⟩ := q1
         have hjs := (List.getElem?_eq_some_iff.1 hj').1
         rw [hw r' (List.mem_of_getElem? hr')] at hjs
         rcases Nat.lt_trichotomy i' i with hlt' | rfl | hgt
         ·have : (i' + 1) * sz ≤ i * sz := Nat.mul_le_mul_right _ hlt'
          rw [Nat.add_mul] at this
          omega
         ·exact q2 ⟨rfl, by omega, by omega⟩
         ·have : (i + 1) * sz ≤ i' * sz := Nat.mul_le_mul_right _ hgt
          rw [Nat.add_mul] at this
          omega)
      (fun i1 j1 t1 v1 i2 j2 t2 v2 ht1 hv1 ht2 hv2 hn1 hn2 hne b' hb1 hb2 => by
       have key : ∀ {i' j' t' v'}, At (setRow rs i j ts) i' j' t' → (spl c (o + i * sz + j) xx.cells.toList)[o + i' * sz + j']? = some v' → ¬ (At rs i' j' t' ∧ c[o + i' * sz + j']? = some v') →
         i' = i ∧ j ≤ j' ∧ (ts.zip xx.cells.toList)[j' - j]? = some (t', v') := by
        intro i' j' t' v' ht' hv' hno
        rw [spl_get (by simp; omega)] at hv'
        simp only [Array.length_toList] at hv'
        rcases setRow_at hw (by omega) (by omega) ht' with ⟨rfl, q1, q2, q3⟩ | ⟨q1, q2⟩
        ·rw [if_pos (by omega), Array.getElem?_toList] at hv'
         have e : o + i' * sz + j' - (o + i' * sz + j) = j' - j := by omega
         rw [e] at hv'
         refine ⟨rfl, q1, ?_⟩
         rw [List.getElem?_zip_eq_some]
         exact ⟨q3, by simpa using hv'⟩
        ·exfalso
         refine hno ⟨q1, ?_⟩
         rw [if_neg] at hv'
         ·exact hv'
         ·rintro ⟨z1, z2⟩
          obtain ⟨r', hr', hj'⟩ := q1
          have hjs := (List.getElem?_eq_some_iff.1 hj').1
          rw [hw r' (List.mem_of_getElem? hr')] at hjs
          rcases Nat.lt_trichotomy i' i with hlt' | rfl | hgt
          ·have : (i' + 1) * sz ≤ i * sz := Nat.mul_le_mul_right _ hlt'
           rw [Nat.add_mul] at this
           omega
          ·exact q2 ⟨rfl, by omega, by omega⟩
          ·have : (i + 1) * sz ≤ i' * sz := Nat.mul_le_mul_right _ hgt
           rw [Nat.add_mul] at this
           omega
       obtain ⟨e1, g1, z1⟩ := key ht1 hv1 hn1
       obtain ⟨e2, g2, z2⟩ := key ht2 hv2 hn2
       exact hO1.apart (.inr (j1 - j)) (.inr (j2 - j)) b' (by intro e; injection e; omega) ⟨_, by simpa using z1, hb1⟩ ⟨_, by simpa using z2, hb2⟩)
     rw [setRow_length, ← hn', List.nil_append] at hO3
     rw [← hβ] at hO3
     have hO4 := OK.placeBack (pend := []) (q := id) hO3 (by simp) (by rw [putS_bump]; omega) (fun id' x' ver' i' j' hl' e => by
      subst e
      by_cases e' : id' = x'
      ·subst e'; simp at hl'
      ·rw [putS_ne _ _ _ e'] at hl'
       have := (hO1.rep _ _ hl').1
       rw [putS_bump]
       omega) false
     rw [putS_putS] at hO4
     have hob : Bl w β s1 ([] ++ ts.zip xx.cells.toList) (.inl id) b := ⟨_, ho, by show Blk w _ (β id) b; rw [hβ]; exact .here hcap0⟩
     refine ⟨w', h5, β, FZ, hO4, fun i hi => ⟨Nat.le_trans hi (Nat.le_trans (hown.ver i) (putS_ver _ _ _ _ _)), rfl⟩, .no, h6.wd (hO1.sep _ b hob).2.2⟩
   ·cases h3
  ·cases h
 ·cases h
end Go.Vm
namespace Go.Vm
set_option linter.unusedVariables false
set_option linter.unusedSimpArgs false
variable {P : Program} {X : Cx} {FZ : Nat → Prop} {β : Nat → Value} {s s' : Objs} {w : World} {v : V} {fp fp' : List (Bool × Nat)} {pend : List (T × Value)}
theorem zeroOk_spec : ∀ {ks : List Kd} {vs : List Value}, zeroOk ks vs = true → ks.length = vs.length ∧
  ∀ (i : Nat) (k : Kd) (v : Value), ks[i]? = some k → vs[i]? = some v → flat v ∧ (∀ (vr : Nat → Nat) (β : Nat → Value), RepV vr β (zeroK k) v) ∧ (∀ (w : World) (RO FZ : Nat → Prop), Ow w RO FZ (zeroT k) v) ∧ ∀ (w : World) (b : Nat), ¬ Blk w (zeroT k) v b
 | [], [], _ => ⟨rfl, fun i k v h => by simp at h⟩
 | [], _ :: _, h => by cases h
 | _ :: _, [], h => by cases h
 | k :: ks, v :: vs, h => by
  simp only [zeroOk, Bool.and_eq_true] at h
  obtain ⟨h1, h2⟩ := h
  obtain ⟨hl, hr⟩ := zeroOk_spec h2
  refine ⟨by simp [hl], fun i k' v' hk hv => ?_⟩
  cases i with
  | succ i => exact hr i k' v' (by simpa using hk) (by simpa using hv)
  | zero =>
   simp only [List.getElem?_cons_zero, Option.some.injEq] at hk hv
   subst hk hv
   cases k with
   | int ik =>
    cases v with
    | int ik' n =>
     have : ik = ik' ∧ n = 0 := by simpa using h1
     obtain ⟨rfl, rfl⟩ := this
     exact ⟨trivial, fun _ _ => .im trivial, fun _ _ _ => .im trivial, fun _ _ h => by cases h⟩
    | _ => cases h1
   | bool =>
    cases v with
    | bool b =>
     have : b = false := by simpa using h1
     subst this
     exact ⟨trivial, fun _ _ => .im trivial, fun _ _ _ => .im trivial, fun _ _ h => by cases h⟩
    | _ => cases h1
   | str =>
    cases v with
    | string st =>
     have h0 : st.size = 0 := beq_eq h1
     have : st = .empty := by
      apply ByteArray.ext
      apply Array.ext_getElem?
      intro i
      have h0' : st.data.size = 0 := h0
      rw [Array.getElem?_eq_none (by omega), Array.getElem?_eq_none (show (ByteArray.empty).data.size ≤ i from Nat.zero_le _)]
     subst this
     exact ⟨trivial, fun _ _ => .im trivial, fun _ _ _ => .im trivial, fun _ _ h => by cases h⟩
    | _ => cases h1
   | sl sz =>
    have : v = .slice none 0 0 := by
     cases v with
     | slice a l c =>
      cases a with
      | some a => cases h1
      | none =>
       cases l with
       | succ l => cases h1
       | zero =>
        cases c with
        | succ c => cases h1
        | zero => rfl
     | _ => cases h1
    subst this
    exact ⟨trivial, fun _ _ => .nl, fun _ _ _ => .nil, fun _ _ h => by cases h⟩
   | oth =>
    have : flatB v = true := by cases v <;> first | rfl | exact h1
    exact ⟨flatB_flat this, fun _ _ => .no, fun _ _ _ => .no (flatB_flat this), fun _ _ h => by cases h⟩
theorem zeroP_run {t : TypeId} {ks : List Kd} (h : zeroOk ks (zeroP P t) = true) : ∃ z, (zeroValue t).run P w = .ok z w ∧ z.cells.toList = zeroP P t := by
 have hno : zeroP P t ≠ [.tuple #[]] := by
  intro e
  rw [e] at h
  cases ks with
  | nil => cases h
  | cons k ks =>
   obtain ⟨_, hr⟩ := zeroOk_spec h
   exact (hr 0 k _ rfl rfl).1
 unfold zeroP at hno ⊢
 cases hi : P.info? t with
 | none => rw [hi] at hno; exact absurd rfl hno
 | some i =>
  rw [hi] at hno
  cases hz : i.zero with
  | none => simp [hz] at hno
  | some z => exact ⟨z, by simp [zeroValue, typeInfo, hi, hz], by simp [hz]⟩
theorem newRow_run (t : TypeId) (c : Array Value) : (newRow t c).run P w = .ok ⟨w.heap.size, 0, none⟩ (World.push w (.cells c t (0, 0))) := by
 simp [newRow, World.push]
theorem push_wd (h : X.n0 ≤ w.heap.size) (o : Obj) : Wd X FZ FZ w (World.push w o) :=
 ⟨rfl, rfl, rfl, fun _ => Nat.le_refl _, by simp [World.push], fun b hb _ => push_old w o (by omega), fun b c hc => ⟨c, hc.of_eq (push_old w o hc.lt), rfl⟩, fun _ h => h, fun _ h => .inl h⟩
theorem ext_new {q : Nat} (hq : (s q).ver = 0) (o : Option O) (y : Value) : ∀ i, 1 ≤ (s i).ver → 1 ≤ (putS s q true o i).ver ∧ upd β q y i = β i := fun i hi =>
 ⟨Nat.le_trans hi (putS_ver _ _ _ _ _), upd_ne _ _ (fun e => by subst e; omega)⟩
theorem new_run {α : Type} {i : Nat} {o : O} {k : H α} {r : α × Objs × List (Bool × Nat)} (h : (H.new i o k).run s fp = some r) :
  (s i).ver = 0 ∧ k.run (putS s i true (some o)) ((true, i) :: fp) = some r := by
 simp only [H.run] at h
 cases hq : Nat.beq (s i).ver 0 with
 | false => rw [hq] at h; cases h
 | true => rw [hq] at h; exact ⟨beq_eq hq, h⟩
theorem alloc_sound {key : Nat} {t : TypeId} {r : V × Objs × List (Bool × Nat)} (hO : OK X w FZ β s [])
  (h : (H.chk (zeroOk (ksOf P t) (zeroP P t)) (.new (nKey key 0) (.box false ((ksOf P t).map zeroK)) (.ret (.pt (nKey key 0) 0 0 0)))).run s fp = some r) :
  ∃ z w', (Instr.alloc t true (.tuple #[])).run P w = .ok z w' ∧ Post X FZ β s w r.1 r.2.1 z w' := by
 obtain ⟨hc, h2⟩ := chk_run h
 obtain ⟨hq, h3⟩ := new_run h2
 obtain rfl := ret_run h3
 obtain ⟨z, hz, he⟩ := zeroP_run (P := P) (w := w) hc
 obtain ⟨hl, hr⟩ := zeroOk_spec hc
 have hl' : z.cells.size = (ksOf P t).length := by rw [← Array.length_toList, he]; exact hl.symm
 refine ⟨_, World.push w (.cells z.cells t (0, 0)), ?_, _, FZ, hO.newBox hq (cells := (ksOf P t).map zeroK) t (by simp [hl']) (fun j v x hv hx => ?_), ext_new hq _ _, .ptb ?_ (upd_same _ _ _), push_wd hO.n0 _⟩
 ·simp only [Instr.alloc, Sem.run_bind, hz, Result.andThen_ok, newVar, newRow_run, Sem.run_pure]
 ·rw [List.getElem?_map, Option.map_eq_some_iff] at hv
  obtain ⟨k, hk, rfl⟩ := hv
  rw [← Array.getElem?_toList, he] at hx
  have := hr j k x hk hx
  exact ⟨this.2.1 _ _, this.1⟩
 ·rw [vers, putS_bump]; omega
theorem box_sound {key : Nat} {t : TypeId} {x : V} {xx : Value} {r : V × Objs × List (Bool × Nat)} (hO : OK X w FZ β s []) (hx : RepV (vers s) β x xx)
  (h : (H.chk (V.notNo x) (.new (nKey key 0) (.box false (vCells (castT (ty P t) x))) (.ret (.pt (nKey key 0) 0 0 0)))).run s fp = some r) :
  ∃ z w', (Instr.box t xx).run P w = .ok z w' ∧ Post X FZ β s w r.1 r.2.1 z w' := by
 obtain ⟨hc, h2⟩ := chk_run h
 obtain ⟨hq, h3⟩ := new_run h2
 obtain rfl := ret_run h3
 obtain ⟨k1, k2, k3⟩ := rep_cells (rep_castT hx (ty P t)) (castT_notNo _ hc)
 refine ⟨_, World.push w (.cells xx.cells t (0, 0)), ?_, _, FZ, hO.newBox hq (cells := vCells (castT (ty P t) x)) t k1.symm (fun j v y hv hy => ⟨k3 j v y hv hy, k2 j y hy⟩), ext_new hq _ _, .ptb ?_ (upd_same _ _ _), push_wd hO.n0 _⟩
 ·simp only [Instr.box, newVar, Sem.run_bind, newRow_run, Result.andThen_ok, Sem.run_pure]
 ·rw [vers, putS_bump]; omega
theorem foldl_spl (off : Nat) : ∀ (l : List Value) (k : Nat) (c : Array Value), off + k + l.length ≤ c.size → (l.zipIdx k).foldl (fun cs p => cs.setIfInBounds (off + p.2) p.1) c = spl c (off + k) l
 | [], k, c, h => by simp [spl]
 | v :: l, k, c, h => by
  simp only [List.length_cons] at h
  simp only [List.zipIdx_cons, List.foldl_cons]
  rw [foldl_spl off l (k + 1) _ (by simp; omega), ← Nat.add_assoc, spl_cons (by omega)]
theorem fill_step {place : Nat → Option (Nat × Nat)} {cells : Array Value} {i : Nat} {v : Value} {rest : List (Nat × Value)} {off size : Nat} (hp : place i = some (off, size)) (h1 : v.cells.size = size) (h2 : off + v.cells.size ≤ cells.size) :
  Instr.fill place cells ((i, v) :: rest) = Instr.fill place (spl cells off v.cells.toList) rest := by
 rw [Instr.fill, hp]
 dsimp only
 rw [if_neg (by simp; omega)]
 congr 1
 rw [← Array.foldl_toList, Array.toList_zipIdx]
 have := foldl_spl off v.cells.toList 0 cells (by simpa using h2)
 simpa using this
inductive RepPs (vr : Nat → Nat) (β : Nat → Value) : List (Nat × V) → List (Nat × Value) → Prop
 | nil : RepPs vr β [] []
 | cons {i : Nat} {v : V} {x : Value} {ps : List (Nat × V)} {xs : List (Nat × Value)} (h : RepV vr β v x) (hs : RepPs vr β ps xs) : RepPs vr β ((i, v) :: ps) ((i, x) :: xs)
theorem build_fill {vr : Nat → Nat} {place : Nat → Option (Nat × Nat × Ty)} {place' : Nat → Option (Nat × Nat)} (hpl : ∀ i off n t, place i = some (off, n, t) → place' i = some (off, n)) :
  ∀ {ps : List (Nat × V)} {xs : List (Nat × Value)} {cs cs' : List V} {c : Array Value}, RepPs vr β ps xs → buildGo place ps cs = some cs' → cs.length = c.size →
   (∀ (i : Nat) (x : Value), c[i]? = some x → flat x) → (∀ (i : Nat) (v : V) (x : Value), cs[i]? = some v → c[i]? = some x → RepV vr β v x) →
   ∃ c', Instr.fill place' c xs = some c' ∧ cs'.length = c'.size ∧ (∀ (i : Nat) (x : Value), c'[i]? = some x → flat x) ∧ ∀ (i : Nat) (v : V) (x : Value), cs'[i]? = some v → c'[i]? = some x → RepV vr β v x := by
 intro ps xs cs cs' c hr
 induction hr generalizing cs c with
 | nil =>
  intro h hl hf hc
  simp only [buildGo, Option.some.injEq] at h
  subst h
  exact ⟨c, rfl, hl, hf, hc⟩
 | @cons i u0 x ps xs hv _ ih =>
  intro h hl hf hc
  simp only [buildGo] at h
  split at h
  ·rename_i off n tt hp
   cases hb : (V.notNo u0 && Nat.beq (vCells (castT tt u0)).length n && Nat.ble (off + n) cs.length) with
   | false => rw [hb] at h; cases h
   | true =>
    rw [hb] at h
    simp only [Bool.and_eq_true] at hb
    obtain ⟨⟨hn, h1⟩, h2⟩ := hb
    have h1 := beq_eq h1
    have h2 := Nat.le_of_ble_eq_true h2
    obtain ⟨k1, k2, k3⟩ := rep_cells (rep_castT hv tt) (castT_notNo _ hn)
    rw [fill_step (hpl _ _ _ _ hp) (by omega) (by omega)]
    refine ih h (by rw [splice_length (by omega), spl_size (by simp; omega)]; exact hl) (fun m y hy => ?_) (fun m u y hu hy => ?_)
    ·rw [spl_get (by simp; omega)] at hy
     split at hy
     ·exact k2 _ _ (by simpa using hy)
     ·exact hf _ _ hy
    ·rw [splice_get (by omega)] at hu
     rw [spl_get (by simp; omega)] at hy
     simp only [Array.length_toList] at hy
     by_cases hm : off ≤ m ∧ m < off + x.cells.size
     ·rw [if_pos (by omega)] at hu
      rw [if_pos hm, Array.getElem?_toList] at hy
      exact k3 _ _ _ hu hy
     ·rw [if_neg (by omega)] at hu
      rw [if_neg hm] at hy
      exact hc _ _ _ hu hy
  ·cases h
theorem mapM_places {fs : List Field} (h : ∀ f ∈ fs, ∃ i, P.info? f.type = some i) :
  (fs.mapM fun f => (do pure (f.offset, ← sizeOf f.type) : Sem (Nat × Nat))).run P w = .ok (fs.map fun f => (f.offset, sizeP P f.type)) w := by
 induction fs with
 | nil => simp
 | cons f fs ih =>
  obtain ⟨i, hi⟩ := h f (by simp)
  have := ih (fun f hf => h f (by simp [hf]))
  have h1 : (do pure (f.offset, ← sizeOf f.type) : Sem (Nat × Nat)).run P w = .ok (f.offset, sizeP P f.type) w := by
   simp [sizeOf, typeInfo, hi, sizeP]
  simp only [List.mapM_cons, Sem.run_bind, List.map_cons] at this h1 ⊢
  rw [h1]
  simp only [Result.andThen_ok, Sem.run_bind, this, Sem.run_pure]
theorem mapM_places' {fs : Array Field} (h : ∀ f ∈ fs, ∃ i, P.info? f.type = some i) :
  (fs.mapM fun f => (do pure (f.offset, ← sizeOf f.type) : Sem (Nat × Nat))).run P w = .ok (fs.map fun f => (f.offset, sizeP P f.type)) w := by
 rw [Array.mapM_eq_mapM_toList]
 simp only [Sem.run_map, mapM_places (fs := fs.toList) (fun f hf => h f (Array.mem_toList_iff.1 hf)), Result.andThen_ok]
 congr 1
 apply Array.ext_getElem?
 intro i
 simp
theorem repPs_of {ρ : Operand → V} {ρ' : Operand → Value} {vr : Nat → Nat} (h : ∀ x, RepV vr β (ρ x) (ρ' x)) : ∀ (ps : List (Nat × Operand)), RepPs vr β (ps.map fun p => (p.1, ρ p.2)) (ps.map fun p => (p.1, ρ' p.2))
 | [] => .nil
 | p :: ps => .cons (h p.2) (repPs_of h ps)
theorem build_sound {t : TypeId} {ps : List (Nat × V)} {xs : List (Nat × Value)} {r : V × Objs × List (Bool × Nat)} (hp : RepPs (vers s) β ps xs) (h : (buildV P t ps).run s fp = some r) :
  ∃ z, (Instr.build t xs.toArray).run P w = .ok z w ∧ RepV (vers s) β r.1 z ∧ r.2.1 = s := by
 unfold buildV at h
 have fin : ∀ {place : Nat → Option (Nat × Nat × Ty)} {place' : Nat → Option (Nat × Nat)} {zz : Value}, (∀ i off n t, place i = some (off, n, t) → place' i = some (off, n)) → zeroOk (ksOf P t) (zeroP P t) = true → zz.cells.toList = zeroP P t →
   (match buildGo place ps ((ksOf P t).map zeroK) with | some cs => (.ret (.ag cs) : H V) | none => .fail).run s fp = some r →
   ∃ cells, Instr.fill place' zz.cells xs = some cells ∧ RepV (vers s) β r.1 (.agg cells) ∧ r.2.1 = s := by
  intro place place' zz hpl hz he h2
  obtain ⟨hl, hr⟩ := zeroOk_spec hz
  have hl' : zz.cells.size = (ksOf P t).length := by rw [← Array.length_toList, he]; exact hl.symm
  split at h2
  ·rename_i cs hcs
   obtain rfl := ret_run h2
   obtain ⟨c', h3, h4, h5, h6⟩ := build_fill hpl hp hcs (c := zz.cells) (by simp [hl']) (fun i x hx => by
    have hlt := (Array.getElem?_eq_some_iff.1 hx).1
    rw [← Array.getElem?_toList, he] at hx
    exact (hr i _ x (List.getElem?_eq_getElem (by omega)) hx).1) (fun i v x hv hx => by
    rw [List.getElem?_map, Option.map_eq_some_iff] at hv
    obtain ⟨k, hk, rfl⟩ := hv
    rw [← Array.getElem?_toList, he] at hx
    exact (hr i k x hk hx).2.1 _ _)
   exact ⟨c', h3, .ag h4 h5 h6, rfl⟩
  ·cases h2
 split at h
 ·rename_i fs hu
  obtain ⟨hc, h2⟩ := chk_run h
  simp only [Bool.and_eq_true] at hc
  obtain ⟨⟨hz, _⟩, hi⟩ := hc
  obtain ⟨zz, hzz, he⟩ := zeroP_run (P := P) (w := w) hz
  have hinfo : ∀ f ∈ fs, ∃ i, P.info? f.type = some i := by
   intro f hf
   rw [Array.all_eq_true'] at hi
   exact Option.isSome_iff_exists.1 (hi f hf)
  obtain ⟨cells, h3, h4, h5⟩ := fin (place' := ((fs.map fun f => (f.offset, sizeP P f.type))[·]?)) (fun i off n t hpl => by
   split at hpl
   ·rename_i f hf
    simp only [Option.some.injEq, Prod.mk.injEq] at hpl
    simp only [Array.getElem?_map, hf, Option.map_some, hpl.1, hpl.2.1]
   ·cases hpl) hz he h2
  refine ⟨.agg cells, ?_, h4, h5⟩
  simp only [Instr.build, Sem.run_bind, hzz, Result.andThen_ok, run_underlying hu, mapM_places' hinfo, h3, Sem.run_pure]
 ·rename_i n e hu
  obtain ⟨hc, h2⟩ := chk_run h
  simp only [Bool.and_eq_true] at hc
  obtain ⟨⟨hz, _⟩, hi⟩ := hc
  obtain ⟨zz, hzz, he⟩ := zeroP_run (P := P) (w := w) hz
  obtain ⟨ii, hii⟩ := Option.isSome_iff_exists.1 hi
  have hsz : (sizeOf e).run P w = .ok (sizeP P e) w := by simp [sizeOf, typeInfo, hii, sizeP]
  obtain ⟨cells, h3, h4, h5⟩ := fin (place' := fun i => some (i * sizeP P e, sizeP P e)) (fun i off n t hpl => by
   simp only [Option.some.injEq, Prod.mk.injEq] at hpl ⊢
   exact ⟨hpl.1, hpl.2.1⟩) hz he h2
  refine ⟨.agg cells, ?_, h4, h5⟩
  simp only [Instr.build, Sem.run_bind, hzz, Result.andThen_ok, run_underlying hu, hsz, h3, Sem.run_pure]
 ·cases h
end Go.Vm
namespace Go.Vm
set_option linter.unusedVariables false
set_option linter.unusedSimpArgs false
variable {P : Program} {X : Cx} {FZ : Nat → Prop} {β : Nat → Value} {s s' : Objs} {w : World} {v : V} {fp fp' : List (Bool × Nat)} {pend : List (T × Value)}
theorem mod_row {i j sz : Nat} (h : j < sz) : (i * sz + j) % sz = j := by
 rw [Nat.mul_comm, Nat.mul_add_mod, Nat.mod_eq_of_lt h]
theorem getElem!_of {α : Type} [Inhabited α] {xs : Array α} {i : Nat} {x : α} (h : xs[i]? = some x) : xs[i]! = x := by
 simp [getElem!_def, h]
theorem zeros_get {zero : Array Value} {n sz i j : Nat} (hz : zero.size = sz) (hi : i < n) (hj : j < sz) : ((Array.range (n * sz)).map (zero[· % zero.size]!))[i * sz + j]? = zero[j]? := by
 have hlt : i * sz + j < n * sz := by
  have : (i + 1) * sz ≤ n * sz := Nat.mul_le_mul_right _ hi
  rw [Nat.add_mul] at this
  omega
 rw [Array.getElem?_map, Array.getElem?_range, if_pos hlt, Option.map_some, hz, mod_row hj]
 have : zero[j]? = some zero[j] := Array.getElem?_eq_getElem (by omega)
 rw [getElem!_of this, this]
theorem Blk.emptyCells {t : T} {x : Value} (hk : ∃ k, t = zeroT k) {b : Nat} (hz : ∀ (w : World) (b : Nat), ¬ Blk w t x b) : ¬ Blk w t x b := hz w b
theorem wrap_i64 {n : Int} (h0 : -9223372036854775808 ≤ n) (h1 : n < 9223372036854775808) : IntKind.i64.wrap n = n := by
 have e : IntKind.i64.wrap n = if n % 18446744073709551616 ≥ 9223372036854775808 then n % 18446744073709551616 - 18446744073709551616 else n % 18446744073709551616 := by
  simp [IntKind.wrap, IntKind.bits, IntKind.signed]
 rw [e]
 split <;> omega
theorem makeSlice_sound {key : Nat} {t : TypeId} {l c : V} {lx cx : Value} {r : V × Objs × List (Bool × Nat)} (hO : OK X w FZ β s []) (hl : RepV (vers s) β l lx) (hc : RepV (vers s) β c cx)
  (h : (makeSliceH P key t l c).run s fp = some r) : ∃ z w', (Instr.makeSlice t lx cx).run P w = .ok z w' ∧ Post X FZ β s w r.1 r.2.1 z w' := by
 unfold makeSliceH at h
 simp only [sEq_eq, sLe_eq, sLt_eq, sRep_eq] at h
 split at h
 ·rename_i e hu
  obtain ⟨n, rfl, h1'⟩ := idxK_run h
  obtain ⟨m, rfl, h2'⟩ := idxK_run h1'
  clear h h1'
  obtain ⟨hc0, h2⟩ := chk_run h2'
  clear h2'
  obtain ⟨hq, h3⟩ := new_run h2
  obtain rfl := ret_run h3
  simp only [Bool.and_eq_true, decide_eq_true_eq] at hc0
  obtain ⟨⟨⟨⟨⟨⟨⟨heq, h0⟩, h1⟩, hp⟩, hby⟩, hue⟩, hz⟩, hks⟩ := hc0
  obtain rfl := rep_im hl
  obtain rfl := rep_im hc
  have heq : n = m := heq
  subst heq
  have h0 : 0 ≤ n := h0
  have h1 : n < 4294967296 := h1
  have hp : 0 < sizeP P e := by simpa [Nat.blt_eq] using hp
  have hks := beq_eq hks
  have hby := Nat.le_of_ble_eq_true hby
  obtain ⟨z, hzr, hze⟩ := zeroP_run (P := P) (w := w) hz
  obtain ⟨hzl, hzs⟩ := zeroOk_spec hz
  have hzsz : z.cells.size = sizeP P e := by rw [← Array.length_toList, hze]; omega
  obtain ⟨N, rfl⟩ := Int.eq_ofNat_of_zero_le h0
  obtain ⟨ii, hii, hbi⟩ : ∃ ii, P.info? e = some ii ∧ ii.bytes ≤ 4096 := by
   cases hi : P.info? e with
   | none => rw [hi] at hby; simp at hby
   | some ii => rw [hi] at hby; exact ⟨ii, rfl, by simpa using hby⟩
  have hwrap : IntKind.i64.wrap (N : Int) = N := wrap_i64 (by omega) (by omega)
  have hrun : (Instr.makeSlice t (.int .i64 N) (.int .i64 N)).run P w = .ok (.slice (some ⟨w.heap.size, 0, none⟩) N N)
    (World.push w (.cells ((Array.range (N * sizeP P e)).map ((if N * sizeP P e = 0 then #[] else z.cells)[· % (if N * sizeP P e = 0 then #[] else z.cells).size]!)) e (0, 0))) := by
   simp only [Instr.makeSlice, Sem.run_bind, run_underlying hu, Result.andThen_ok, asInt, asIntOf, Sem.run_pure, typeInfo, run_program, hii, hwrap]
   have hnot : ¬ ((((N : Int) < 0 || (ii.bytes : Int) * (N : Int) > 2 ^ 48) || (N : Int) < 0 || (N : Int) > (N : Int)) = true) := by
    have h3 := Nat.mul_le_mul hbi (show N ≤ 4294967296 by omega)
    rw [← Int.natCast_mul]
    generalize ii.bytes * N = M at h3
    intro hh
    simp only [Bool.or_eq_true, decide_eq_true_eq] at hh
    omega
   rw [if_neg (by simpa using hnot)]
   simp only [Sem.run_bind, Sem.run_pure, Result.andThen_ok, run_askRoom, sizePos_run hp, Int.toNat_natCast]
   by_cases hN : N * sizeP P e = 0
   ·simp only [hN, if_true, Sem.run_pure, Result.andThen_ok, newRow_run, Sem.run_bind]
   ·simp only [if_neg hN, Sem.run_bind, hzr, Result.andThen_ok, Sem.run_map, Sem.run_pure, newRow_run]
  refine ⟨_, _, hrun, ?_⟩
  have hcell : ∀ i j t v, At (List.replicate N ((ksOf P e).map zeroT)) i j t → ((Array.range (N * sizeP P e)).map ((if N * sizeP P e = 0 then #[] else z.cells)[· % (if N * sizeP P e = 0 then #[] else z.cells).size]!))[i * sizeP P e + j]? = some v →
    (∀ (RO FZ : Nat → Prop), Ow w RO FZ t v) ∧ ∀ (w : World) (b : Nat), ¬ Blk w t v b := by
   rintro i j t v ⟨rr, hr, hj⟩ hv
   rw [List.getElem?_replicate] at hr
   split at hr
   ·rename_i hi
    injection hr with hr
    subst hr
    rw [List.getElem?_map, Option.map_eq_some_iff] at hj
    obtain ⟨k, hk, rfl⟩ := hj
    have hjl : j < sizeP P e := by have := (List.getElem?_eq_some_iff.1 hk).1; omega
    have hne : ¬ N * sizeP P e = 0 := by
     intro e0
     rcases Nat.mul_eq_zero.1 e0 with e0 | e0 <;> omega
    simp only [if_neg hne] at hv
    rw [zeros_get hzsz hi hjl, ← Array.getElem?_toList, hze] at hv
    have := hzs j k v hk hv
    exact ⟨fun RO FZ => this.2.2.1 w RO FZ, this.2.2.2⟩
   ·cases hr
  have hO1 := hO.newRows 0 e (sz := sizeP P e) (cap := N) (rs := List.replicate N ((ksOf P e).map zeroT)) (c := (Array.range (N * sizeP P e)).map ((if N * sizeP P e = 0 then #[] else z.cells)[· % (if N * sizeP P e = 0 then #[] else z.cells).size]!))
   (fun r hr => by rw [List.eq_of_mem_replicate hr]; simp [hks]) (by simp) (by simp)
   (fun i j t v ht hv => ⟨(hcell i j t v ht hv).1 _ _, fun b hb => absurd hb ((hcell i j t v ht hv).2 _ _)⟩)
   (fun i j t v i' j' t' v' ht hv _ _ _ b hb => absurd hb ((hcell i j t v ht hv).2 _ _)) (Nat.le_refl _)
  simp only [List.take_nil, List.nil_append, List.length_replicate] at hO1
  have hO2 := OK.place (pend := []) hO1 hq
  refine ⟨_, FZ, hO2, ext_new hq _ _, ?_, push_wd hO.n0 _⟩
  show RepV _ _ (.sl (nKey key 0) true 0 N (sizeP P e)) _
  exact .sl (by rw [vers, putS_bump]; omega) (upd_same _ _ _) (by omega) (by omega) (Nat.le_refl _) (fun _ => by omega) (.inl (by omega))
 ·cases h
theorem cut0_sound {key : Nat} {t e : TypeId} {lo : Option V} {lo' : Option Value} {hi mx a : V} {hi' mx' x : Value} {r : V × Objs × List (Bool × Nat)} (hu : P.underlying t = some (.slice e)) (hue : ∃ d, P.underlying e = some d) (hO : OK X w FZ β s [])
  (hl : RepOp (vers s) β lo lo') (hh : RepV (vers s) β hi hi') (hm : RepV (vers s) β mx mx') (ha : RepV (vers s) β a x) (h : (cut0H key (sizeP P e) lo hi mx a).run s fp = some r) :
  ∃ z w', (Instr.sliceAt t x lo' (some hi') (some mx')).run P w = .ok z w' ∧ Post X FZ β s w r.1 r.2.1 z w' := by
 unfold cut0H at h
 simp only [sEq_eq] at h
 obtain ⟨kl, hA⟩ := optK_run h
 try dsimp only at hA
 obtain ⟨m1, rfl, hB⟩ := idxK_run hA
 try dsimp only at hB
 obtain ⟨m2, rfl, hC⟩ := idxK_run hB
 try dsimp only at hC
 obtain ⟨hc, hD⟩ := chk_run hC
 obtain ⟨hq, h3⟩ := new_run hD
 obtain rfl := ret_run h3
 clear h hA hB hC hD
 simp only [Bool.and_eq_true, decide_eq_true_eq] at hc
 obtain ⟨⟨⟨e1, e2⟩, e3⟩, hx⟩ := hc
 subst e2 e3
 obtain rfl := rep_im hh
 obtain rfl := rep_im hm
 have hsl : ∃ p n cap, x = .slice p n cap := by
  cases ha with
  | nl => exact ⟨_, _, _, rfl⟩
  | sl0 => exact ⟨_, _, _, rfl⟩
  | se => exact ⟨_, _, _, rfl⟩
  | sl => exact ⟨_, _, _, rfl⟩
  | _ => cases hx
 obtain ⟨p, n, cap, rfl⟩ := hsl
 refine ⟨.slice p 0 0, w, ?_, ?_⟩
 ·simp only [Instr.sliceAt, Sem.run_bind, run_underlying hu, Result.andThen_ok, Instr.slice]
  have hb : (Instr.sliceBounds true n cap lo' (some (.int .i64 0)) (some (.int .i64 0))).run P w = .ok (0, 0, 0) w := by
   unfold Instr.sliceBounds
   simp only [Sem.run_bind, Result.andThen_ok]
   rw [bound_run (by omega) (by omega)]
   simp only [Result.andThen_ok, Sem.run_bind]
   rw [bound_run (by omega) (by omega)]
   simp only [Result.andThen_ok, Sem.run_bind]
   rcases hl.int kl with ⟨rfl, rfl⟩ | ⟨k, rfl, rfl⟩
   ·simp
   ·have e1 : k = 0 := e1
    subst e1
    simp only [Option.isSome_some, if_true, Sem.run_bind]
    rw [bound_run (by omega) (by omega)]
    simp
  rw [hb]
  simp only [Result.andThen_ok, run_sizeP hue, Sem.run_pure]
  simp
 ·have ho : Ow w X.RO FZ (.sl .own (sizeP P e) []) (.slice p 0 0) := by cases p with
   | none => exact .nil
   | some p => exact .emp
  have noB : ∀ b, ¬ Blk w (.sl .own (sizeP P e) []) (.slice p 0 0) b := by
   intro b hb
   generalize hv : Value.slice p 0 0 = v at hb
   generalize ht : T.sl .own (sizeP P e) [] = t at hb
   cases hb with
   | here h0 => injection hv with _ _ h1; omega
   | deep h0 => injection hv with _ _ h1; omega
  have hO1 := hO.add (pend := []) ho (fun u b _ => noB b) (fun b hb => absurd hb (noB b))
  have hO2 := OK.place (pend := []) hO1 hq
  refine ⟨_, FZ, hO2, ext_new hq _ _, ?_, Wd.refl X FZ w⟩
  cases p with
  | none => exact .sl0 (by unfold nKey; omega) (by rw [vers, putS_bump]; omega) (upd_same _ _ _)
  | some p => exact .se (by rw [vers, putS_bump]; omega) (upd_same _ _ _)
end Go.Vm
namespace Go.Vm
set_option linter.unusedVariables false
set_option linter.unusedSimpArgs false
variable {P : Program} {X : Cx} {FZ : Nat → Prop} {β : Nat → Value} {s s' : Objs} {w : World} {v : V} {fp fp' : List (Bool × Nat)} {pend : List (T × Value)}
structure Filled (X : Cx) (w : World) (FZ : Nat → Prop) (sz n : Nat) (rs : List (List T)) (c : Array Value) (pend : List (T × Value)) : Prop where
 len : rs.length = n
 wid : ∀ r ∈ rs, r.length = sz
 size : c.size = n * sz
 flat : ∀ (i : Nat) (x : Value), c[i]? = some x → flat x
 src : ∃ κ : Nat → Nat → Option Nat, (∀ i j t v, At rs i j t → c[i * sz + j]? = some v → match κ i j with | none => (∀ RO FZ, Ow w RO FZ t v) ∧ ∀ b, ¬ Blk w t v b | some k => pend[k]? = some (t, v)) ∧
  ∀ i j i' j' k, κ i j = some k → κ i' j' = some k → i = i' ∧ j = j'
theorem Filled.step {sz n i : Nat} {rs : List (List T)} {c : Array Value} (h : Filled X w FZ sz n rs c pend) (hi : i < n) {ts : List T} {xs : List Value} (hl : ts.length = sz) (hx : xs.length = sz) (hf : ∀ x ∈ xs, Vm.flat x) :
  Filled X w FZ sz n (rs.set i ts) (spl c (i * sz) xs) (pend ++ ts.zip xs) := by
 have hb : i * sz + xs.length ≤ c.size := by
  rw [h.size]
  have : (i + 1) * sz ≤ n * sz := Nat.mul_le_mul_right _ hi
  rw [Nat.add_mul] at this
  omega
 obtain ⟨κ, h1, h2⟩ := h.src
 refine ⟨by simp [h.len], fun r hr => ?_, by rw [spl_size hb]; exact h.size, fun m x hm => ?_, fun i' j' => if i' = i then (if j' < sz then some (pend.length + j') else none) else (match κ i' j' with | some k => if k < pend.length then some k else none | none => none), ?_, ?_⟩
 ·rcases List.mem_or_eq_of_mem_set hr with hr | rfl
  ·exact h.wid r hr
  ·exact hl
 ·rw [spl_get hb] at hm
  split at hm
  ·exact hf x (List.mem_of_getElem? hm)
  ·exact h.flat m x hm
 ·intro i' j' t v ht hv
  obtain ⟨r, hr, hj⟩ := ht
  rw [List.getElem?_set] at hr
  rw [spl_get hb] at hv
  split at hr
  ·rename_i e
   subst e
   split at hr
   ·injection hr with hr
    subst hr
    have hj' := (List.getElem?_eq_some_iff.1 hj).1
    rw [if_pos (by omega)] at hv
    have e : i * sz + j' - i * sz = j' := by omega
    rw [e] at hv
    simp only [if_true, if_pos (show j' < sz by omega)]
    rw [List.getElem?_append_right (by omega), show pend.length + j' - pend.length = j' by omega, List.getElem?_zip_eq_some]
    exact ⟨hj, hv⟩
   ·cases hr
  ·rename_i e
   have hwr := h.wid r (List.mem_of_getElem? hr)
   have hj' := (List.getElem?_eq_some_iff.1 hj).1
   rw [if_neg] at hv
   ·have := h1 i' j' t v ⟨r, hr, hj⟩ hv
    dsimp only
    rw [if_neg (show ¬ i' = i from fun e' => e e'.symm)]
    cases hk : κ i' j' with
    | none => rw [hk] at this; exact this
    | some k =>
     rw [hk] at this
     have hlt := (List.getElem?_eq_some_iff.1 this).1
     simp only [if_pos hlt]
     rw [List.getElem?_append_left hlt]
     exact this
   ·rintro ⟨z1, z2⟩
    rcases Nat.lt_trichotomy i' i with hlt' | rfl | hgt
    ·have : (i' + 1) * sz ≤ i * sz := Nat.mul_le_mul_right _ hlt'
     rw [Nat.add_mul] at this
     omega
    ·exact e rfl
    ·have : (i + 1) * sz ≤ i' * sz := Nat.mul_le_mul_right _ hgt
     rw [Nat.add_mul] at this
     omega
 ·intro a b a' b' k e1 e2
  dsimp only at e1 e2
  split at e1 <;> split at e2
  ·rename_i q1 q2
   subst q1 q2
   split at e1
   ·split at e2
    ·injection e1 with e1; injection e2 with e2; exact ⟨rfl, by omega⟩
    ·cases e2
   ·cases e1
  ·split at e1
   ·injection e1 with e1
    split at e2
    ·split at e2
     ·injection e2 with e2; omega
     ·cases e2
    ·cases e2
   ·cases e1
  ·split at e2
   ·injection e2 with e2
    split at e1
    ·split at e1
     ·injection e1 with e1; omega
     ·cases e1
    ·cases e1
   ·cases e2
  ·split at e1
   ·rename_i k1 hk1
    split at e1
    ·injection e1 with e1
     subst e1
     split at e2
     ·rename_i k2 hk2
      split at e2
      ·injection e2 with e2
       subst e2
       exact h2 _ _ _ _ _ hk1 hk2
      ·cases e2
     ·cases e2
    ·cases e1
   ·cases e1
theorem buildGo_sound {n sz : Nat} {ks : List Kd} (hks : ks.length = sz) : ∀ {ps : List (Nat × V)} {xs : List (Nat × Value)} {rs : List (List T)} {c : Array Value} {k : List (List T) → H V} {s : Objs} {pend : List (T × Value)} {fp : List (Bool × Nat)} {r : V × Objs × List (Bool × Nat)},
  RepPs (vers s) β ps xs → (buildSliceGo n ks ps rs k).run s fp = some r → OK X w FZ β s pend → Filled X w FZ sz n rs c pend →
  ∃ rs' c' s' pend' fp', Instr.fill (fun i => some (i * sz, sz)) c xs = some c' ∧ (k rs').run s' fp' = some r ∧ OK X w FZ β s' pend' ∧ Filled X w FZ sz n rs' c' pend' ∧ ∀ i, (s i).ver ≤ (s' i).ver := by
 intro ps
 induction ps with
 | nil =>
  intro xs rs c k s pend fp r hp h hO hF
  cases hp
  exact ⟨rs, c, s, pend, fp, rfl, h, hO, hF, fun _ => Nat.le_refl _⟩
 | cons p ps ih =>
  intro xs rs c k s pend fp r hp h hO hF
  cases hp with
  | cons hv hs =>
   rename_i i u x xs
   simp only [buildSliceGo] at h
   obtain ⟨hc, h2⟩ := chk_run h
   simp only [Bool.and_eq_true] at hc
   obtain ⟨⟨hn, hi⟩, hl⟩ := hc
   have hi : i < n := by simpa [Nat.blt_eq] using hi
   have hl := beq_eq hl
   obtain ⟨k1, k2, k3⟩ := rep_cells (rep_castT hv (ksTy ks)) (castT_notNo _ hn)
   obtain ⟨ts, s1, fp1, hown, h3⟩ := foldOwn_run _ _ h2
   have htl := hown.length
   have hO1 := foldOwn_sem hown hO (xs := x.cells.toList) (by simp [k1]) (fun i u y hu hy => k3 i u y hu (by simpa using hy))
   have hF1 := hF.step hi (ts := ts) (xs := x.cells.toList) (by omega) (by simp; omega) (fun y hy => by
    obtain ⟨m, hm⟩ := List.mem_iff_getElem?.1 hy
    exact k2 m y (by simpa using hm))
   have hs1 : RepPs (vers s1) β ps xs := by
    have hver := hown.ver
    clear h h2 h3 ih hO1 hF1
    induction hs with
    | nil => exact .nil
    | cons h _ ih => exact .cons (h.ver hver) ih
   obtain ⟨rs', c', s', pend', fp', h4, h5, h6, h7, h8⟩ := ih hs1 h3 hO1 hF1
   refine ⟨rs', c', s', pend', fp', ?_, h5, h6, h7, fun i => Nat.le_trans (hown.ver i) (h8 i)⟩
   rw [fill_step rfl (by omega) (by
    rw [hF.size]
    have : (i + 1) * sz ≤ n * sz := Nat.mul_le_mul_right _ hi
    rw [Nat.add_mul] at this
    omega)]
   exact h4
theorem OK.ofFilled {sz n : Nat} {rs : List (List T)} {c : Array Value} (t : TypeId) (h : OK X w FZ β s pend) (hF : Filled X w FZ sz n rs c pend) :
  OK X (World.push w (.cells c t (0, 0))) FZ β s [(.sl .own sz rs, .slice (some ⟨w.heap.size, 0, none⟩) n n)] := by
 obtain ⟨κ, h1, h2⟩ := hF.src
 have := h.newRows 0 t (sz := sz) (cap := n) (rs := rs) (c := c) hF.wid (by rw [hF.len]; exact Nat.le_refl _) (by rw [hF.size]; exact Nat.le_refl _)
  (fun i j t v ht hv => by
   have := h1 i j t v ht hv
   cases hk : κ i j with
   | none => rw [hk] at this; exact ⟨this.1 _ _, fun b hb => absurd hb (this.2 b)⟩
   | some k => rw [hk] at this; exact ⟨h.pow k _ this, fun b hb => ⟨k, Nat.zero_le _, _, this, hb⟩⟩)
  (fun i j t v i' j' t' v' ht hv ht' hv' hne b hb hb' => by
   have q1 := h1 i j t v ht hv
   have q2 := h1 i' j' t' v' ht' hv'
   cases hk : κ i j with
   | none => rw [hk] at q1; exact q1.2 b hb
   | some k =>
    cases hk' : κ i' j' with
    | none => rw [hk'] at q2; exact q2.2 b hb'
    | some k' =>
     rw [hk] at q1
     rw [hk'] at q2
     by_cases e : k = k'
     ·subst e
      have := h2 _ _ _ _ _ hk hk'
      omega
     ·exact h.apart (.inr k) (.inr k') b (by intro e'; injection e'; omega) ⟨_, q1, hb⟩ ⟨_, q2, hb'⟩)
  (Nat.zero_le _)
 rw [hF.len] at this
 simpa using this
theorem buildSlice_sound {key n : Nat} {t : TypeId} {ps : List (Nat × V)} {xs : List (Nat × Value)} {r : V × Objs × List (Bool × Nat)} (hO : OK X w FZ β s []) (hp : RepPs (vers s) β ps xs)
  (h : (buildSliceH P key t n ps).run s fp = some r) : ∃ z w', (Instr.buildSlice t n xs.toArray).run P w = .ok z w' ∧ Post X FZ β s w r.1 r.2.1 z w' := by
 unfold buildSliceH at h
 split at h
 ·rename_i e hu
  obtain ⟨hc, h2⟩ := chk_run h
  simp only [Bool.and_eq_true] at hc
  obtain ⟨⟨⟨⟨⟨hp0, hn⟩, hsz⟩, hue⟩, hz⟩, hks⟩ := hc
  have hp0 : 0 < sizeP P e := by simpa [Nat.blt_eq] using hp0
  have hn := Nat.le_of_ble_eq_true hn
  have hsz := Nat.le_of_ble_eq_true hsz
  have hks := beq_eq hks
  obtain ⟨z, hzr, hze⟩ := zeroP_run (P := P) (w := w) hz
  obtain ⟨hzl, hzs⟩ := zeroOk_spec hz
  have hzsz : z.cells.size = sizeP P e := by rw [← Array.length_toList, hze]; omega
  have hF0 : Filled X w FZ (sizeP P e) n (List.replicate n ((ksOf P e).map zeroT)) ((Array.range (n * sizeP P e)).map ((if n * sizeP P e = 0 then #[] else z.cells)[· % (if n * sizeP P e = 0 then #[] else z.cells).size]!)) [] := by
   have hne : ∀ {i}, i < n → ¬ n * sizeP P e = 0 := by
    intro i hi e0
    rcases Nat.mul_eq_zero.1 e0 with e0 | e0 <;> omega
   refine ⟨by simp, fun r hr => by rw [List.eq_of_mem_replicate hr]; simp [hks], by simp, fun m x hm => ?_, fun _ _ => none, ?_, fun _ _ _ _ _ e => by cases e⟩
   ·have hlt := (Array.getElem?_eq_some_iff.1 hm).1
    simp at hlt
    have hn0 : ¬ n * sizeP P e = 0 := by omega
    simp only [if_neg hn0] at hm
    have hdm : m = (m / sizeP P e) * sizeP P e + m % sizeP P e := by rw [Nat.mul_comm]; exact (Nat.div_add_mod m (sizeP P e)).symm
    have h1 : m % sizeP P e < sizeP P e := Nat.mod_lt _ hp0
    rw [hdm, zeros_get hzsz (Nat.div_lt_of_lt_mul (by rw [Nat.mul_comm]; exact hlt)) h1, ← Array.getElem?_toList, hze] at hm
    exact (hzs _ _ x (List.getElem?_eq_getElem (by omega)) hm).1
   ·rintro i j t v ⟨rr, hr, hj⟩ hv
    rw [List.getElem?_replicate] at hr
    split at hr
    ·rename_i hi
     injection hr with hr
     subst hr
     rw [List.getElem?_map, Option.map_eq_some_iff] at hj
     obtain ⟨k, hk, rfl⟩ := hj
     have hjl : j < sizeP P e := by have := (List.getElem?_eq_some_iff.1 hk).1; omega
     simp only [if_neg (hne hi)] at hv
     rw [zeros_get hzsz hi hjl, ← Array.getElem?_toList, hze] at hv
     have := hzs j k v hk hv
     exact ⟨fun RO FZ => this.2.2.1 w RO FZ, this.2.2.2 w⟩
    ·cases hr
  obtain ⟨rs', c', s', pend', fp', h4, h5, h6, h7, h8⟩ := buildGo_sound (X := X) (FZ := FZ) (w := w) hks hp h2 hO hF0
  obtain ⟨hq, h9⟩ := new_run h5
  obtain rfl := ret_run h9
  have hO1 := h6.ofFilled e h7
  have hO2 := OK.place (pend := []) hO1 hq
  refine ⟨.slice (some ⟨w.heap.size, 0, none⟩) n n, World.push w (.cells c' e (0, 0)), ?_, _, FZ, hO2, fun i hi => ?_, ?_, push_wd hO.n0 _⟩
  ·simp only [Instr.buildSlice, Sem.run_bind, run_underlying hu, Result.andThen_ok, sizePos_run hp0]
   rw [if_neg (by
    have := Nat.mul_le_mul hn hsz
    omega)]
   by_cases hN : n * sizeP P e = 0
   ·simp only [hN, if_true, Sem.run_bind, Sem.run_pure, Result.andThen_ok] at h4 ⊢
    rw [h4]
    simp only [Sem.run_bind, newRow_run, Result.andThen_ok, Sem.run_pure]
   ·simp only [if_neg hN, Sem.run_bind, hzr, Result.andThen_ok, Sem.run_pure, Sem.run_map] at h4 ⊢
    rw [h4]
    simp only [Sem.run_bind, newRow_run, Result.andThen_ok, Sem.run_pure]
  ·have := ext_new (β := β) hq (some (.rows .own (sizeP P e) rs')) (.slice (some ⟨w.heap.size, 0, none⟩) n n) i (Nat.le_trans hi (h8 i))
   exact this
  ·exact .sl (by rw [vers, putS_bump]; omega) (upd_same _ _ _) (by omega) (by omega) (Nat.le_refl _) (fun _ => by omega) (.inl (by omega))
 ·cases h
end Go.Vm
