/- Data that are marked, and looked at again. -/
import Derived.Test.YtlfkhhmpkgehbaaDoorDa3
namespace Go.Vm
set_option linter.unusedVariables false
set_option linter.unusedSimpArgs false
noncomputable section
mutual
def mkT : T → Int → T × Int
 | .im (.int .i64 _), k => (tI k, sAdd .i64 k 1)
 | .im (.int kd _), k => (.im (.int kd (sWrap kd k)), sAdd .i64 k 1)
 | .im (.bool _), k => (tB (sEq (sRem k 3) 0), sAdd .i64 k 1)
 | .sl f sz rs, k => (.sl f sz (mkRs rs k).1, (mkRs rs k).2)
 | t, k => (t, k)
def mkRs : List (List T) → Int → List (List T) × Int
 | [], k => ([], k)
 | r :: rs, k => ((mkR r k).1 :: (mkRs rs (mkR r k).2).1, (mkRs rs (mkR r k).2).2)
def mkR : List T → Int → List T × Int
 | [], k => ([], k)
 | t :: ts, k => ((mkT t k).1 :: (mkR ts (mkT t k).2).1, (mkR ts (mkT t k).2).2)
end
mutual
def aoT : T → Bool
 | .sl .own _ rs => aoRs rs
 | .sl _ _ _ => false
 | _ => true
def aoRs : List (List T) → Bool
 | [] => true
 | r :: rs => aoR r && aoRs rs
def aoR : List T → Bool
 | [] => true
 | t :: ts => aoT t && aoR ts
end
mutual
def cnT : T → Nat
 | .im (.int _ _) => 1
 | .im (.bool _) => 1
 | .sl _ _ rs => cnRs rs
 | _ => 0
def cnRs : List (List T) → Nat
 | [] => 0
 | r :: rs => cnR r + cnRs rs
def cnR : List T → Nat
 | [] => 0
 | t :: ts => cnT t + cnR ts
end
def sMk : List (List T) → Int → List (List T) := sld fun rs k => (mkRs rs k).1
def sMkN : List (List T) → Int → Int := sld fun rs k => (mkRs rs k).2
def pMk : List KT → List (List T) → Int → Bool := sld fun row rs k => shRs row rs && aoRs rs && lenRs 4194304 rs && decide (rs.length ≤ 4194304)
open Classical in
def pHe : List KT → List (List T) → Int → Bool := sld fun row rs k => shRs row rs && lenRs 4194304 rs && decide (rs.length ≤ 4194304) && decide ((mkRs rs k).1 = rs) && decide (0 ≤ k) && decide (k + cnRs rs ≤ 1152921504606846976)
theorem sMk_eq (rs : List (List T)) (k : Int) : sMk rs k = (mkRs rs k).1 := by rw [sMk, sld_eq]
theorem sMkN_eq (rs : List (List T)) (k : Int) : sMkN rs k = (mkRs rs k).2 := by rw [sMkN, sld_eq]
theorem pMk_eq (row : List KT) (rs : List (List T)) (k : Int) : pMk row rs k = (shRs row rs && aoRs rs && lenRs 4194304 rs && decide (rs.length ≤ 4194304)) := by rw [pMk, sld_eq]
open Classical in
theorem pHe_eq (row : List KT) (rs : List (List T)) (k : Int) : pHe row rs k = (shRs row rs && lenRs 4194304 rs && decide (rs.length ≤ 4194304) && decide ((mkRs rs k).1 = rs) && decide (0 ≤ k) && decide (k + cnRs rs ≤ 1152921504606846976)) := by rw [pHe, sld_eq]
/-- the slices' rows of a struct's cells, marked, in order -/
def outsE : List T → Int → List T
 | [], _ => []
 | .sl f sz rs :: ts, k => .sl f sz (sMk rs k) :: outsE ts (sMkN rs k)
 | t :: ts, k => outsE ts k
def numE : List T → Int → Int
 | [], k => k
 | .sl f sz rs :: ts, k => numE ts (sMkN rs k)
 | t :: ts, k => numE ts k
def allE (row : List KT) : List T → Int → Bool
 | .sl f sz rs :: ts, k => (match row with | .sl r :: ks => pMk r rs k && allE ks ts (sMkN rs k) | _ => false)
 | t :: ts, k => allE (row.drop 1) ts k
 | [], _ => true
def allH (row : List KT) : List T → Int → Bool
 | .sl f sz rs :: ts, k => (match row with | .sl r :: ks => pHe r rs k && allH ks ts (sMkN rs k) | _ => false)
 | t :: ts, k => allH (row.drop 1) ts k
 | [], _ => true
/-- a struct that is all its own, and of its form -/
def pMkE : List KT → List T → Bool := sld fun row ts => shR row ts && aoR ts
def pHeE : List KT → List T → Bool := sld fun row ts => shR row ts && true
theorem pMkE_eq (row : List KT) (ts : List T) : pMkE row ts = (shR row ts && aoR ts) := by rw [pMkE, sld_eq]
theorem pHeE_eq (row : List KT) (ts : List T) : pHeE row ts = shR row ts := by rw [pHeE, sld_eq, Bool.and_true]
def gMkS (row : List KT) : GFn
 | [.c (.sl .own sz rs), aI k], [] => (Nat.beq sz row.length && pMk row rs k, ⟨[aI (sMkN rs k)], [.sl .own sz (sMk rs k)], []⟩)
 | _, _ => gNo
def gMkE (row : List KT) : GFn
 | [.ag ts, aI k], [] => (pMkE row ts && allE row ts k, ⟨[aI (numE ts k)], outsE ts k, []⟩)
 | _, _ => gNo
def gHeS (row : List KT) : GFn
 | [.c (.sl .ro sz rs), aI k], [] => (Nat.beq sz row.length && pHe row rs k, oI (sMkN rs k))
 | _, _ => gNo
def gHeE (row : List KT) : GFn
 | [.ag ts, aI k], [] => (pHeE row ts && ts.all roT && allH row ts k, oI (numE ts k))
 | _, _ => gNo

/-! ### what marking leaves -/
mutual
theorem aoT_noRo : ∀ {t : T}, aoT t = true → T.noRo t = true
 | .sl .own sz rs, h => by rw [aoT] at h; rw [T.noRo]; exact aoRs_noRo h
 | .sl .ro sz rs, h => by simp [aoT] at h
 | .sl .fz sz rs, h => by simp [aoT] at h
 | .im v, h => by simp [T.noRo]
 | .no, h => by simp [T.noRo]
theorem aoRs_noRo : ∀ {rs : List (List T)}, aoRs rs = true → noRoRs rs = true
 | [], _ => by simp [noRoRs]
 | r :: rs, h => by
  rw [aoRs, Bool.and_eq_true] at h
  rw [noRoRs, aoR_noRo h.1, aoRs_noRo h.2]; rfl
theorem aoR_noRo : ∀ {ts : List T}, aoR ts = true → noRoR ts = true
 | [], _ => by simp [noRoR]
 | t :: ts, h => by
  rw [aoR, Bool.and_eq_true] at h
  rw [noRoR, aoT_noRo h.1, aoR_noRo h.2]; rfl
end
mutual
theorem mkT_ao : ∀ {t : T} {k : Int}, aoT t = true → aoT (mkT t k).1 = true
 | .sl .own sz rs, k, h => by rw [aoT] at h; rw [mkT, aoT]; exact mkRs_ao h
 | .sl .ro sz rs, k, h => by simp [aoT] at h
 | .sl .fz sz rs, k, h => by simp [aoT] at h
 | .im v, k, h => by
  cases v with
  | int kd n => cases kd <;> simp [mkT, aoT]
  | _ => simp [mkT, aoT]
 | .no, k, h => by simp [mkT, aoT]
theorem mkRs_ao : ∀ {rs : List (List T)} {k : Int}, aoRs rs = true → aoRs (mkRs rs k).1 = true
 | [], k, _ => by simp [mkRs, aoRs]
 | r :: rs, k, h => by
  rw [aoRs, Bool.and_eq_true] at h
  rw [mkRs, aoRs, mkR_ao h.1, mkRs_ao h.2]; rfl
theorem mkR_ao : ∀ {ts : List T} {k : Int}, aoR ts = true → aoR (mkR ts k).1 = true
 | [], k, _ => by simp [mkR, aoR]
 | t :: ts, k, h => by
  rw [aoR, Bool.and_eq_true] at h
  rw [mkR, aoR, mkT_ao h.1, mkR_ao h.2]; rfl
end
theorem noRo_mk {sz : Nat} {rs : List (List T)} {k : Int} (h : aoRs rs = true) : sNoRo (.sl .own sz (sMk rs k)) = true := by
 rw [sNoRo_eq, sMk_eq, T.noRo]; exact aoRs_noRo (mkRs_ao h)
theorem mkRs_len : ∀ (rs : List (List T)) (k : Int), (mkRs rs k).1.length = rs.length
 | [], k => by simp [mkRs]
 | r :: rs, k => by rw [mkRs]; simp [mkRs_len rs]
theorem mkRs_append : ∀ (a b : List (List T)) (k : Int), mkRs (a ++ b) k = ((mkRs a k).1 ++ (mkRs b (mkRs a k).2).1, (mkRs b (mkRs a k).2).2)
 | [], b, k => by simp [mkRs]
 | r :: a, b, k => by rw [List.cons_append, mkRs, mkRs, mkRs_append a b]; rfl
theorem mkRs_succ {rs : List (List T)} {i : Nat} (hi : i < rs.length) (k : Int) :
  mkRs (rs.take (i + 1)) k = ((mkRs (rs.take i) k).1 ++ [(mkR rs[i] (mkRs (rs.take i) k).2).1], (mkR rs[i] (mkRs (rs.take i) k).2).2) := by
 rw [List.take_succ_eq_append_getElem hi, mkRs_append, mkRs, mkRs]
theorem aoRs_get : ∀ {rs : List (List T)} {i : Nat} (h : aoRs rs = true) (hi : i < rs.length), aoR rs[i] = true
 | [], i, h, hi => by simp at hi
 | r :: rs, 0, h, hi => by rw [aoRs, Bool.and_eq_true] at h; exact h.1
 | r :: rs, i + 1, h, hi => by
  rw [aoRs, Bool.and_eq_true] at h
  exact aoRs_get h.2 (by simpa using hi)
theorem mkAt (rs : List (List T)) (k : Int) {i : Nat} (hi : i < rs.length) : (mkRs rs k).1[i]? = some (mkR rs[i] (mkRs (rs.take i) k).2).1 := by
 have e : rs = rs.take (i + 1) ++ rs.drop (i + 1) := (List.take_append_drop _ _).symm
 have h1 : (mkRs rs k).1 = (mkRs (rs.take i) k).1 ++ [(mkR rs[i] (mkRs (rs.take i) k).2).1] ++ (mkRs (rs.drop (i + 1)) (mkRs (rs.take (i + 1)) k).2).1 := by
  conv => lhs; rw [e, mkRs_append, mkRs_succ hi]
  rw [mkRs_succ hi]
 rw [h1, List.append_assoc, List.getElem?_append_right (by rw [mkRs_len]; simp; omega)]
 rw [mkRs_len, List.length_take, Nat.min_eq_left (by omega), Nat.sub_self]; rfl

/-! ### rows at hand -/
theorem splice0 (t v : T) (ts : List T) : splice (t :: ts) 0 [v] = v :: ts := by simp [splice]
theorem spliceS (t v : T) (ts : List T) (c : Nat) : splice (t :: ts) (c + 1) [v] = t :: splice ts c [v] := by simp [splice, Nat.add_right_comm]
theorem setRow_s {out : List (List T)} {i : Nat} (h : i < out.length) (r : List T) (c : Nat) (v : T) : sSetRow (out.set i r) (i : Int).toNat c [v] = out.set i (splice r c [v]) := by
 rw [sSetRow_eq, Int.toNat_natCast, setRow]; simp [List.getD, h]
theorem setCell_s {out : List (List T)} {i : Nat} (h : i < out.length) (r : List T) (c : Nat) (v : T) : sSetCell (out.set i r) (i : Int).toNat c v = out.set i (r.set c v) := by
 rw [sSetCell_eq, Int.toNat_natCast, setCell]; simp [List.getD, h]
theorem cell_s {out : List (List T)} {i : Nat} (h : i < out.length) (r : List T) (c : Nat) : sCell (out.set i r) (i : Int).toNat c = r.getD c .no := by
 rw [sCell_eq, Int.toNat_natCast, cell]; simp [List.getD, h]
theorem okc_s {out : List (List T)} {i : Nat} (h : i < out.length) (r : List T) (sz : Nat) : sOkC [.sl sz] (out.set i r) (i : Int).toNat 0 = isSl sz (r.getD 0 .no) := by
 rw [sOkC_eq, okCells, okCells, ← sCell_eq, cell_s h, Bool.and_true]

/-- a loop that marks rows -/
theorem mk_loop {row : List KT} {rs : List (List T)} {k : Int} {sz : Nat} {F : List T → Option LRes}
  (hF : ∀ (i : Nat) (m : Int) (out : List (List T)) (hi : i < rs.length), i < out.length → F [.sl .own sz (out.set i rs[i]), tI m, tI i] = some (.next [.sl .own sz (out.set i (mkR rs[i] m).1), tI (mkR rs[i] m).2, tI ((i + 1 : Nat) : Int)]))
  (hE : ∀ (out : List (List T)) (m : Int), F [.sl .own sz out, tI m, tI rs.length] = some (.brk [.sl .own sz out, tI m, tI rs.length])) :
  (Option.elim (lp0 F [.sl .own sz rs, tI k, tI 0]) none fun val => val.elim' (fun ds => none) (fun ds => bif okT .own (.sl sz) (tAt ds 0) && (okT .own (.int .i64) (tAt ds 1) && (okT .own (.int .i64) (tAt ds 2) && true)) then some (.ret { rets := [aI (iT (tAt ds 1))], outs := [.sl .own sz (rT (tAt ds 0))], pos := [] }) else none) fun o => some (.ret o)) = some (LRes.ret ⟨[aI (sMkN rs k)], [.sl .own sz (sMk rs k)], []⟩) := by
 let m : Nat → Int := fun i => (mkRs (rs.take i) k).2
 let M : Nat → List (List T) := fun i => (mkRs (rs.take i) k).1 ++ rs.drop i
 have eM : M rs.length = sMk rs k := by rw [sMk_eq]; simp [M]
 have em : m rs.length = sMkN rs k := by rw [sMkN_eq]; simp [m]
 have key : lp0 F [.sl .own sz rs, tI k, tI 0] = some (.brk [.sl .own sz (sMk rs k), tI (sMkN rs k), tI rs.length]) := by
  refine lp0_for0 (fun i => [.sl .own sz (M i), tI (m i), tI i]) rs.length (by simp [M, m, mkRs]) (fun i hi => ?_) ?_
  ·have hl : (mkRs (rs.take i) k).1.length = i := by rw [mkRs_len, List.length_take]; omega
   have e1 : ∀ v : List T, (M i).set i v = (mkRs (rs.take i) k).1 ++ v :: rs.drop (i + 1) := fun v => by
    show ((mkRs (rs.take i) k).1 ++ rs.drop i).set i v = _
    rw [List.set_append_right _ _ (by omega), hl, Nat.sub_self, List.drop_eq_getElem_cons hi, List.set_cons_zero]
   have e2 : M i = (M i).set i rs[i] := by
    rw [e1, ← List.drop_eq_getElem_cons hi]
   have h1 := hF i (m i) (M i) hi (by show i < ((mkRs (rs.take i) k).1 ++ rs.drop i).length; rw [List.length_append, List.length_drop]; omega)
   rw [← e2, e1] at h1
   have e3 : M (i + 1) = (mkRs (rs.take i) k).1 ++ (mkR rs[i] (m i)).1 :: rs.drop (i + 1) := by
    show (mkRs (rs.take (i + 1)) k).1 ++ rs.drop (i + 1) = _
    rw [mkRs_succ hi, List.append_assoc]; rfl
   have e4 : m (i + 1) = (mkR rs[i] (m i)).2 := by
    show (mkRs (rs.take (i + 1)) k).2 = _
    rw [mkRs_succ hi]
   rw [e3, e4]; exact h1
  ·show F [.sl .own sz (M rs.length), tI (m rs.length), tI rs.length] = _
   rw [eM, em]; exact hE _ _
 rw [key]
 simp only [Option.elim_some, LRes.elim', tAt0, tAt1, tAt2, okT_i, okT_s, rT_sl, iT_im, Bool.and_true, cond_true]
/-! ### marks are counted -/
mutual
theorem mkT_cn : ∀ {t : T} {k : Int}, 0 ≤ k → k + cnT t ≤ 1152921504606846976 → (mkT t k).2 = k + cnT t
 | .im v, k, h0, h1 => by
  cases v with
  | int kd n =>
   have e : sAdd .i64 k 1 = k + 1 := by
    have : cnT (.im (.int kd n)) = 1 := by simp [cnT]
    rw [this] at h1
    rw [sAdd_eq, wrap64 (by omega) (by omega)]
   cases kd <;> simp [mkT, cnT, e]
  | bool b =>
   have e : sAdd .i64 k 1 = k + 1 := by
    have : cnT (.im (.bool b)) = 1 := by simp [cnT]
    rw [this] at h1
    rw [sAdd_eq, wrap64 (by omega) (by omega)]
   simp [mkT, cnT, e]
  | _ => simp [mkT, cnT]
 | .sl f sz rs, k, h0, h1 => by
  rw [cnT] at h1
  rw [mkT, cnT, mkRs_cn h0 h1]
 | .no, k, h0, h1 => by simp [mkT, cnT]
theorem mkRs_cn : ∀ {rs : List (List T)} {k : Int}, 0 ≤ k → k + cnRs rs ≤ 1152921504606846976 → (mkRs rs k).2 = k + cnRs rs
 | [], k, h0, h1 => by simp [mkRs, cnRs]
 | r :: rs, k, h0, h1 => by
  rw [cnRs] at h1
  rw [mkRs, cnRs, mkR_cn h0 (by omega), mkRs_cn (by omega) (by omega)]; omega
theorem mkR_cn : ∀ {ts : List T} {k : Int}, 0 ≤ k → k + cnR ts ≤ 1152921504606846976 → (mkR ts k).2 = k + cnR ts
 | [], k, h0, h1 => by simp [mkR, cnR]
 | t :: ts, k, h0, h1 => by
  rw [cnR] at h1
  rw [mkR, cnR, mkT_cn h0 (by omega), mkR_cn (by omega) (by omega)]; omega
end
theorem cnRs_append : ∀ (a b : List (List T)), cnRs (a ++ b) = cnRs a + cnRs b
 | [], b => by simp [cnRs]
 | r :: a, b => by rw [List.cons_append, cnRs, cnRs, cnRs_append a b]; omega
theorem cnRs_succ {rs : List (List T)} {i : Nat} (hi : i < rs.length) : cnRs (rs.take (i + 1)) = cnRs (rs.take i) + cnR rs[i] := by
 rw [List.take_succ_eq_append_getElem hi, cnRs_append, cnRs, cnRs]; omega
theorem cnRs_le (rs : List (List T)) (i : Nat) : cnRs (rs.take i) ≤ cnRs rs := by
 conv => rhs; rw [← List.take_append_drop i rs, cnRs_append]
 omega

/-- a loop that looks at marked rows -/
theorem he_loop {row : List KT} {rs : List (List T)} {k : Int} {F : List T → Option LRes} (h : pHe row rs k = true)
  (hF : ∀ (i : Nat) (m : Int) (hi : i < rs.length), 0 ≤ m → m + cnR rs[i] ≤ 1152921504606846976 → (mkR rs[i] m).1 = rs[i] → F [tI m, tI 0, tI i] = some (.next [tI (mkR rs[i] m).2, tI 0, tI ((i + 1 : Nat) : Int)]))
  (hE : ∀ m : Int, F [tI m, tI 0, tI rs.length] = some (.brk [tI m, tI 0, tI rs.length])) :
  (Option.elim (lp0 F [tI k, tI 0, tI 0]) none fun val => val.elim' (fun ds => none) (fun ds => bif okT .own (.int .i64) (tAt ds 0) && (okT .own (.int .i64) (tAt ds 1) && (okT .own (.int .i64) (tAt ds 2) && true)) then some (.ret { rets := [aI (iT (tAt ds 0))], outs := [], pos := [] }) else none) fun o => some (.ret o)) = some (LRes.ret (oI (sMkN rs k))) := by
 rw [pHe_eq] at h
 simp only [Bool.and_eq_true, decide_eq_true_eq] at h
 obtain ⟨⟨⟨_, hm⟩, h0⟩, hb⟩ := h
 let m : Nat → Int := fun i => (mkRs (rs.take i) k).2
 have em : m rs.length = sMkN rs k := by rw [sMkN_eq]; simp [m]
 have key : lp0 F [tI k, tI 0, tI 0] = some (.brk [tI (sMkN rs k), tI 0, tI rs.length]) := by
  refine lp0_for0 (fun i => [tI (m i), tI 0, tI i]) rs.length (by simp [m, mkRs]) (fun i hi => ?_) ?_
  ·have hc := cnRs_le rs (i + 1)
   rw [cnRs_succ hi] at hc
   have e1 : m i = k + cnRs (rs.take i) := mkRs_cn h0 (by omega)
   have e2 : (mkR rs[i] (m i)).1 = rs[i] := by
    have := mkAt rs k hi
    rw [hm, List.getElem?_eq_getElem hi] at this
    exact (Option.some.inj this).symm
   have e4 : m (i + 1) = (mkR rs[i] (m i)).2 := by
    show (mkRs (rs.take (i + 1)) k).2 = _
    rw [mkRs_succ hi]
   rw [e4]; exact hF i (m i) hi (by omega) (by omega) e2
  ·show F [tI (m rs.length), tI 0, tI rs.length] = _
   rw [em]; exact hE _
 rw [key]
 simp only [Option.elim_some, LRes.elim', tAt0, tAt1, tAt2, okT_i, iT_im, Bool.and_true, cond_true]

open Classical in
/-- one step into a slice of a row that is looked at -/
theorem he_step {row : List KT} {rs : List (List T)} {m : Int} {K : Option LRes} {o : LRes} (hs : shRs row rs = true) (hl : rs.length ≤ 4194304 ∧ lenRs 4194304 rs = true) (h0 : 0 ≤ m) (h1 : m + cnRs rs ≤ 1152921504606846976) (hm : (mkRs rs m).1 = rs) :
  (bif pHe row rs m then bif sLt (sMkN rs m) 0 then some o else K else none) = K := by
 have hp : pHe row rs m = true := by rw [pHe_eq, hs, hl.2, decide_eq_true hl.1, decide_eq_true hm, decide_eq_true h0, decide_eq_true h1]; rfl
 rw [hp, cond_true, sLt_eq, sMkN_eq, mkRs_cn h0 h1, decide_eq_false (by omega), cond_false]
end

section
variable {P : Program} {md : FuncId → Option (List Mode)} {fl : FuncId → Fl} {l : List (Nat × GFn)} {f : Nat} {row : List KT}
theorem good_mkS (hb : ∀ {rs k}, pMk row rs k = true → body lp0 (EE P md fl l) f [.c (.sl .own row.length rs), aI k] [] = some (.ret ⟨[aI (sMkN rs k)], [.sl .own row.length (sMk rs k)], []⟩)) (hl : Good P md fl l) : Good P md fl ((f, gMkS row) :: l) := .cons (fun xs ps h => by
 unfold gMkS at h ⊢
 split at h
 ·rw [Bool.and_eq_true] at h; obtain rfl := beq_eq h.1; exact hb h.2
 ·cases h) hl
theorem good_mkE (hb : ∀ {ts k}, shR row ts = true → aoR ts = true → allE row ts k = true → body lp0 (EE P md fl l) f [.ag ts, aI k] [] = some (.ret ⟨[aI (numE ts k)], outsE ts k, []⟩)) (hl : Good P md fl l) : Good P md fl ((f, gMkE row) :: l) := .cons (fun xs ps h => by
 unfold gMkE at h ⊢
 split at h
 ·simp only [pMkE_eq, Bool.and_eq_true] at h; exact hb h.1.1 h.1.2 h.2
 ·cases h) hl
theorem good_heS (hb : ∀ {rs k}, pHe row rs k = true → body lp0 (EE P md fl l) f [.c (.sl .ro row.length rs), aI k] [] = some (.ret (oI (sMkN rs k)))) (hl : Good P md fl l) : Good P md fl ((f, gHeS row) :: l) := .cons (fun xs ps h => by
 unfold gHeS at h ⊢
 split at h
 ·rw [Bool.and_eq_true] at h; obtain rfl := beq_eq h.1; exact hb h.2
 ·cases h) hl
theorem good_heE (hb : ∀ {ts k}, shR row ts = true → ts.all roT = true → allH row ts k = true → body lp0 (EE P md fl l) f [.ag ts, aI k] [] = some (.ret (oI (numE ts k)))) (hl : Good P md fl l) : Good P md fl ((f, gHeE row) :: l) := .cons (fun xs ps h => by
 unfold gHeE at h ⊢
 split at h
 ·simp only [pHeE_eq, Bool.and_eq_true] at h; exact hb h.1.1 h.1.2 h.2
 ·cases h) hl
end
end Go.Vm
