/- EmittedOnce: the bodies -/
import Derived.Test.YtiljaikpocgleaaEON
import Derived.Test.YtiljaikpocgleaaMkB
import Derived.Test.YtiljaikpocgleaaOkB
import Derived.Test.YtiljaikpocgleaaDa7
namespace Go.Vm
set_option linter.unusedVariables false
set_option linter.unusedSimpArgs false
theorem sOnce_eq (rs : List (List T)) : sOnce rs = (rs.all mAggOk && onceB rs) := by rw [sOnce, sld_eq]
theorem b_allOk {rs : List (List T)} (h : pEq kAggT rs = true) : body lp0 ET56 58 [.c (.sl .ro 6 rs)] [] = some (.ret (oB (mAreAggs rs))) := by
 obtain ⟨hs, _, hn⟩ := pEq3 h
 rw [nf_58, mAreAggs_eq]
 rw [lp0_find0 (ds0 := [tB false, tI 0]) (fun i => [tB false, tI i]) rs.length (fun i => bif mAggOk (rs.getD i []) then none else some (oB false)) (x := [tB false, tI rs.length]) rfl (fun i hi => ?step) ?fin]
 case step =>
  have hg : rs.getD i [] = rs[i] := by simp [List.getD, hi]
  simp only [tAt0, tAt1, iT_im, bT_im, okT_i, okT_b, Bool.and_true, cond_true, lt_len hi, le_0, agg_okc hs hi, cI_at hi, row6 hs hi, sh_get hs hi, add1i (Nat.lt_of_lt_of_le hi hn), hg]
  cases mAggOk rs[i] <;> rfl
 case fin => simp only [tAt0, tAt1, iT_im, bT_im, okT_i, okT_b, Bool.and_true, cond_true, cond_false, lt_len']
 rw [range_all rs mAggOk (oB false) _ fun i hi => by simp [List.getD, hi]]
 cases rs.all mAggOk with
 | false => rfl
 | true => simp only [cond_true, Option.elim_some, LRes.elim', tAt0, tAt1, okT_i, okT_b, Bool.and_true]
theorem okc2 {rs : List (List T)} {i j : Nat} (hs : shRs kAggT rs = true) (hi : i < rs.length) (hj : j < 6) : sOkC [.int .i64] rs (i : Int).toNat j = true := by
 have := okc_sh' hs hi
 rw [sOkC_eq] at this ⊢
 simp only [kAggT, List.map, KT.kd, okCells, Bool.and_eq_true] at this ⊢
 match j, hj with
 | 0, _ => exact ⟨this.1, trivial⟩
 | 1, _ => exact ⟨this.2.1, trivial⟩
 | 2, _ => exact ⟨this.2.2.1, trivial⟩
 | 3, _ => exact ⟨this.2.2.2.1, trivial⟩
 | 4, _ => exact ⟨this.2.2.2.2.1, trivial⟩
 | 5, _ => exact ⟨this.2.2.2.2.2.1, trivial⟩
/-- none of those ahead is alike -/
noncomputable def aheadB (rs : List (List T)) (i : Nat) : Bool := (rs.take i).any fun x => sameWK (rs.getD i []) x
theorem sameWK_comm (a b : List T) : sameWK a b = sameWK b a := by
 unfold sameWK
 rw [decide_eq_decide.2 (eq_comm (a := cI a 0)), decide_eq_decide.2 (eq_comm (a := cI a 1))]
theorem onceB_iff : ∀ rs : List (List T), onceB rs = (List.range rs.length).all fun i => !aheadB rs i := by
 intro rs
 rw [Bool.eq_iff_iff, List.all_eq_true]
 have key : onceB rs = true ↔ ∀ i j, i < j → j < rs.length → sameWK (rs.getD i []) (rs.getD j []) = false := by
  induction rs with
  | nil => simp [onceB]
  | cons r rs ih =>
   rw [onceB, Bool.and_eq_true, ih, List.all_eq_true]
   constructor
   ·rintro ⟨h1, h2⟩ i j hij hj
    obtain ⟨j, rfl⟩ : ∃ m, j = m + 1 := ⟨j - 1, by omega⟩
    simp only [List.length_cons] at hj
    cases i with
    | zero =>
     have := h1 (rs.getD j []) (by rw [List.getD_eq_getElem?_getD, List.getElem?_eq_getElem (by omega)]; exact List.getElem_mem _)
     simpa using this
    | succ i => exact h2 i j (by omega) (by omega)
   ·intro h
    refine ⟨fun x hx => ?_, fun i j hij hj => h (i + 1) (j + 1) (by omega) (by simpa using hj)⟩
    obtain ⟨j, hj, rfl⟩ := List.mem_iff_getElem.1 hx
    have := h 0 (j + 1) (by omega) (by simpa using hj)
    have e1 : (r :: rs).getD 0 [] = r := rfl
    have e2 : (r :: rs).getD (j + 1) [] = rs[j] := by simp [List.getD, hj]
    rw [e1, e2] at this
    rw [this]; rfl
 rw [key]
 constructor
 ·intro h i hi
  have hi := List.mem_range.1 hi
  rw [Bool.not_eq_true', aheadB, List.any_eq_false]
  intro x hx
  obtain ⟨k, hk, rfl⟩ := List.mem_iff_getElem.1 hx
  rw [List.length_take] at hk
  have := h k i (by omega) hi
  have hg : rs.getD k [] = rs[k]'(by omega) := by simp [List.getD, show k < rs.length by omega]
  rw [sameWK_comm, hg] at this
  rw [List.getElem_take, this]; simp
 ·intro h i j hij hj
  have := h j (List.mem_range.2 hj)
  rw [Bool.not_eq_true', aheadB, List.any_eq_false] at this
  have hx := this (rs.getD i []) (by
   rw [List.getD_eq_getElem?_getD, List.getElem?_eq_getElem (by omega)]
   exact List.mem_iff_getElem.2 ⟨i, by rw [List.length_take]; omega, by rw [List.getElem_take]; rfl⟩)
  rw [sameWK_comm]
  simpa using hx
theorem find_once {rs : List (List T)} (Q : Nat → Option Out) (h : ∀ i, i < rs.length → Q i = bif !aheadB rs i then none else some (oB false)) :
  (List.range rs.length).findSome? Q = bif onceB rs then none else some (oB false) := by
 have := range_all (List.range rs.length) (fun i => !aheadB rs i) (oB false) Q (fun i hi => by
  rw [List.length_range] at hi
  rw [h i hi]; simp)
 rw [List.length_range] at this
 rw [this, onceB_iff]
theorem b_once_spec {rs : List (List T)} (h : pEq kAggT rs = true) : body lp0 ET57 20 [.c (.sl .ro 6 rs)] [] = some (.ret (oB (sOnce rs))) := by
 obtain ⟨hs, _, hn⟩ := pEq3 h
 rw [nf_20, sOnce_eq, h, cond_true, mAreAggs_eq]
 cases rs.all mAggOk with
 | false => rfl
 | true =>
  simp only [Bool.not_true, cond_false, Bool.true_and]
  rw [lp0_find0 (ds0 := [tB false, tI 0]) (fun i => [tB false, tI i]) rs.length (fun i => bif !aheadB rs i then none else some (oB false)) (x := [tB false, tI rs.length]) rfl (fun i hi => ?step) ?fin]
  case step =>
   have hg : rs.getD i [] = rs[i] := by simp [List.getD, hi]
   simp only [tAt0, tAt1, iT_im, bT_im, okT_i, okT_b, Bool.and_true, cond_true, lt_len hi, le_0, okc2 hs hi (show 0 < 6 by decide), okc2 hs hi (show 1 < 6 by decide), cI_at hi]
   rw [lp0_find0 (ds0 := [tB false, tI 0]) (fun k => [tB false, tI k]) i (fun k => bif !sameWK (rs.getD i []) (rs.getD k []) then none else some (oB false)) (x := [tB false, tI i]) rfl (fun k hk => ?step2) ?fin2]
   case step2 =>
    have hk' : k < rs.length := by omega
    have hg' : rs.getD k [] = rs[k] := by simp [List.getD, hk']
    simp only [tAt0, tAt1, iT_im, bT_im, okT_i, okT_b, Bool.and_true, cond_true, lt_len hk', le_0, okc2 hs hk' (show 0 < 6 by decide), okc2 hs hk' (show 1 < 6 by decide), cI_at hk', sLt_eq, decide_eq_true (show (k : Int) < i by omega), add1i (Nat.lt_of_lt_of_le hk' hn), hg, hg', sEq_eq]
    rw [sameWK]
    cases decide (cI rs[i] 0 = cI rs[k] 0) with
    | false => simp only [cond_false, Option.elim_some, vAt0, okVl_b, bV_b, Bool.and_true, cond_true, Bool.false_and, Bool.not_false]
    | true =>
     cases decide (cI rs[i] 1 = cI rs[k] 1) <;> simp only [cond_true, cond_false, Option.elim_some, vAt0, okVl_b, bV_b, Bool.and_true, cond_true, Bool.true_and, Bool.not_false, Bool.not_true]
   case fin2 => simp only [tAt0, tAt1, iT_im, bT_im, okT_i, okT_b, Bool.and_true, cond_true, cond_false, sLt_eq, decide_eq_false (show ¬ (i : Int) < i by omega)]
   have hl : (rs.take i).length = i := by rw [List.length_take]; omega
   have := range_all (rs.take i) (fun x => !sameWK (rs.getD i []) x) (oB false) (fun k => bif !sameWK (rs.getD i []) (rs.getD k []) then none else some (oB false)) (fun k hk => by
    rw [hl] at hk
    rw [List.getElem_take]; simp [List.getD, show k < rs.length by omega])
   rw [hl] at this
   rw [this]
   have e : ((rs.take i).all fun x => !sameWK (rs.getD i []) x) = !aheadB rs i := by rw [aheadB, List.not_any_eq_all_not]
   rw [e]
   cases aheadB rs i with
   | true => rfl
   | false => simp only [Bool.not_false, cond_true, Option.elim_some, LRes.elim', tAt0, tAt1, okT_i, okT_b, Bool.and_true, iT_im, bT_im, add1i (Nat.lt_of_lt_of_le hi hn)]
  case fin => simp only [tAt0, tAt1, iT_im, bT_im, okT_i, okT_b, Bool.and_true, cond_true, cond_false, lt_len']
  rw [find_once _ fun i hi => rfl]
  cases onceB rs with
  | false => rfl
  | true => simp only [cond_true, Option.elim_some, LRes.elim', tAt0, tAt1, okT_i, okT_b, Bool.and_true]
/-- what has been seen -/
noncomputable def seenA (rs : List (List T)) : AL := rs.foldl (fun L r => aPut (cI r 0, cI r 1) (.bool true) L) []
theorem seenA_get (k : Int × Int) (rs : List (List T)) : aGet k (seenA rs) = if rs.any (fun x => decide ((cI x 0, cI x 1) = k)) then some (.bool true) else none := by
 have go : ∀ (rs : List (List T)) (L : AL), aGet k (rs.foldl (fun L r => aPut (cI r 0, cI r 1) (.bool true) L) L) = if rs.any (fun x => decide ((cI x 0, cI x 1) = k)) then some (.bool true) else aGet k L := by
  intro rs
  induction rs with
  | nil => intro L; simp
  | cons r rs ih =>
   intro L
   rw [List.foldl_cons, ih, aGet_put, List.any_cons]
   by_cases h : (cI r 0, cI r 1) = k
   ·simp [h]
   ·simp [h]
 exact go rs []
theorem seenA_succ {rs : List (List T)} {i : Nat} (hi : i < rs.length) : seenA (rs.take (i + 1)) = aPut (cI rs[i] 0, cI rs[i] 1) (.bool true) (seenA (rs.take i)) := by
 unfold seenA
 rw [List.take_succ_eq_append_getElem hi, List.foldl_append]; rfl
theorem b_once_impl {rs : List (List T)} (h : pEq kAggT rs = true) : body lp0 ET58 22 [.c (.sl .ro 6 rs)] [] = some (.ret (oB (sOnce rs))) := by
 obtain ⟨hs, _, hn⟩ := pEq3 h
 rw [nf_22, sOnce_eq]
 rw [lp0_find0 (ds0 := [.sl .own 3 [], tB false, tI 0]) (fun i => [.sl .own 3 ((seenA (rs.take i)).map mRow), tB false, tI i]) rs.length (fun i => bif mAggOk (rs.getD i []) && !aheadB rs i then none else some (oB false)) (x := [.sl .own 3 ((seenA rs).map mRow), tB false, tI rs.length]) (by rw [List.take_zero]; rfl) (fun i hi => ?step) ?fin]
 case step =>
  have hg : rs.getD i [] = rs[i] := by simp [List.getD, hi]
  simp only [tAt0, tAt1, tAt2, iT_im, bT_im, rT_sl, okT_i, okT_b, okT_s, Bool.and_true, cond_true, lt_len hi, le_0, agg_okc hs hi, cI_at hi, row6 hs hi, sh_get hs hi, add1i (Nat.lt_of_lt_of_le hi hn), hg]
  rw [show [Value.int .i64 (cI rs[i] 0), .int .i64 (cI rs[i] 1)] = K2 (cI rs[i] 0) (cI rs[i] 1) from rfl, mGet_row, mPut_row, seenA_get, ← seenA_succ hi]
  have ha : aheadB rs i = (rs.take i).any fun x => decide ((cI x 0, cI x 1) = (cI rs[i] 0, cI rs[i] 1)) := by
   rw [aheadB, hg]
   congr 1
   funext x
   rw [sameWK, Bool.eq_iff_iff]
   simp only [Bool.and_eq_true, decide_eq_true_eq, Prod.mk.injEq]
   exact ⟨fun h => ⟨h.1.symm, h.2.symm⟩, fun h => ⟨h.1.symm, h.2.symm⟩⟩
  rw [← ha]
  cases mAggOk rs[i] with
  | false => simp only [Bool.not_false, cond_true, Option.elim_some, vAt0, okVl_b, bV_b, Bool.and_true, Bool.false_and, cond_false]
  | true =>
   cases aheadB rs i with
   | true => simp only [Bool.not_true, cond_false, if_true, bT_im, Option.elim_some, vAt0, okVl_b, bV_b, Bool.and_true, cond_true, Bool.true_and]
   | false =>
    have hno : bT T.no = false := by rw [bT_eq]; rfl
    simp only [Bool.not_true, cond_false, Bool.false_eq_true, if_false, hno, Option.elim_some, vAt0, okVl_b, bV_b, Bool.and_true, cond_true, Bool.true_and, Bool.not_false]
 case fin => simp only [tAt0, tAt1, tAt2, iT_im, bT_im, rT_sl, okT_i, okT_b, okT_s, Bool.and_true, cond_true, cond_false, lt_len', List.take_length]
 have e : (List.range rs.length).findSome? (fun i => bif mAggOk (rs.getD i []) && !aheadB rs i then none else some (oB false)) = bif rs.all mAggOk && onceB rs then none else some (oB false) := by
  have := range_all (List.range rs.length) (fun i => mAggOk (rs.getD i []) && !aheadB rs i) (oB false) (fun i => bif mAggOk (rs.getD i []) && !aheadB rs i then none else some (oB false)) (fun i hi => by simp)
  rw [List.length_range] at this
  rw [this, onceB_iff]
  congr 1
  rw [Bool.eq_iff_iff]
  simp only [Bool.and_eq_true, List.all_eq_true, List.mem_range]
  constructor
  ·intro h
   refine ⟨fun r hr => ?_, fun i hi => (h i hi).2⟩
   obtain ⟨i, hi, rfl⟩ := List.mem_iff_getElem.1 hr
   simpa [List.getD, hi] using (h i hi).1
  ·rintro ⟨h1, h2⟩ i hi
   exact ⟨by simpa [List.getD, hi] using h1 _ (List.getElem_mem hi), h2 i hi⟩
 rw [e]
 cases rs.all mAggOk && onceB rs with
 | false => rfl
 | true => simp only [cond_true, Option.elim_some, LRes.elim', tAt0, tAt1, tAt2, okT_i, okT_b, okT_s, Bool.and_true]
theorem good57 : Good Go.Proofs.Try.prog md0 (fun _ => .own) TL57 := good_Aggs (fun h => b_allOk h) good56
theorem good58 : Good Go.Proofs.Try.prog md0 (fun _ => .own) TL58 := good_Aggs (fun h => b_once_spec h) good57
theorem good59 : Good Go.Proofs.Try.prog md0 (fun _ => .own) TL59 := good_Aggs (fun h => b_once_impl h) good58

end Go.Vm
