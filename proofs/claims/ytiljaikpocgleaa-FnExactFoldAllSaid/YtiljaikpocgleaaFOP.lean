/- folds: the plain law: putting one by one into sorted rows, and merging first and sorting then, come to the same -/
import Derived.Test.YtiljaikpocgleaaFOT
import Derived.Test.YtiljaikpocgleaaOkB
namespace Go.Vm
open Go.Sort Go.Proofs
set_option linter.unusedVariables false
set_option linter.unusedSimpArgs false
theorem sCap_eq (n : Int) : sCap n = mCap n := by rw [sCap, sld_eq]
theorem sSm_eq (j : Nat) (a b : List T) : sSm j a b = mSm j a b := by rw [sSm, sld_eq]
theorem sPut_eq (rs : List (List T)) (a : List T) : sPut rs a = putW a rs := by rw [sPut, sld_eq]
theorem sFold_eq (rs : List (List T)) : sFold rs = foldW rs := by rw [sFold, sld_eq]
theorem sSort_eq (rs : List (List T)) : sSort rs = sortW mOrder rs := by rw [sSort, sld_eq]
theorem sWin_eq (t s : Int) : sWin t s = mWin t s := by rw [sWin, sld_eq]
theorem sFA_eq (rs : List (List T)) (n : Int) : sFA rs n = bif mIn n 1 1000000 && decide (rs.length ≤ 300) then foldW ((rs.filter mIsEvent).map (evA n)) else [] := by rw [sFA, sld_eq]
theorem sKT_eq (rs : List (List T)) : sKT rs = bif rs.all mAggOk then foldW (rs.map win0) else [] := by rw [sKT, sld_eq]
theorem sML_eq (rs ss : List (List T)) : sML rs ss = bif rs.all mAggOk && ss.all mAggOk then foldW (rs ++ ss) else [] := by rw [sML, sld_eq]
theorem pAgg_eq (rs : List (List T)) : pAgg rs = (shRs kAggT rs && rs.all mAggOk && decide (rs.length ≤ 4194304)) := by rw [pAgg, sld_eq]

theorem sameWK_iff {a b : List T} : sameWK a b = true ↔ cI a 0 = cI b 0 ∧ cI a 1 = cI b 1 := by
 rw [sameWK, Bool.and_eq_true, decide_eq_true_eq, decide_eq_true_eq]
theorem ahead_iff {a b : List T} : mAhead a b = true ↔ cI a 0 < cI b 0 ∨ (cI a 0 = cI b 0 ∧ cI a 1 < cI b 1) := by
 rw [mAhead_eq, Bool.or_eq_true, Bool.and_eq_true, decide_eq_true_eq, decide_eq_true_eq, decide_eq_true_eq]
theorem ltOrder (a b : List T) : ltOf mOrder a b = mAhead a b := by
 rw [Bool.eq_iff_iff, ahead_iff, ltOf, decide_eq_true_eq, mOrder_eq, mOr_eq, mCmp_eq, mCmp_eq]
 split <;> split <;> (try split) <;> (try split) <;> omega
theorem swoAgg : SWO (ltOf mOrder) where
 irrefl x := by rw [ltOrder, ← Bool.not_eq_true, ahead_iff]; omega
 trans x y z h1 h2 := by rw [ltOrder, ahead_iff] at *; omega
 ntrans x y z h1 h2 := by rw [ltOrder, ← Bool.not_eq_true, ahead_iff] at *; omega
theorem cI_sum0 (a b : List T) : cI (mSum a b) 0 = cI a 0 := by unfold mSum; rw [cI0]; rfl
theorem cI_sum1 (a b : List T) : cI (mSum a b) 1 = cI a 1 := by unfold mSum; rw [cI1]; rfl
noncomputable def upd1 (r x : List T) : List T := bif sameWK x r then mSum x r else x
theorem upd1_0 (r x : List T) : cI (upd1 r x) 0 = cI x 0 := by unfold upd1; cases sameWK x r <;> simp [cI_sum0]
theorem upd1_1 (r x : List T) : cI (upd1 r x) 1 = cI x 1 := by unfold upd1; cases sameWK x r <;> simp [cI_sum1]
/-- merged into what is there, or behind it -/
noncomputable def mrg (L : List (List T)) (r : List T) : List (List T) := bif L.any (fun x => sameWK x r) then L.map (upd1 r) else L ++ [r]
abbrev Srt (L : List (List T)) : Prop := L.Pairwise fun a b => mAhead a b = true
theorem put_perm {r : List T} : ∀ {L : List (List T)}, Srt L → (putW r L).Perm (mrg L r)
 | [], _ => .refl _
 | x :: L, h => by
  have h := List.pairwise_cons.1 h
  rw [putW, mrg, List.any_cons]
  cases hs : sameWK x r with
  | true =>
   rw [cond_true, Bool.true_or, cond_true, List.map_cons]
   have e : L.map (upd1 r) = L := by
    conv => rhs; rw [← List.map_id L]
    refine List.map_congr_left fun y hy => ?_
    have h1 := h.1 y hy
    rw [ahead_iff] at h1
    rw [sameWK_iff] at hs
    have : sameWK y r = false := by rw [← Bool.not_eq_true, sameWK_iff]; omega
    rw [upd1, this]; rfl
   rw [e, upd1, hs]; exact .refl _
  | false =>
   rw [cond_false, Bool.false_or]
   cases ha : mAhead r x with
   | true =>
    have e : (L.any fun x => sameWK x r) = false := by
     rw [List.any_eq_false]
     intro y hy
     have h1 := h.1 y hy
     rw [ahead_iff] at h1 ha
     rw [sameWK_iff]; omega
    rw [e, cond_true, cond_false]
    exact (List.perm_append_singleton r (x :: L)).symm
   | false =>
    rw [cond_false]
    have ih := put_perm (r := r) h.2
    rw [mrg] at ih
    cases hq : L.any fun x => sameWK x r with
    | true =>
     rw [hq, cond_true] at ih
     rw [cond_true, List.map_cons, upd1, hs]
     exact ih.cons _
    | false =>
     rw [hq, cond_false] at ih
     rw [cond_false]
     exact ih.cons _
theorem put_mem {r : List T} {L : List (List T)} {y : List T} (h : y ∈ putW r L) : (cI y 0 = cI r 0 ∧ cI y 1 = cI r 1) ∨ ∃ x ∈ L, cI y 0 = cI x 0 ∧ cI y 1 = cI x 1 := by
 induction L with
 | nil => rw [putW, List.mem_singleton] at h; subst h; exact .inl ⟨rfl, rfl⟩
 | cons x L ih =>
  rw [putW] at h
  cases hs : sameWK x r with
  | true =>
   rw [hs, cond_true, List.mem_cons] at h
   rcases h with rfl | h
   ·exact .inr ⟨x, List.mem_cons_self, cI_sum0 _ _, cI_sum1 _ _⟩
   ·exact .inr ⟨y, List.mem_cons_of_mem _ h, rfl, rfl⟩
  | false =>
   rw [hs, cond_false] at h
   cases ha : mAhead r x with
   | true =>
    rw [ha, cond_true, List.mem_cons] at h
    rcases h with rfl | h
    ·exact .inl ⟨rfl, rfl⟩
    ·exact .inr ⟨y, h, rfl, rfl⟩
   | false =>
    rw [ha, cond_false, List.mem_cons] at h
    rcases h with rfl | h
    ·exact .inr ⟨y, List.mem_cons_self, rfl, rfl⟩
    ·rcases ih h with h | ⟨z, hz, h⟩
     ·exact .inl h
     ·exact .inr ⟨z, List.mem_cons_of_mem _ hz, h⟩
theorem put_sorted {r : List T} : ∀ {L : List (List T)}, Srt L → Srt (putW r L)
 | [], _ => List.pairwise_singleton _ _
 | x :: L, h => by
  have h := List.pairwise_cons.1 h
  rw [putW]
  cases hs : sameWK x r with
  | true =>
   rw [cond_true]
   refine List.pairwise_cons.2 ⟨fun y hy => ?_, h.2⟩
   have h1 := h.1 y hy
   rw [ahead_iff] at h1 ⊢
   rw [cI_sum0, cI_sum1]; exact h1
  | false =>
   rw [cond_false]
   cases ha : mAhead r x with
   | true =>
    rw [cond_true]
    refine List.pairwise_cons.2 ⟨fun y hy => ?_, List.pairwise_cons.2 h⟩
    rcases List.mem_cons.1 hy with rfl | hy
    ·exact ha
    ·have h1 := h.1 y hy
     rw [ahead_iff] at h1 ha ⊢; omega
   | false =>
    rw [cond_false]
    refine List.pairwise_cons.2 ⟨fun y hy => ?_, put_sorted h.2⟩
    rw [← Bool.not_eq_true] at hs ha
    rw [sameWK_iff] at hs
    rw [ahead_iff] at ha ⊢
    rcases put_mem hy with e | ⟨z, hz, e⟩
    ·omega
    ·have h1 := h.1 z hz
     rw [ahead_iff] at h1; omega
theorem mrg_perm {L L' : List (List T)} (h : L.Perm L') (r : List T) : (mrg L r).Perm (mrg L' r) := by
 have e : (L.any fun x => sameWK x r) = L'.any fun x => sameWK x r := by
  rw [Bool.eq_iff_iff, List.any_eq_true, List.any_eq_true]
  exact ⟨fun ⟨x, hx, q⟩ => ⟨x, h.mem_iff.1 hx, q⟩, fun ⟨x, hx, q⟩ => ⟨x, h.mem_iff.2 hx, q⟩⟩
 rw [mrg, mrg, e]
 cases L'.any fun x => sameWK x r with
 | true => exact h.map _
 | false => exact h.append_right _
theorem folds_perm : ∀ (rs : List (List T)) {L L' : List (List T)}, Srt L → L.Perm L' → Srt (rs.foldl (fun L a => putW a L) L) ∧ (rs.foldl (fun L a => putW a L) L).Perm (rs.foldl mrg L')
 | [], _, _, h1, h2 => ⟨h1, h2⟩
 | r :: rs, L, L', h1, h2 => folds_perm rs (put_sorted h1) ((put_perm h1).trans (mrg_perm h2 r))
/-- no two alike -/
abbrev Dst (L : List (List T)) : Prop := L.Pairwise fun a b => sameWK a b = false
theorem Srt.dst {L : List (List T)} (h : Srt L) : Dst L := h.imp fun {a b} q => by
 rw [ahead_iff] at q
 rw [← Bool.not_eq_true, sameWK_iff]; omega
theorem Dst.perm {L L' : List (List T)} (h : Dst L) (p : L.Perm L') : Dst L' := p.pairwise h fun {a b} q => by
 rw [← Bool.not_eq_true, sameWK_iff] at q ⊢; omega
theorem folded_eq (rs : List (List T)) : sortW mOrder (rs.foldl mrg []) = foldW rs := by
 obtain ⟨h1, h2⟩ := folds_perm rs (L := []) (L' := []) List.Pairwise.nil (.refl _)
 obtain ⟨h3, h4⟩ := sortW_perm swoAgg (rs.foldl mrg [])
 have h5 := (h1.dst.perm h2).perm h3.symm
 have h6 : Srt (sortW mOrder (rs.foldl mrg [])) := by
  refine (h5.and h4).imp fun {a b} q => ?_
  obtain ⟨q1, q2⟩ := q
  rw [ltOrder, ← Bool.not_eq_true, ahead_iff] at q2
  rw [← Bool.not_eq_true, sameWK_iff] at q1
  rw [ahead_iff]; omega
 refine List.Perm.eq_of_pairwise (le := fun a b => mAhead a b = true) (fun a b _ _ q1 q2 => ?_) h6 h1 (h3.trans h2.symm)
 rw [ahead_iff] at q1 q2; omega
theorem cap_rng {n : Int} (h : -2000000000 ≤ n) : -1000000000 ≤ mCap n ∧ mCap n ≤ 1000000000 ∧ (1 ≤ n → 1 ≤ mCap n) := by
 unfold mCap; split <;> (try split) <;> omega
theorem aggOk_iff {r : List T} : mAggOk r = true ↔ (0 ≤ cI r 0 ∧ cI r 0 ≤ 1000000) ∧ (0 ≤ cI r 1 ∧ cI r 1 ≤ 65535) ∧ (1 ≤ cI r 2 ∧ cI r 2 ≤ 1000000000) ∧ (-1000000000 ≤ cI r 3 ∧ cI r 3 ≤ 1000000000) ∧ (-1000000 ≤ cI r 4 ∧ cI r 4 ≤ 1000000) ∧ (-1000000 ≤ cI r 5 ∧ cI r 5 ≤ 1000000) ∧ cI r 4 ≤ cI r 5 := by
 rw [mAggOk_eq]
 simp only [Bool.and_eq_true, mIn_eq, decide_eq_true_eq, and_assoc]
theorem sum_ok {a b : List T} (h1 : mAggOk a = true) (h2 : mAggOk b = true) : mAggOk (mSum a b) = true := by
 rw [aggOk_iff] at h1 h2 ⊢
 have q1 := cap_rng (n := cI a 2 + cI b 2) (by omega)
 have q2 := cap_rng (n := cI a 3 + cI b 3) (by omega)
 unfold mSum
 simp only [cI0, cI1, cI2, cI3, cI4, cI5, mSm]
 refine ⟨h1.1, h1.2.1, by omega, by omega, ?_, ?_, ?_⟩ <;> split <;> (try split) <;> omega
theorem put_all {q : List T → Bool} {a : List T} (ha : q a = true) (hs : ∀ x, q x = true → q (mSum x a) = true) : ∀ {L : List (List T)}, L.all q = true → (putW a L).all q = true
 | [], _ => by rw [putW, List.all_cons, ha]; rfl
 | x :: L, h => by
  rw [List.all_cons, Bool.and_eq_true] at h
  rw [putW]
  cases sameWK x a with
  | true => rw [cond_true, List.all_cons, hs x h.1, h.2]; rfl
  | false =>
   rw [cond_false]
   cases mAhead a x with
   | true => rw [cond_true, List.all_cons, List.all_cons, ha, h.1, h.2]; rfl
   | false => rw [cond_false, List.all_cons, h.1, put_all ha hs h.2]; rfl
theorem put_len (a : List T) : ∀ (L : List (List T)), (putW a L).length ≤ L.length + 1
 | [] => Nat.le_refl _
 | x :: L => by
  rw [putW]
  cases sameWK x a with
  | true => rw [cond_true]; simp
  | false =>
   rw [cond_false]
   cases mAhead a x with
   | true => rw [cond_true]; simp
   | false => rw [cond_false]; simp only [List.length_cons]; have := put_len a L; omega
theorem sum_sh (a b : List T) : shR kAggT (mSum a b) = true := rfl
theorem shRs_all {row : List KT} : ∀ {L : List (List T)}, shRs row L = L.all (shR row)
 | [] => by unfold shRs; rfl
 | r :: L => by rw [shRs, List.all_cons, shRs_all]
theorem pAgg_put {a : List T} {L : List (List T)} {n : Nat} (h1 : shR kAggT a = true) (h2 : mAggOk a = true) (hL : shRs kAggT L = true ∧ L.all mAggOk = true ∧ L.length ≤ n) : shRs kAggT (putW a L) = true ∧ (putW a L).all mAggOk = true ∧ (putW a L).length ≤ n + 1 := by
 rw [shRs_all] at hL ⊢
 exact ⟨put_all h1 (fun x _ => sum_sh _ _) hL.1, put_all h2 (fun x hx => sum_ok hx h2) hL.2.1, by have := put_len a L; omega⟩
theorem pAgg_iff {L : List (List T)} : pAgg L = true ↔ shRs kAggT L = true ∧ L.all mAggOk = true ∧ L.length ≤ 4194304 := by
 rw [pAgg_eq, Bool.and_eq_true, Bool.and_eq_true, decide_eq_true_eq, and_assoc]
theorem foldW_ok {rs : List (List T)} (h1 : shRs kAggT rs = true) (h2 : rs.all mAggOk = true) : shRs kAggT (foldW rs) = true ∧ (foldW rs).all mAggOk = true ∧ (foldW rs).length ≤ rs.length := by
 have go : ∀ (rs : List (List T)) (L : List (List T)) (n : Nat), shRs kAggT rs = true → rs.all mAggOk = true → (shRs kAggT L = true ∧ L.all mAggOk = true ∧ L.length ≤ n) →
   shRs kAggT (rs.foldl (fun L a => putW a L) L) = true ∧ (rs.foldl (fun L a => putW a L) L).all mAggOk = true ∧ (rs.foldl (fun L a => putW a L) L).length ≤ n + rs.length := by
  intro rs
  induction rs with
  | nil => exact fun L n _ _ h => h
  | cons r rs ih =>
   intro L n h1 h2 h
   rw [shRs, Bool.and_eq_true] at h1
   rw [List.all_cons, Bool.and_eq_true] at h2
   have := ih (putW r L) (n + 1) h1.2 h2.2 (pAgg_put h1.1 h2.1 h)
   rw [List.foldl_cons, List.length_cons]
   exact ⟨this.1, this.2.1, by omega⟩
 have := go rs [] 0 h1 h2 ⟨by unfold shRs; rfl, rfl, Nat.le_refl _⟩
 rw [Nat.zero_add] at this
 exact this
end Go.Vm
