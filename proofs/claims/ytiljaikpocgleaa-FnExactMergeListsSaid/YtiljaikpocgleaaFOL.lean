/- laws over the folds: marks -/
import Derived.Test.YtiljaikpocgleaaFOB
import Derived.Test.YtiljaikpocgleaaDa6
namespace Go.Vm
set_option linter.unusedVariables false
set_option linter.unusedSimpArgs false
theorem ao6 {L : List (List T)} (h : shRs kAggT L = true) : aoRs L = true := by
 induction L with
 | nil => unfold aoRs; rfl
 | cons r L ih =>
  rw [shRs, Bool.and_eq_true] at h
  obtain ⟨a0, a1, a2, a3, a4, a5, rfl, _⟩ := row_Agg h.1
  rw [aoRs, ih h.2]
  simp [aoR, aoT]
theorem smk6 {L : List (List T)} (h : shRs kAggT L = true) (hn : L.length ≤ 2097152) : Smk kAggT L 12582912 := by
 refine ⟨h, ao6 h, len6 h, by omega, ?_⟩
 have h1 := cnRs_le' 0 kAggT L h (len6 h)
 simp only [cbR, cbT] at h1
 omega
structure RS6 (S : List (List T)) : Prop where
 sh : shRs kAggT S = true
 ln : S.length ≤ 2097152
theorem res_nil : RS6 [] := ⟨by unfold shRs; rfl, by simp⟩
theorem res_KT {rs : List (List T)} (h : pTo kAggT rs = true) : RS6 (sKT rs) := by
 rw [sKT_eq]
 cases hq : rs.all mAggOk with
 | false => exact res_nil
 | true =>
  obtain ⟨w1, w2⟩ := win0_all hq
  have := foldW_ok w1 w2
  rw [List.length_map] at this
  have := (pTo3 h).2.2
  exact ⟨(foldW_ok w1 w2).1, by rw [cond_true]; omega⟩
theorem res_ML {rs ss : List (List T)} (h : pTo kAggT rs = true) (h' : pTo kAggT ss = true) : RS6 (sML rs ss) := by
 rw [sML_eq]
 cases hq : rs.all mAggOk && ss.all mAggOk with
 | false => exact res_nil
 | true =>
  rw [Bool.and_eq_true] at hq
  have w1 : shRs kAggT (rs ++ ss) = true := by
   have := (pTo3 h).1
   have := (pTo3 h').1
   rw [shRs_all] at *
   rw [List.all_append, Bool.and_eq_true]; exact ⟨by assumption, by assumption⟩
  have w2 : (rs ++ ss).all mAggOk = true := by rw [List.all_append, hq.1, hq.2]; rfl
  have := foldW_ok w1 w2
  rw [List.length_append] at this
  have := (pTo3 h).2.2
  have := (pTo3 h').2.2
  exact ⟨(foldW_ok w1 w2).1, by rw [cond_true]; omega⟩
theorem res_FA {rs : List (List T)} {n : Int} (h : pTo kFrame rs = true) : RS6 (sFA rs n) := by
 rw [sFA_eq]
 cases hq : mIn n 1 1000000 && decide (rs.length ≤ 300) with
 | false => exact res_nil
 | true =>
  rw [Bool.and_eq_true, decide_eq_true_eq] at hq
  have w1 : shRs kAggT ((rs.filter mIsEvent).map (evA n)) = true := by
   rw [shRs_all, List.all_map, List.all_eq_true]; intro x _; rfl
  have w2 : ((rs.filter mIsEvent).map (evA n)).all mAggOk = true := by
   rw [List.all_map, List.all_eq_true]; intro x hx; exact ev_ok (List.mem_filter.1 hx).2 hq.1
  have := foldW_ok w1 w2
  rw [List.length_map] at this
  have := List.length_filter_le mIsEvent rs
  exact ⟨(foldW_ok w1 w2).1, by rw [cond_true]; omega⟩
theorem RS6.all {S : List (List T)} (h : RS6 S) : pEq kAggT S = true ∧ sNoRo (.sl .own 6 S) = true ∧ pMk kAggT S 1 = true ∧ sNoRo (.sl .own 6 (sMk S 1)) = true ∧ pHe kAggT (sMk S 1) 1 = true ∧ sLt (sMkN S 1) 0 = false := by
 have o := smk6 h.sh h.ln
 have q := o.num (k := 1) (by omega) (by omega)
 exact ⟨pEq_of h.sh (Nat.le_trans h.ln (by decide)), noRo6 h.sh, o.pMk 1, noRo_mk o.ao, o.he (by omega) (by omega), lt0F q.1⟩
/-- what a copied argument shows -/
theorem own_all {row : List KT} {rs : List (List T)} {k : Int} (c : Nat) (hc : 1048576 * cbR 1048576 row ≤ c) (p1 : pTo row rs = true) (h0 : 0 ≤ k) (h1 : k + c ≤ 1152921504606846976) : pMk row (sOwn rs) k = true ∧ (∀ sz, sNoRo (.sl .own sz (sMk (sOwn rs) k)) = true) ∧ 0 ≤ sMkN (sOwn rs) k ∧ sMkN (sOwn rs) k ≤ k + c := by
 obtain ⟨a, b, d⟩ := pTo3 p1
 have o := smk_own a b d
 have q := o.num (k := k) h0 (by omega)
 exact ⟨o.pMk k, fun _ => noRo_mk o.ao, q.1, by omega⟩
end Go.Vm
