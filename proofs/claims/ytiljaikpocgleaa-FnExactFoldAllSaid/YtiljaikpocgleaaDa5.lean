/- Marking twice is marking once; what marking keeps. -/
import Derived.Test.YtiljaikpocgleaaDa4
namespace Go.Vm
set_option linter.unusedVariables false
set_option linter.unusedSimpArgs false
mutual
theorem mkT_idem : ∀ (t : T) (k : Int), mkT (mkT t k).1 k = mkT t k
 | .im v, k => by
  cases v with
  | int kd n => cases kd <;> simp [mkT]
  | _ => simp [mkT]
 | .sl f sz rs, k => by rw [mkT, mkT, mkRs_idem]
 | .no, k => by simp [mkT]
theorem mkRs_idem : ∀ (rs : List (List T)) (k : Int), mkRs (mkRs rs k).1 k = mkRs rs k
 | [], k => by simp [mkRs]
 | r :: rs, k => by rw [mkRs, mkRs, mkR_idem, mkRs_idem]
theorem mkR_idem : ∀ (ts : List T) (k : Int), mkR (mkR ts k).1 k = mkR ts k
 | [], k => by simp [mkR]
 | t :: ts, k => by rw [mkR, mkR, mkT_idem, mkR_idem]
end
mutual
theorem mkT_cnt : ∀ (t : T) (k : Int), cnT (mkT t k).1 = cnT t
 | .im v, k => by
  cases v with
  | int kd n => cases kd <;> simp [mkT, cnT]
  | _ => simp [mkT, cnT]
 | .sl f sz rs, k => by rw [mkT, cnT, cnT, mkRs_cnt]
 | .no, k => by simp [mkT]
theorem mkRs_cnt : ∀ (rs : List (List T)) (k : Int), cnRs (mkRs rs k).1 = cnRs rs
 | [], k => by simp [mkRs]
 | r :: rs, k => by rw [mkRs, cnRs, cnRs, mkR_cnt, mkRs_cnt]
theorem mkR_cnt : ∀ (ts : List T) (k : Int), cnR (mkR ts k).1 = cnR ts
 | [], k => by simp [mkR]
 | t :: ts, k => by rw [mkR, cnR, cnR, mkT_cnt, mkR_cnt]
end
mutual
theorem mkT_len : ∀ (t : T) (k : Int) (b : Nat), lenT b (mkT t k).1 = lenT b t
 | .im v, k, b => by
  cases v with
  | int kd n => cases kd <;> simp [mkT, lenT]
  | _ => simp [mkT, lenT]
 | .sl f sz rs, k, b => by rw [mkT, lenT, lenT, mkRs_lenR, mkRs_len]
 | .no, k, b => by simp [mkT]
theorem mkRs_lenR : ∀ (rs : List (List T)) (k : Int) (b : Nat), lenRs b (mkRs rs k).1 = lenRs b rs
 | [], k, b => by simp [mkRs]
 | r :: rs, k, b => by rw [mkRs, lenRs, lenRs, mkR_len, mkRs_lenR]
theorem mkR_len : ∀ (ts : List T) (k : Int) (b : Nat), lenR b (mkR ts k).1 = lenR b ts
 | [], k, b => by simp [mkR]
 | t :: ts, k, b => by rw [mkR, lenR, lenR, mkT_len, mkR_len]
end
mutual
theorem mkT_sh : ∀ (t : T) (k : Int) (q : KT), shT q (mkT t k).1 = shT q t
 | .im v, k, q => by
  cases v with
  | int kd n => cases kd <;> cases q <;> simp [mkT, shT]
  | bool b => cases q <;> simp [mkT, shT]
  | _ => simp [mkT]
 | .sl f sz rs, k, q => by cases q <;> simp [mkT, shT, mkRs_sh]
 | .no, k, q => by simp [mkT]
theorem mkRs_sh : ∀ (rs : List (List T)) (k : Int) (row : List KT), shRs row (mkRs rs k).1 = shRs row rs
 | [], k, row => by simp [mkRs]
 | r :: rs, k, row => by rw [mkRs, shRs, shRs, mkR_sh, mkRs_sh]
theorem mkR_sh : ∀ (ts : List T) (k : Int) (row : List KT), shR row (mkR ts k).1 = shR row ts
 | [], k, row => by simp [mkR]
 | t :: ts, k, [] => by rw [mkR]; simp [shR]
 | t :: ts, k, q :: row => by rw [mkR, shR, shR, mkT_sh, mkR_sh]
end
theorem sMk_idem (rs : List (List T)) (k : Int) : sMk (sMk rs k) k = sMk rs k := by simp only [sMk_eq, mkRs_idem]
theorem sMkN_idem (rs : List (List T)) (k : Int) : sMkN (sMk rs k) k = sMkN rs k := by simp only [sMk_eq, sMkN_eq, mkRs_idem]
theorem pHe_mk {row : List KT} {rs : List (List T)} {k : Int} (h : pMk row rs k = true) (h0 : 0 ≤ k) (h1 : k + cnRs rs ≤ 1152921504606846976) : pHe row (sMk rs k) k = true := by
 rw [pMk_eq] at h
 simp only [Bool.and_eq_true, decide_eq_true_eq] at h
 rw [pHe_eq, sMk_eq, mkRs_sh, mkRs_lenR, mkRs_len, mkRs_cnt, mkRs_idem]
 simp [h, h0, h1]
theorem sMkN_cn {rs : List (List T)} {k : Int} (h0 : 0 ≤ k) (h1 : k + cnRs rs ≤ 1152921504606846976) : sMkN rs k = k + cnRs rs := by rw [sMkN_eq]; exact mkRs_cn h0 h1
end Go.Vm
