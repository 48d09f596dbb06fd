/- Marks of copies; how many cells a tree can have. -/
import Derived.Test.YtiljaikpocgleaaDa5
namespace Go.Vm
set_option linter.unusedVariables false
set_option linter.unusedSimpArgs false
mutual
theorem aoT_own : ∀ t, aoT (ownT t) = true
 | .im v => by rw [ownT] <;> first | (unfold aoT; rfl) | (intro _ _ _ h; cases h)
 | .no => by rw [ownT] <;> first | (unfold aoT; rfl) | (intro _ _ _ h; cases h)
 | .sl f sz rs => by rw [ownT, aoT, aoRs_own]
theorem aoRs_own : ∀ rs, aoRs (ownRs rs) = true
 | [] => by rw [ownRs]; unfold aoRs; rfl
 | r :: rs => by rw [ownRs, aoRs, aoR_own, aoRs_own]; rfl
theorem aoR_own : ∀ r, aoR (ownR r) = true
 | [] => by rw [ownR]; unfold aoR; rfl
 | t :: ts => by rw [ownR, aoR, aoT_own, aoR_own]; rfl
end
mutual
def cbT (m : Nat) : KT → Nat
 | .sl row => m * cbR m row
 | _ => 1
def cbR (m : Nat) : List KT → Nat
 | [] => 0
 | k :: ks => cbT m k + cbR m ks
end
mutual
theorem cnT_le (m : Nat) : ∀ (k : KT) (t : T), shT k t = true → lenT m t = true → cnT t ≤ cbT m k
 | .int k, .im v, h, _ => by obtain ⟨n, e⟩ := shT_int h; injection e with e; subst e; simp [cnT, cbT]
 | .bool, .im v, h, _ => by obtain ⟨n, e⟩ := shT_bool h; injection e with e; subst e; simp [cnT, cbT]
 | .str, .im v, h, _ => by obtain ⟨n, e⟩ := shT_str h; injection e with e; subst e; simp [cnT, cbT]
 | .sl row, .sl f sz rs, h, hl => by
  rw [shT, Bool.and_eq_true] at h
  rw [lenT, Bool.and_eq_true, decide_eq_true_eq] at hl
  rw [cnT, cbT]
  exact Nat.le_trans (cnRs_le' m row rs h.2 hl.2) (Nat.mul_le_mul_right _ hl.1)
 | .sl row, .im v, h, _ => by unfold shT at h; cases h
 | .sl row, .no, h, _ => by unfold shT at h; cases h
 | .int k, .sl _ _ _, h, _ => by unfold shT at h; cases h
 | .bool, .sl _ _ _, h, _ => by unfold shT at h; cases h
 | .str, .sl _ _ _, h, _ => by unfold shT at h; cases h
 | .int k, .no, h, _ => by unfold shT at h; cases h
 | .bool, .no, h, _ => by unfold shT at h; cases h
 | .str, .no, h, _ => by unfold shT at h; cases h
theorem cnRs_le' (m : Nat) : ∀ (row : List KT) (rs : List (List T)), shRs row rs = true → lenRs m rs = true → cnRs rs ≤ rs.length * cbR m row
 | row, [], _, _ => by rw [cnRs]; exact Nat.zero_le _
 | row, r :: rs, h, hl => by
  rw [shRs, Bool.and_eq_true] at h
  rw [lenRs, Bool.and_eq_true] at hl
  have h1 := cnR_le m row r h.1 hl.1
  have h2 := cnRs_le' m row rs h.2 hl.2
  rw [cnRs, List.length_cons, Nat.add_mul, Nat.one_mul]
  omega
theorem cnR_le (m : Nat) : ∀ (ks : List KT) (r : List T), shR ks r = true → lenR m r = true → cnR r ≤ cbR m ks
 | [], [], _, _ => by rw [cnR]; exact Nat.zero_le _
 | k :: ks, t :: ts, h, hl => by
  rw [shR, Bool.and_eq_true] at h
  rw [lenR, Bool.and_eq_true] at hl
  have h1 := cnT_le m k t h.1 hl.1
  have h2 := cnR_le m ks ts h.2 hl.2
  rw [cnR, cbR]
  omega
 | [], t :: ts, h, _ => by unfold shR at h; cases h
 | k :: ks, [], h, _ => by unfold shR at h; cases h
end
/-- rows that can be marked -/
structure Smk (row : List KT) (rs : List (List T)) (c : Nat) : Prop where
 sh : shRs row rs = true
 ao : aoRs rs = true
 le : lenRs 4194304 rs = true
 ln : rs.length ≤ 4194304
 cn : cnRs rs ≤ c
theorem Smk.pMk {row : List KT} {rs : List (List T)} {c : Nat} (h : Smk row rs c) (k : Int) : pMk row rs k = true := by
 rw [pMk_eq, h.sh, h.ao, h.le, decide_eq_true h.ln]; rfl
theorem Smk.noRo {row : List KT} {rs : List (List T)} {c : Nat} (h : Smk row rs c) (sz : Nat) : sNoRo (.sl .own sz rs) = true := by
 rw [sNoRo_eq, T.noRo]; exact aoRs_noRo h.ao
theorem Smk.num {row : List KT} {rs : List (List T)} {c : Nat} (h : Smk row rs c) {k : Int} (h0 : 0 ≤ k) (h1 : k + c ≤ 1152921504606846976) : 0 ≤ sMkN rs k ∧ sMkN rs k ≤ k + c := by
 have := h.cn
 rw [sMkN_cn h0 (by omega)]
 omega
theorem Smk.he {row : List KT} {rs : List (List T)} {c : Nat} (h : Smk row rs c) {k : Int} (h0 : 0 ≤ k) (h1 : k + c ≤ 1152921504606846976) : pHe row (sMk rs k) k = true := by
 have := h.cn
 exact pHe_mk (h.pMk k) h0 (by omega)
theorem smk_nil (row : List KT) (c : Nat) : Smk row [] c := ⟨by unfold shRs; rfl, by unfold aoRs; rfl, by unfold lenRs; rfl, by simp, by simp [cnRs]⟩
theorem smk_own {row : List KT} {rs : List (List T)} (hs : shRs row rs = true) (hl : lenRs 1048576 rs = true) (hn : rs.length ≤ 1048576) : Smk row (sOwn rs) (1048576 * cbR 1048576 row) := by
 rw [sOwn_eq]
 refine ⟨by rw [shRs_own]; exact hs, aoRs_own rs, by rw [lenRs_own]; exact lenRs_mono (by decide) hl, by rw [ownRs_length]; omega, ?_⟩
 have h1 : shRs row (ownRs rs) = true := by rw [shRs_own]; exact hs
 have h2 : lenRs 1048576 (ownRs rs) = true := by rw [lenRs_own]; exact hl
 have := cnRs_le' 1048576 row (ownRs rs) h1 h2
 rw [ownRs_length] at this
 exact Nat.le_trans this (Nat.mul_le_mul_right _ hn)
theorem lt0F {k : Int} (h : 0 ≤ k) : sLt k 0 = false := by rw [sLt_eq]; exact decide_eq_false (by omega)
end Go.Vm
