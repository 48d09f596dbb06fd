/- Data as trees: sizes, shapes, copies, sameness. -/
import Derived.Test.YtlfkhhmpkgehbaaDoorMZ
namespace Go.Vm
set_option linter.unusedVariables false
set_option linter.unusedSimpArgs false
noncomputable section

mutual
def szT : T → Int → Int
 | .sl _ _ rs, n => if n < rs.length then -1 else szRs rs (n - rs.length)
 | _, n => n
def szRs : List (List T) → Int → Int
 | [], n => n
 | r :: rs, n => if szR r n < 0 then -1 else szRs rs (szR r n)
def szR : List T → Int → Int
 | [], n => n
 | t :: ts, n => if szT t n < 0 then -1 else szR ts (szT t n)
end

mutual
/-- of a shape, whatever the flags -/
def shT : KT → T → Bool
 | .int k, .im (.int k' _) => decide (k = k')
 | .bool, .im (.bool _) => true
 | .str, .im (.string _) => true
 | .sl row, .sl _ sz rs => decide (sz = row.length) && shRs row rs
 | _, _ => false
def shRs : List KT → List (List T) → Bool
 | _, [] => true
 | row, r :: rs => shR row r && shRs row rs
def shR : List KT → List T → Bool
 | [], [] => true
 | k :: ks, t :: ts => shT k t && shR ks ts
 | _, _ => false
end

mutual
def lenT (m : Nat) : T → Bool
 | .sl _ _ rs => decide (rs.length ≤ m) && lenRs m rs
 | _ => true
def lenRs (m : Nat) : List (List T) → Bool
 | [] => true
 | r :: rs => lenR m r && lenRs m rs
def lenR (m : Nat) : List T → Bool
 | [] => true
 | t :: ts => lenT m t && lenR m ts
end

mutual
def wfT : T → Bool
 | .sl _ _ rs => wfRs rs
 | .im (.int k n) => (Lit.int k n).wf
 | .im (.string s) => decide (s.size ≤ reachBytes)
 | _ => true
def wfRs : List (List T) → Bool
 | [] => true
 | r :: rs => wfR r && wfRs rs
def wfR : List T → Bool
 | [] => true
 | t :: ts => wfT t && wfR ts
end

mutual
def ownT : T → T
 | .sl _ sz rs => .sl .own sz (ownRs rs)
 | t => t
def ownRs : List (List T) → List (List T)
 | [] => []
 | r :: rs => ownR r :: ownRs rs
def ownR : List T → List T
 | [] => []
 | t :: ts => ownT t :: ownR ts
end

theorem ownR_map : ∀ ts, ownR ts = ts.map ownT
 | [] => by rw [ownR]; rfl
 | t :: ts => by rw [ownR, ownR_map ts]; rfl
theorem ownRs_map : ∀ rs, ownRs rs = rs.map ownR
 | [] => by rw [ownRs]; rfl
 | r :: rs => by rw [ownRs, ownRs_map rs]; rfl
theorem ownRs_length (rs : List (List T)) : (ownRs rs).length = rs.length := by rw [ownRs_map]; simp
theorem ownRs_get (rs : List (List T)) {i : Nat} (hi : i < rs.length) : (ownRs rs)[i]'(by rw [ownRs_length]; exact hi) = ownR rs[i] := by
 simp [ownRs_map]
theorem ownRs_append (a b : List (List T)) : ownRs (a ++ b) = ownRs a ++ ownRs b := by simp [ownRs_map]

mutual
theorem ownT_ownT : ∀ t, ownT (ownT t) = ownT t
 | .im v => by simp [ownT]
 | .no => by simp [ownT]
 | .sl f sz rs => by rw [ownT, ownT, ownRs_ownRs]
theorem ownRs_ownRs : ∀ rs, ownRs (ownRs rs) = ownRs rs
 | [] => by rw [ownRs]; rw [ownRs]
 | r :: rs => by rw [ownRs, ownRs, ownR_ownR, ownRs_ownRs]
theorem ownR_ownR : ∀ r, ownR (ownR r) = ownR r
 | [] => by rw [ownR]; rw [ownR]
 | t :: ts => by rw [ownR, ownR, ownT_ownT, ownR_ownR]
end

mutual
theorem shT_own : ∀ (k : KT) t, shT k (ownT t) = shT k t
 | k, .im v => by rw [ownT]; intro _ _ _ h; cases h
 | k, .no => by rw [ownT]; intro _ _ _ h; cases h
 | .sl row, .sl f sz rs => by rw [ownT, shT, shT, shRs_own]
 | .int k, .sl f sz rs => by rw [ownT]; unfold shT; rfl
 | .bool, .sl f sz rs => by rw [ownT]; unfold shT; rfl
 | .str, .sl f sz rs => by rw [ownT]; unfold shT; rfl
theorem shRs_own : ∀ (row : List KT) rs, shRs row (ownRs rs) = shRs row rs
 | row, [] => by rw [ownRs]
 | row, r :: rs => by rw [ownRs, shRs, shRs, shR_own, shRs_own]
theorem shR_own : ∀ (ks : List KT) r, shR ks (ownR r) = shR ks r
 | ks, [] => by rw [ownR]
 | [], t :: ts => by rw [ownR]; unfold shR; rfl
 | k :: ks, t :: ts => by rw [ownR, shR, shR, shT_own, shR_own]
end
mutual
theorem lenT_own (m : Nat) : ∀ t, lenT m (ownT t) = lenT m t
 | .im v => by rw [ownT]; intro _ _ _ h; cases h
 | .no => by rw [ownT]; intro _ _ _ h; cases h
 | .sl f sz rs => by rw [ownT, lenT, lenT, lenRs_own, ownRs_length]
theorem lenRs_own (m : Nat) : ∀ rs, lenRs m (ownRs rs) = lenRs m rs
 | [] => by rw [ownRs]
 | r :: rs => by rw [ownRs, lenRs, lenRs, lenR_own, lenRs_own]
theorem lenR_own (m : Nat) : ∀ r, lenR m (ownR r) = lenR m r
 | [] => by rw [ownR]
 | t :: ts => by rw [ownR, lenR, lenR, lenT_own, lenR_own]
end
mutual
theorem wfT_own : ∀ t, wfT (ownT t) = wfT t
 | .im v => by rw [ownT]; intro _ _ _ h; cases h
 | .no => by rw [ownT]; intro _ _ _ h; cases h
 | .sl f sz rs => by rw [ownT, wfT, wfT, wfRs_own]
theorem wfRs_own : ∀ rs, wfRs (ownRs rs) = wfRs rs
 | [] => by rw [ownRs]
 | r :: rs => by rw [ownRs, wfRs, wfRs, wfR_own, wfRs_own]
theorem wfR_own : ∀ r, wfR (ownR r) = wfR r
 | [] => by rw [ownR]
 | t :: ts => by rw [ownR, wfR, wfR, wfT_own, wfR_own]
end
mutual
theorem noRo_own : ∀ t, T.noRo (ownT t) = true
 | .im v => by simp [ownT, T.noRo]
 | .no => by simp [ownT, T.noRo]
 | .sl f sz rs => by rw [ownT, T.noRo, noRoRs_own]
theorem noRoRs_own : ∀ rs, noRoRs (ownRs rs) = true
 | [] => by rw [ownRs]; rfl
 | r :: rs => by rw [ownRs, noRoRs, noRoR_own, noRoRs_own]; rfl
theorem noRoR_own : ∀ r, noRoR (ownR r) = true
 | [] => by rw [ownR]; rfl
 | t :: ts => by rw [ownR, noRoR, noRo_own, noRoR_own]; rfl
end

/-! ### shapes, opened -/
theorem shR_cons {k : KT} {ks : List KT} {r : List T} (h : shR (k :: ks) r = true) : ∃ t ts, r = t :: ts ∧ shT k t = true ∧ shR ks ts = true := by
 cases r with
 | nil => cases h
 | cons t ts => rw [shR, Bool.and_eq_true] at h; exact ⟨t, ts, rfl, h.1, h.2⟩
theorem shR_nil {r : List T} (h : shR [] r = true) : r = [] := by
 cases r with
 | nil => rfl
 | cons t ts => cases h
theorem shT_int {k : IntKind} {t : T} (h : shT (.int k) t = true) : ∃ n, t = .im (.int k n) := by
 cases t with
 | im v => cases v with
  | int k' n => rw [shT, decide_eq_true_eq] at h; subst h; exact ⟨n, rfl⟩
  | _ => unfold shT at h; cases h
 | _ => unfold shT at h; cases h
theorem shT_bool {t : T} (h : shT .bool t = true) : ∃ b, t = .im (.bool b) := by
 cases t with
 | im v => cases v with
  | bool b => exact ⟨b, rfl⟩
  | _ => unfold shT at h; cases h
 | _ => unfold shT at h; cases h
theorem shT_str {t : T} (h : shT .str t = true) : ∃ s, t = .im (.string s) := by
 cases t with
 | im v => cases v with
  | string s => exact ⟨s, rfl⟩
  | _ => unfold shT at h; cases h
 | _ => unfold shT at h; cases h
theorem shT_sl {row : List KT} {t : T} (h : shT (.sl row) t = true) : ∃ f rs, t = .sl f row.length rs ∧ shRs row rs = true := by
 cases t with
 | sl f sz rs => rw [shT, Bool.and_eq_true, decide_eq_true_eq] at h; obtain ⟨rfl, h2⟩ := h; exact ⟨f, rs, rfl, h2⟩
 | _ => unfold shT at h; cases h
theorem shRs_mem : ∀ {row : List KT} {rs : List (List T)} {r : List T}, shRs row rs = true → r ∈ rs → shR row r = true
 | row, x :: rs, r, h, hm => by
  rw [shRs, Bool.and_eq_true] at h
  rcases List.mem_cons.1 hm with rfl | hm
  ·exact h.1
  ·exact shRs_mem h.2 hm
theorem shRs_get {row : List KT} {rs : List (List T)} {i : Nat} (h : shRs row rs = true) (hi : i < rs.length) : shR row rs[i] = true := shRs_mem h (List.getElem_mem hi)
theorem shRs_of : ∀ {row : List KT} {rs : List (List T)}, (∀ r ∈ rs, shR row r = true) → shRs row rs = true
 | row, [], _ => by unfold shRs; rfl
 | row, r :: rs, h => by rw [shRs, h r List.mem_cons_self, shRs_of fun r hr => h r (List.mem_cons_of_mem _ hr)]; rfl
theorem shRs_append {row : List KT} {a b : List (List T)} : shRs row (a ++ b) = (shRs row a && shRs row b) := by
 induction a with
 | nil => rw [show shRs row [] = true by unfold shRs; rfl]; rfl
 | cons r a ih => rw [List.cons_append, shRs, shRs, ih, Bool.and_assoc]
theorem lenRs_mem : ∀ {m : Nat} {rs : List (List T)} {r : List T}, lenRs m rs = true → r ∈ rs → lenR m r = true
 | m, x :: rs, r, h, hm => by
  rw [lenRs, Bool.and_eq_true] at h
  rcases List.mem_cons.1 hm with rfl | hm
  ·exact h.1
  ·exact lenRs_mem h.2 hm
theorem lenRs_get {m : Nat} {rs : List (List T)} {i : Nat} (h : lenRs m rs = true) (hi : i < rs.length) : lenR m rs[i] = true := lenRs_mem h (List.getElem_mem hi)
theorem lenRs_of : ∀ {m : Nat} {rs : List (List T)}, (∀ r ∈ rs, lenR m r = true) → lenRs m rs = true
 | m, [], _ => by unfold lenRs; rfl
 | m, r :: rs, h => by rw [lenRs, h r List.mem_cons_self, lenRs_of fun r hr => h r (List.mem_cons_of_mem _ hr)]; rfl
theorem wfRs_mem : ∀ {rs : List (List T)} {r : List T}, wfRs rs = true → r ∈ rs → wfR r = true
 | x :: rs, r, h, hm => by
  rw [wfRs, Bool.and_eq_true] at h
  rcases List.mem_cons.1 hm with rfl | hm
  ·exact h.1
  ·exact wfRs_mem h.2 hm

/-- the kinds of a row's cells -/
def KT.kd : KT → Kd
 | .int k => .int k
 | .bool => .bool
 | .str => .str
 | .sl row => .sl row.length

theorem okRow_sh : ∀ {ks : List KT} {r : List T}, shR ks r = true → okRow (ks.map KT.kd) r = true
 | [], r, h => by obtain rfl := shR_nil h; rfl
 | k :: ks, r, h => by
  obtain ⟨t, ts, rfl, h1, h2⟩ := shR_cons h
  have ih := okRow_sh h2
  cases k with
  | int k => obtain ⟨n, rfl⟩ := shT_int h1; show (T.okK .own (.int k) _ && _) = true; rw [ih, Bool.and_true]; simp [T.okK, Value.okK]
  | bool => obtain ⟨n, rfl⟩ := shT_bool h1; show (T.okK .own .bool _ && _) = true; rw [ih, Bool.and_true]; rfl
  | str => obtain ⟨n, rfl⟩ := shT_str h1; show (T.okK .own .str _ && _) = true; rw [ih, Bool.and_true]; rfl
  | sl row => obtain ⟨f, rs, rfl, _⟩ := shT_sl h1; show (isSl row.length _ && _) = true; rw [ih, Bool.and_true]; exact Nat.beq_refl _

theorem okc_sh {row : List KT} {rs : List (List T)} {i : Nat} (h : shRs row rs = true) (hi : i < rs.length) : sOkC (row.map KT.kd) rs ((i : Int).toNat + 0) 0 = true := by
 rw [sOkC_eq]
 exact okRow_cells hi _ 0 (okRow_sh (shRs_get h hi))

/-! ### sizes -/
mutual
theorem szT_le : ∀ (t : T) (n : Int), 0 ≤ n → -1 ≤ szT t n ∧ szT t n ≤ n ∧ (0 ≤ szT t n → lenT n.toNat t = true)
 | .im v, n, h => by rw [szT]; exact ⟨by omega, by omega, fun _ => by unfold lenT; rfl⟩; intro _ _ _ h; cases h
 | .no, n, h => by rw [szT]; exact ⟨by omega, by omega, fun _ => by unfold lenT; rfl⟩; intro _ _ _ h; cases h
 | .sl f sz rs, n, h => by
  rw [szT]
  split
  ·exact ⟨by omega, by omega, fun h => by omega⟩
  ·obtain ⟨h1, h2, h3⟩ := szRs_le rs (n - rs.length) (by omega)
   refine ⟨h1, by omega, fun h0 => ?_⟩
   rw [lenT, Bool.and_eq_true, decide_eq_true_eq]
   exact ⟨by omega, lenRs_mono (by omega) (h3 h0)⟩
theorem szRs_le : ∀ (rs : List (List T)) (n : Int), 0 ≤ n → -1 ≤ szRs rs n ∧ szRs rs n ≤ n ∧ (0 ≤ szRs rs n → lenRs n.toNat rs = true)
 | [], n, h => by rw [szRs]; exact ⟨by omega, by omega, fun _ => by unfold lenRs; rfl⟩
 | r :: rs, n, h => by
  rw [szRs]
  obtain ⟨h1, h2, h3⟩ := szR_le r n h
  split
  ·exact ⟨by omega, by omega, fun h => by omega⟩
  ·obtain ⟨h4, h5, h6⟩ := szRs_le rs (szR r n) (by omega)
   refine ⟨h4, by omega, fun h0 => ?_⟩
   rw [lenRs, h3 (by omega), lenRs_mono (by omega) (h6 h0)]; rfl
theorem szR_le : ∀ (ts : List T) (n : Int), 0 ≤ n → -1 ≤ szR ts n ∧ szR ts n ≤ n ∧ (0 ≤ szR ts n → lenR n.toNat ts = true)
 | [], n, h => by rw [szR]; exact ⟨by omega, by omega, fun _ => by unfold lenR; rfl⟩
 | t :: ts, n, h => by
  rw [szR]
  obtain ⟨h1, h2, h3⟩ := szT_le t n h
  split
  ·exact ⟨by omega, by omega, fun h => by omega⟩
  ·obtain ⟨h4, h5, h6⟩ := szR_le ts (szT t n) (by omega)
   refine ⟨h4, by omega, fun h0 => ?_⟩
   rw [lenR, h3 (by omega), lenR_mono (by omega) (h6 h0)]; rfl
theorem lenT_mono {a b : Nat} (hab : a ≤ b) : ∀ {t : T}, lenT a t = true → lenT b t = true
 | .im v, _ => by unfold lenT; rfl
 | .no, _ => by unfold lenT; rfl
 | .sl f sz rs, h => by
  rw [lenT, Bool.and_eq_true, decide_eq_true_eq] at h ⊢
  exact ⟨by omega, lenRs_mono hab h.2⟩
theorem lenRs_mono {a b : Nat} (hab : a ≤ b) : ∀ {rs : List (List T)}, lenRs a rs = true → lenRs b rs = true
 | [], _ => by unfold lenRs; rfl
 | r :: rs, h => by
  rw [lenRs, Bool.and_eq_true] at h ⊢
  exact ⟨lenR_mono hab h.1, lenRs_mono hab h.2⟩
theorem lenR_mono {a b : Nat} (hab : a ≤ b) : ∀ {ts : List T}, lenR a ts = true → lenR b ts = true
 | [], _ => by unfold lenR; rfl
 | t :: ts, h => by
  rw [lenR, Bool.and_eq_true] at h ⊢
  exact ⟨lenT_mono hab h.1, lenR_mono hab h.2⟩
end
end
end Go.Vm
