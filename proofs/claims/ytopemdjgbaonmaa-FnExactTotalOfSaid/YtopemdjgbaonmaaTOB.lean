/- TotalOf: the bodies -/
import Derived.Test.YtopemdjgbaonmaaTON
import Derived.Test.YtopemdjgbaonmaaClB
import Derived.Test.YtopemdjgbaonmaaOkB
namespace Go.Vm
set_option linter.unusedVariables false
set_option linter.unusedSimpArgs false
theorem sCap_eq (n : Int) : sCap n = mCap n := by rw [sCap, sld_eq]
theorem sTC_eq (rs : List (List T)) : sTC rs = mTC 0 rs := by rw [sTC, sld_eq]
theorem sTO_eq (ts : List T) : sTO ts = bif mSafe ts then mTC 0 (mAll ts) else -1 := by rw [sTO, sld_eq]
section
variable {P : Program} {md : FuncId → Option (List Mode)} {fl : FuncId → Fl} {l : List (Nat × GFn)} {f : Nat}
theorem good_Cap (hb : ∀ a : Int, body lp0 (EE P md fl l) f [aI a] [] = some (.ret (oI (sCap a)))) (hl : Good P md fl l) : Good P md fl ((f, gCap) :: l) := .cons (fun xs ps h => by
  unfold gCap at h ⊢
  split at h
  · exact hb _
  · cases h) hl
theorem good_TC (hb : ∀ {rs}, pEq kAggT rs = true → body lp0 (EE P md fl l) f [.c (.sl .ro 6 rs)] [] = some (.ret (oI (sTC rs)))) (hl : Good P md fl l) : Good P md fl ((f, gTC) :: l) := .cons (fun xs ps h => by
  unfold gTC at h ⊢
  split at h
  · exact hb h
  · cases h) hl
theorem good_EI {m : List T → Int} (hb : ∀ {ts}, ts.all roT = true → pToR kEngine ts = true → body lp0 (EE P md fl l) f [.ag ts] [] = some (.ret (oI (m ts)))) (hl : Good P md fl l) : Good P md fl ((f, gEI m) :: l) := .cons (fun xs ps h => by
  unfold gEI at h ⊢
  split at h
  · rw [Bool.and_eq_true] at h; exact hb h.1 h.2
  · cases h) hl
end
theorem mCap_id {n : Int} (h0 : 0 ≤ n) (h1 : n ≤ 1000000000) : mCap n = n := by
  unfold mCap
  rw [if_neg (by omega), if_neg (by omega)]
theorem mCap_bd {n : Int} (h0 : 0 ≤ n) : 0 ≤ mCap n ∧ mCap n ≤ 1000000000 := by
  unfold mCap
  by_cases h : 1000000000 < n
  · rw [if_pos h]; omega
  · rw [if_neg h, if_neg (by omega)]; omega
theorem cap3 {a b c : Int} (ha : 0 ≤ a) (hb : 0 ≤ b) (hc : 0 ≤ c) : mCap (mCap (a + b) + c) = mCap (a + mCap (b + c)) := by
  unfold mCap
  split <;> split <;> (try split) <;> (try split) <;> (try split) <;> (try split) <;> omega
theorem agg_cnt {r : List T} (h : mAggOk r = true) : 1 ≤ cI r 2 ∧ cI r 2 ≤ 1000000000 := by
  rw [mAggOk_eq] at h
  simp only [Bool.and_eq_true, mIn_eq, decide_eq_true_eq] at h
  exact h.1.1.1.1.2
theorem mTC_bd : ∀ (rs : List (List T)) {n : Int}, 0 ≤ n → n ≤ 1000000000 → 0 ≤ mTC n rs ∧ mTC n rs ≤ 1000000000
  | [], n, h0, h1 => ⟨h0, h1⟩
  | r :: rs, n, h0, h1 => by
    show 0 ≤ mTC (bif mAggOk r then mCap (n + cI r 2) else n) rs ∧ mTC (bif mAggOk r then mCap (n + cI r 2) else n) rs ≤ 1000000000
    cases h : mAggOk r with
    | false => exact mTC_bd rs h0 h1
    | true =>
      have := agg_cnt h
      have := mCap_bd (n := n + cI r 2) (by omega)
      exact mTC_bd rs this.1 this.2
theorem mTC_cap : ∀ (rs : List (List T)) {n m : Int}, 0 ≤ n → 0 ≤ m → m ≤ 1000000000 → mTC (mCap (n + m)) rs = mCap (n + mTC m rs)
  | [], n, m, _, _, _ => rfl
  | r :: rs, n, m, h0, h1, h2 => by
    show mTC (bif mAggOk r then mCap (mCap (n + m) + cI r 2) else mCap (n + m)) rs = mCap (n + mTC (bif mAggOk r then mCap (m + cI r 2) else m) rs)
    cases h : mAggOk r with
    | false => exact mTC_cap rs h0 h1 h2
    | true =>
      have := agg_cnt h
      have hb := mCap_bd (n := m + cI r 2) (by omega)
      rw [cond_true, cond_true, cap3 h0 h1 (by omega)]
      exact mTC_cap rs h0 hb.1 hb.2
theorem mTC_add (rs : List (List T)) {n : Int} (h0 : 0 ≤ n) (h1 : n ≤ 1000000000) : mCap (n + mTC 0 rs) = mTC n rs := by
  rw [← mTC_cap rs h0 (by omega) (by omega), Int.add_zero, mCap_id h0 h1]
theorem mTC_append (a b : List (List T)) (n : Int) : mTC n (a ++ b) = mTC (mTC n a) b := by unfold mTC; rw [List.foldl_append]
theorem b_cap (a : Int) : body lp0 ET95 43 [aI a] [] = some (.ret (oI (sCap a))) := by
  rw [nf_43, sCap_eq, sLt_eq, sLt_eq]
  unfold mCap
  by_cases h : 1000000000 < a
  · rw [decide_eq_true h, if_pos h]; rfl
  · rw [decide_eq_false h, if_neg h, cond_false]
    by_cases h2 : a < -1000000000
    · rw [if_pos h2]
      have : decide (a < Int.negSucc 999999999) = true := decide_eq_true (by omega)
      rw [this]; rfl
    · rw [if_neg h2]
      have : decide (a < Int.negSucc 999999999) = false := decide_eq_false (by omega)
      rw [this]; rfl
theorem tc_loop {F : List T → Option LRes} {rs : List (List T)} (hl : rs.length ≤ reachBytes)
    (hF : ∀ (i : Nat) (n : Int) (hi : i < rs.length), 0 ≤ n → n ≤ 1000000000 → F [tI n, tI i] = some (.next [tI (bif mAggOk rs[i] then mCap (n + cI rs[i] 2) else n), tI ((i + 1 : Nat) : Int)])) (hE : ∀ n : Int, F [tI n, tI rs.length] = some (.brk [tI n, tI rs.length])) :
    lp0 F [tI 0, tI 0] = some (.brk [tI (mTC 0 rs), tI rs.length]) := by
  have := lp0_foldl (F := F) (ds0 := [tI 0, tI 0]) rs (fun i (n : Int) => [tI n, tI i]) (fun n r => bif mAggOk r then mCap (n + cI r 2) else n) (fun i n => 0 ≤ n ∧ n ≤ 1000000000) (fun n => [tI n, tI rs.length]) 0 rfl (by omega)
    (fun i n hi hn => ⟨hF i n hi hn.1 hn.2, by
      cases h : mAggOk rs[i] with
      | false => exact hn
      | true =>
        have := agg_cnt h
        exact mCap_bd (by omega)⟩) (fun n _ => hE n)
  exact this.2
theorem b_tc_spec {rs : List (List T)} (h : pEq kAggT rs = true) : body lp0 ET96 42 [.c (.sl .ro 6 rs)] [] = some (.ret (oI (sTC rs))) := by
  rw [nf_42]
  rw [pEq_eq] at h
  simp only [Bool.and_eq_true, decide_eq_true_eq] at h
  obtain ⟨⟨hs, hl⟩, hn⟩ := h
  rw [tc_loop hn (fun i n hi h0 h1 => ?_) (fun n => ?_)]
  · simp only [LRes.elim', Option.elim_some, tAt0, tAt1, tAt2, iT_im, bT_im, rT_sl, okT_i, okT_b, okT_s, slT_sl, le_0, Bool.and_true, Bool.true_and, cond_true, cond_false, sTC_eq]
  · obtain ⟨a0, a1, a2, a3, a4, a5, hr, _⟩ := row_Agg (shRs_get hs hi)
    have hk : sOkC [.int .i64, .int .i64, .int .i64, .int .i64, .int .i64, .int .i64] rs (i : Int).toNat 0 = true := okc_sh' hs hi
    have hc0 : sCell rs (i : Int).toNat 0 = tI a0 := by rw [cell_at' hi, hr]; rfl
    have hc1 : sCell rs (i : Int).toNat 1 = tI a1 := by rw [cell_at' hi, hr]; rfl
    have hc2 : sCell rs (i : Int).toNat 2 = tI a2 := by rw [cell_at' hi, hr]; rfl
    have hc3 : sCell rs (i : Int).toNat 3 = tI a3 := by rw [cell_at' hi, hr]; rfl
    have hc4 : sCell rs (i : Int).toNat 4 = tI a4 := by rw [cell_at' hi, hr]; rfl
    have hc5 : sCell rs (i : Int).toNat 5 = tI a5 := by rw [cell_at' hi, hr]; rfl
    have hk2 : sOkC [.int .i64] rs (i : Int).toNat 2 = true := by rw [sOkC_eq]; simp only [okCells, ← sCell_eq, hc2]; rfl
    have p1 : sShR kAggT [tI a0, tI a1, tI a2, tI a3, tI a4, tI a5] = true := by rw [sShR_eq]; simp [shR, shT]
    simp only [tAt0, tAt1, tAt2, iT_im, bT_im, rT_sl, okT_i, okT_b, okT_s, slT_sl, le_0, Bool.and_true, Bool.true_and, cond_true, cond_false, lt_len hi, hk, hk2, hc0, hc1, hc2, hc3, hc4, hc5, p1, add1i (Nat.lt_of_lt_of_le hi hn), sCap_eq]
    rw [hr]
    cases hm : mAggOk [tI a0, tI a1, tI a2, tI a3, tI a4, tI a5] with
    | false => rfl
    | true =>
      have hc := agg_cnt hm
      rw [cI2] at hc
      rw [sAdd_eq, wrap64 (by omega) (by omega), cI2]; rfl
  · simp only [tAt0, tAt1, tAt2, iT_im, bT_im, rT_sl, okT_i, okT_b, okT_s, slT_sl, le_0, Bool.and_true, Bool.true_and, cond_true, cond_false, lt_len']
theorem b_tc_impl {rs : List (List T)} (h : pEq kAggT rs = true) : body lp0 ET97 53 [.c (.sl .ro 6 rs)] [] = some (.ret (oI (sTC rs))) := by
  rw [nf_53]
  rw [pEq_eq] at h
  simp only [Bool.and_eq_true, decide_eq_true_eq] at h
  obtain ⟨⟨hs, hl⟩, hn⟩ := h
  rw [tc_loop hn (fun i n hi h0 h1 => ?_) (fun n => ?_)]
  · simp only [LRes.elim', Option.elim_some, tAt0, tAt1, tAt2, iT_im, bT_im, rT_sl, okT_i, okT_b, okT_s, slT_sl, le_0, Bool.and_true, Bool.true_and, cond_true, cond_false, sTC_eq]
  · obtain ⟨a0, a1, a2, a3, a4, a5, hr, _⟩ := row_Agg (shRs_get hs hi)
    have hk : sOkC [.int .i64, .int .i64, .int .i64, .int .i64, .int .i64, .int .i64] rs (i : Int).toNat 0 = true := okc_sh' hs hi
    have hc0 : sCell rs (i : Int).toNat 0 = tI a0 := by rw [cell_at' hi, hr]; rfl
    have hc1 : sCell rs (i : Int).toNat 1 = tI a1 := by rw [cell_at' hi, hr]; rfl
    have hc2 : sCell rs (i : Int).toNat 2 = tI a2 := by rw [cell_at' hi, hr]; rfl
    have hc3 : sCell rs (i : Int).toNat 3 = tI a3 := by rw [cell_at' hi, hr]; rfl
    have hc4 : sCell rs (i : Int).toNat 4 = tI a4 := by rw [cell_at' hi, hr]; rfl
    have hc5 : sCell rs (i : Int).toNat 5 = tI a5 := by rw [cell_at' hi, hr]; rfl
    have p1 : sShR kAggT [tI a0, tI a1, tI a2, tI a3, tI a4, tI a5] = true := by rw [sShR_eq]; simp [shR, shT]
    simp only [tAt0, tAt1, tAt2, iT_im, bT_im, rT_sl, okT_i, okT_b, okT_s, slT_sl, le_0, Bool.and_true, Bool.true_and, cond_true, cond_false, lt_len hi, hk, hc0, hc1, hc2, hc3, hc4, hc5, p1, add1i (Nat.lt_of_lt_of_le hi hn)]
    rw [hr]
    cases hm : mAggOk [tI a0, tI a1, tI a2, tI a3, tI a4, tI a5] with
    | false => rfl
    | true =>
      have hc := agg_cnt hm
      rw [cI2] at hc
      have e : sMin (sAdd .i64 n a2) 1000000000 = mCap (n + a2) := by
        rw [sAdd_eq, wrap64 (by omega) (by omega), sMin_eq]; unfold mCap; repeat' split
        all_goals omega
      rw [e, cI2]; rfl
  · simp only [tAt0, tAt1, tAt2, iT_im, bT_im, rT_sl, okT_i, okT_b, okT_s, slT_sl, le_0, Bool.and_true, Bool.true_and, cond_true, cond_false, lt_len']
theorem length_flat : ∀ (hs : List (List T)), (∀ r ∈ hs, (r.getD 0 .no).rws.length ≤ 1048576) → (hs.map fun r => (r.getD 0 .no).rws).flatten.length ≤ hs.length * 1048576
  | [], _ => by simp
  | r :: hs, h => by
    have h1 := h r (by simp)
    have h2 := length_flat hs fun r hr => h r (List.mem_cons_of_mem _ hr)
    rw [List.map_cons, List.flatten_cons, List.length_append, List.length_cons]
    omega
theorem tos_loop {F : List T → Option LRes} {hs : List (List T)} {z : Int} (hz : 0 ≤ z ∧ z ≤ 1000000000)
    (hF : ∀ (i : Nat) (n : Int) (hi : i < hs.length), 0 ≤ n → n ≤ 1000000000 → F [tI n, tI i] = some (.next [tI (mTC n (hs[i].getD 0 .no).rws), tI ((i + 1 : Nat) : Int)])) (hE : ∀ n : Int, F [tI n, tI hs.length] = some (.brk [tI n, tI hs.length])) :
    lp0 F [tI z, tI 0] = some (.brk [tI (hs.foldl (fun n r => mTC n (r.getD 0 .no).rws) z), tI hs.length]) := by
  have := lp0_foldl (F := F) (ds0 := [tI z, tI 0]) hs (fun i (n : Int) => [tI n, tI i]) (fun n r => mTC n (r.getD 0 .no).rws) (fun i n => 0 ≤ n ∧ n ≤ 1000000000) (fun n => [tI n, tI hs.length]) z rfl hz
    (fun i n hi hn => ⟨hF i n hi hn.1 hn.2, mTC_bd _ hn.1 hn.2⟩) (fun n _ => hE n)
  exact this.2
theorem toi_loop {F : List T → Option LRes} {hs o : List (List T)} (h4 : hs.length ≤ 4) (ho : o.length ≤ 1048576) (hh : ∀ r ∈ hs, (r.getD 0 .no).rws.length ≤ 1048576)
    (hF : ∀ (i : Nat) (n : List (List T)) (hi : i < hs.length), n.length ≤ 5242880 → F [.sl .own 6 n, .sl .ro 4 hs, tI (Int.ofNat (sLen n)), tI i] = some (.next [.sl .own 6 (n ++ (hs[i].getD 0 .no).rws), .sl .ro 4 hs, tI (Int.ofNat (sLen (n ++ (hs[i].getD 0 .no).rws))), tI ((i + 1 : Nat) : Int)]))
    (hE : ∀ n : List (List T), F [.sl .own 6 n, .sl .ro 4 hs, tI (Int.ofNat (sLen n)), tI hs.length] = some (.brk [.sl .own 6 n, .sl .ro 4 hs, tI (Int.ofNat (sLen n)), tI hs.length])) :
    lp0 F [.sl .own 6 o, .sl .ro 4 hs, tI (Int.ofNat (sLen o)), tI 0] = some (.brk [.sl .own 6 (o ++ (hs.map fun r => (r.getD 0 .no).rws).flatten), .sl .ro 4 hs, tI (Int.ofNat (sLen (o ++ (hs.map fun r => (r.getD 0 .no).rws).flatten))), tI hs.length]) ∧
      (o ++ (hs.map fun r => (r.getD 0 .no).rws).flatten).length ≤ 5242880 := by
  have := lp0_foldl (F := F) (ds0 := [.sl .own 6 o, .sl .ro 4 hs, tI (Int.ofNat (sLen o)), tI 0]) hs (fun i (n : List (List T)) => [.sl .own 6 n, .sl .ro 4 hs, tI (Int.ofNat (sLen n)), tI i]) (fun n r => n ++ (r.getD 0 .no).rws)
    (fun i n => n.length ≤ 1048576 * (i + 1)) (fun n => [.sl .own 6 n, .sl .ro 4 hs, tI (Int.ofNat (sLen n)), tI hs.length]) o rfl (by omega)
    (fun i n hi hn => ⟨hF i n hi (Nat.le_trans hn (Nat.le_trans (Nat.mul_le_mul_left _ (show i + 1 ≤ 5 by omega)) (by decide))), by
      have := hh _ (List.getElem_mem hi)
      rw [List.length_append]; omega⟩) (fun n _ => hE n)
  have fe : ∀ (hs o : List (List T)), hs.foldl (fun n r => n ++ (r.getD 0 .no).rws) o = o ++ (hs.map fun r => (r.getD 0 .no).rws).flatten := by
    intro hs
    induction hs with
    | nil => intro o; simp
    | cons r hs ih => intro o; rw [List.foldl_cons, ih, List.map_cons, List.flatten_cons, List.append_assoc]
  rw [fe] at this
  exact ⟨this.2, Nat.le_trans this.1 (Nat.le_trans (Nat.mul_le_mul_left _ (show hs.length + 1 ≤ 5 by omega)) (by decide))⟩
theorem to_fold (hs : List (List T)) (o : List (List T)) : mTC 0 (o ++ (hs.map fun r => (r.getD 0 .no).rws).flatten) = hs.foldl (fun n r => mTC n (r.getD 0 .no).rws) (mTC 0 o) := by
  rw [mTC_append]
  generalize mTC 0 o = n
  induction hs generalizing n with
  | nil => rfl
  | cons r hs ih => rw [List.map_cons, List.flatten_cons, mTC_append, ih]; rfl
theorem b_to_spec {ts : List T} (hr : ts.all roT = true) (h : pToR kEngine ts = true) : body lp0 ET98 10 [.ag ts] [] = some (.ret (oI (sTO ts))) := by
  have h' := h
  rw [pToR_eq, Bool.and_eq_true] at h
  have h2 : pEqR kEngine ts = true := by rw [pEqR_eq, h.1, lenR_mono (by decide) h.2]; rfl
  obtain ⟨a0, a1, a2, a3, a4, a5, a6, a7, a8, a9, a10, a11, a12, a13, a14, a15, a16, a17, a18, a19, a20, a21, a22, a23, rfl, ga11, ga12, ga13, ga14, ga15, ga17⟩ := rowr_Engine h.1 hr
  have hl := h.2
  simp only [lenR, lenT, Bool.and_eq_true, decide_eq_true_eq] at hl
  have n14 : a14.length ≤ 1048576 := by simp [hl]
  have l14 : lenRs 1048576 a14 = true := by simp [hl]
  have e15 : pEq kAggT a15 = true := by
    rw [pEq_eq, ga15, lenRs_mono (by decide) (show lenRs 1048576 a15 = true by simp [hl])]
    simp; exact Nat.le_trans (show a15.length ≤ 1048576 by simp [hl]) (by decide)
  rw [nf_10, h2, cond_true, sTO_eq, e15, cond_true]
  cases hm : mSafe [tI a0, tI a1, tI a2, tI a3, tI a4, tI a5, tI a6, tI a7, tI a8, tI a9, tI a10, .sl .ro 7 a11, .sl .ro 5 a12, .sl .ro 1 a13, .sl .ro 4 a14, .sl .ro 6 a15, tI a16, .sl .ro 1 a17, tI a18, tI a19, tI a20, tI a21, tI a22, tI a23] with
  | false => rfl
  | true =>
  have eA : mAll [tI a0, tI a1, tI a2, tI a3, tI a4, tI a5, tI a6, tI a7, tI a8, tI a9, tI a10, .sl .ro 7 a11, .sl .ro 5 a12, .sl .ro 1 a13, .sl .ro 4 a14, .sl .ro 6 a15, tI a16, .sl .ro 1 a17, tI a18, tI a19, tI a20, tI a21, tI a22, tI a23] = a15 ++ (a14.map fun r => (r.getD 0 .no).rws).flatten := rfl
  rw [Bool.not_true, cond_false, cond_true, eA, to_fold]
  have hb0 := mTC_bd a15 (n := 0) (by omega) (by omega)
  rw [sTC_eq a15, tos_loop (hs := a14) hb0 (fun i n hi h0 h1 => ?_) (fun n => ?_)]
  · simp only [LRes.elim', Option.elim_some, tAt0, tAt1, tAt2, iT_im, bT_im, rT_sl, okT_i, okT_b, okT_s, slT_sl, le_0, Bool.and_true, Bool.true_and, cond_true, cond_false]
  · obtain ⟨fb0, b0, b1, b2, b3, hr2, gb0⟩ := row_Shard (shRs_get ga14 hi)
    have hl2 := lenRs_get l14 hi
    rw [hr2] at hl2
    simp only [lenR, lenT, Bool.and_eq_true, decide_eq_true_eq] at hl2
    have hc0 : sCell a14 (i : Int).toNat 0 = .sl fb0 6 b0 := by rw [cell_at' hi, hr2]; rfl
    have hk0 : sOkC [.sl 6] a14 (i : Int).toNat 0 = true := by rw [sOkC_eq]; simp only [okCells, ← sCell_eq, hc0]; rfl
    have e0 : pEq kAggT b0 = true := by
      rw [pEq_eq, gb0, lenRs_mono (by decide) (show lenRs 1048576 b0 = true by simp [hl2])]
      simp; exact Nat.le_trans (show b0.length ≤ 1048576 by simp [hl2]) (by decide)
    have hb1 := mTC_bd b0 (n := 0) (by omega) (by omega)
    have e1 : sCap (sAdd .i64 n (sTC b0)) = mTC n b0 := by
      rw [sCap_eq, sTC_eq, sAdd_eq, wrap64 (by omega) (by omega), mTC_add _ h0 h1]
    simp only [tAt0, tAt1, tAt2, iT_im, bT_im, rT_sl, okT_i, okT_b, okT_s, slT_sl, le_0, Bool.and_true, Bool.true_and, cond_true, cond_false, lt_len hi, hc0, hk0, e0, e1, hr2, List.getD_cons_zero, T.rws, add1i (Nat.lt_of_lt_of_le hi (Nat.le_trans n14 (by decide)))]
  · simp only [tAt0, tAt1, tAt2, iT_im, bT_im, rT_sl, okT_i, okT_b, okT_s, slT_sl, le_0, Bool.and_true, Bool.true_and, cond_true, cond_false, lt_len']
theorem shR_noRo : ∀ {row : List KT} {r : List T}, row.all KT.flat = true → shR row r = true → noRoR r = true
  | [], r, _, h => by obtain rfl := shR_nil h; unfold noRoR; rfl
  | k :: ks, r, hf, h => by
    rw [List.all_cons, Bool.and_eq_true] at hf
    obtain ⟨t, ts, rfl, h1, h2⟩ := shR_cons h
    rw [noRoR, shR_noRo hf.2 h2, Bool.and_true]
    cases k with
    | int => obtain ⟨n, rfl⟩ := shT_int h1; unfold T.noRo; rfl
    | bool => obtain ⟨n, rfl⟩ := shT_bool h1; unfold T.noRo; rfl
    | str => obtain ⟨n, rfl⟩ := shT_str h1; unfold T.noRo; rfl
    | _ => cases hf.1
theorem shRs_noRo : ∀ {row : List KT} {rs : List (List T)}, row.all KT.flat = true → shRs row rs = true → noRoRs rs = true
  | row, [], _, _ => by unfold noRoRs; rfl
  | row, r :: rs, hf, h => by
    rw [shRs, Bool.and_eq_true] at h
    rw [noRoRs, shR_noRo hf h.1, shRs_noRo hf h.2]; rfl
theorem noRo_fl {row : List KT} {rs : List (List T)} (h : pFl row rs = true) (sz : Nat) : sNoRo (.sl .own sz rs) = true := by
  rw [pFl_eq] at h
  simp only [Bool.and_eq_true] at h
  rw [sNoRo_eq, T.noRo]; exact shRs_noRo h.1.2 h.1.1
theorem mSafe_eq' (ts : List T) : mSafe ts = (mHead ts && ((ts.getD 12 .no).rws.all fun r => mMsgOk r false) && ((List.range (ts.getD 13 .no).rws.length).all fun k => decide (((mQs ts k).length : Int) ≤ cI ts 6) && (mQue ts k && mShd ts k)) && (ts.getD 11 .no).rws.all (fun r => !mBadConn r)) := by rw [mSafe, sld_eq]
theorem mHead_eq' (ts : List T) : mHead ts = (mSetupOk (ts.take 9) && mIn (cI ts 10) 0 2 && decide (((ts.getD 13 .no).rws.length : Int) = cI ts 1) && decide (((ts.getD 14 .no).rws.length : Int) = cI ts 1) && decide (((ts.getD 17 .no).rws.length : Int) = cI ts 1) && decide (((ts.getD 12 .no).rws.length : Int) ≤ cI ts 5) && decide (((ts.getD 15 .no).rws.length : Int) ≤ cI ts 7)) := by rw [mHead, sld_eq]
theorem safe_small {ts : List T} (h : mSafe ts = true) : (ts.getD 14 .no).rws.length ≤ 4 := by
  rw [mSafe_eq'] at h
  simp only [Bool.and_eq_true] at h
  have h1 := h.1.1.1
  rw [mHead_eq'] at h1
  simp only [Bool.and_eq_true, decide_eq_true_eq] at h1
  obtain ⟨⟨⟨⟨⟨⟨s1, _⟩, _⟩, s4⟩, _⟩, _⟩, _⟩ := h1
  rw [mSetupOk_eq] at s1
  simp only [Bool.and_eq_true, mIn_eq, decide_eq_true_eq] at s1
  have : cI (ts.take 9) 1 = cI ts 1 := by
    unfold cI
    rw [List.getD_eq_getElem?_getD, List.getD_eq_getElem?_getD, List.getElem?_take_of_lt (by omega)]
  omega
theorem b_to_impl {ts : List T} (hr : ts.all roT = true) (h : pToR kEngine ts = true) : body lp0 ET99 12 [.ag ts] [] = some (.ret (oI (sTO ts))) := by
  have h' := h
  rw [pToR_eq, Bool.and_eq_true] at h
  have h2 : pEqR kEngine ts = true := by rw [pEqR_eq, h.1, lenR_mono (by decide) h.2]; rfl
  obtain ⟨a0, a1, a2, a3, a4, a5, a6, a7, a8, a9, a10, a11, a12, a13, a14, a15, a16, a17, a18, a19, a20, a21, a22, a23, rfl, ga11, ga12, ga13, ga14, ga15, ga17⟩ := rowr_Engine h.1 hr
  have hl := h.2
  simp only [lenR, lenT, Bool.and_eq_true, decide_eq_true_eq] at hl
  have n15 : a15.length ≤ 1048576 := by simp [hl]
  have l14 : lenRs 1048576 a14 = true := by simp [hl]
  have l15 : lenRs 1048576 a15 = true := by simp [hl]
  have f15 : pFl kAggT a15 = true := by
    rw [pFl_eq, ga15, show kAggT.all KT.flat = true from rfl]
    simp; omega
  rw [nf_12, h2, cond_true, sTO_eq, f15, cond_true, noRo_fl f15, Bool.and_true, cond_true]
  cases hm : mSafe [tI a0, tI a1, tI a2, tI a3, tI a4, tI a5, tI a6, tI a7, tI a8, tI a9, tI a10, .sl .ro 7 a11, .sl .ro 5 a12, .sl .ro 1 a13, .sl .ro 4 a14, .sl .ro 6 a15, tI a16, .sl .ro 1 a17, tI a18, tI a19, tI a20, tI a21, tI a22, tI a23] with
  | false => rfl
  | true =>
  have eA : mAll [tI a0, tI a1, tI a2, tI a3, tI a4, tI a5, tI a6, tI a7, tI a8, tI a9, tI a10, .sl .ro 7 a11, .sl .ro 5 a12, .sl .ro 1 a13, .sl .ro 4 a14, .sl .ro 6 a15, tI a16, .sl .ro 1 a17, tI a18, tI a19, tI a20, tI a21, tI a22, tI a23] = a15 ++ (a14.map fun r => (r.getD 0 .no).rws).flatten := rfl
  rw [Bool.not_true, cond_false, cond_true, eA]
  have n14 : a14.length ≤ 4 := safe_small hm
  have hh : ∀ r ∈ a14, (r.getD 0 .no).rws.length ≤ 1048576 ∧ shRs kAggT (r.getD 0 .no).rws = true ∧ lenRs 1048576 (r.getD 0 .no).rws = true := fun r hr => by
    obtain ⟨fb0, b0, b1, b2, b3, rfl, gb0⟩ := row_Shard (shRs_mem ga14 hr)
    have hl2 := lenRs_mem l14 hr
    simp only [lenR, lenT, Bool.and_eq_true, decide_eq_true_eq] at hl2
    simp only [List.getD_cons_zero, T.rws]
    exact ⟨by simp [hl2], gb0, by simp [hl2]⟩
  have hmem : ∀ r ∈ a15 ++ (a14.map fun r => (r.getD 0 .no).rws).flatten, shR kAggT r = true ∧ lenR 1048576 r = true := fun r hr => by
    rcases List.mem_append.1 hr with hr | hr
    · exact ⟨shRs_mem ga15 hr, lenRs_mem l15 hr⟩
    · obtain ⟨q, hq, hr⟩ := List.mem_flatten.1 hr
      obtain ⟨x, hx, rfl⟩ := List.mem_map.1 hq
      exact ⟨shRs_mem (hh x hx).2.1 hr, lenRs_mem (hh x hx).2.2 hr⟩
  have q1 : shRs kAggT (a15 ++ (a14.map fun r => (r.getD 0 .no).rws).flatten) = true := shRs_of fun r hr => (hmem r hr).1
  have q2 : lenRs reachBytes (a15 ++ (a14.map fun r => (r.getD 0 .no).rws).flatten) = true := lenRs_mono (by decide) (lenRs_of fun r hr => (hmem r hr).2)
  have q3 : (a15 ++ (a14.map fun r => (r.getD 0 .no).rws).flatten).length ≤ 5242880 := by
    have e := length_flat a14 (fun r hr => (hh r hr).1)
    have : a14.length * 1048576 ≤ 4 * 1048576 := Nat.mul_le_mul_right _ n14
    rw [List.length_append]; omega
  have e0 : pEq kAggT (a15 ++ (a14.map fun r => (r.getD 0 .no).rws).flatten) = true := by
    rw [pEq_eq, q1, q2, decide_eq_true (Nat.le_trans q3 (by decide))]; rfl
  rw [(toi_loop (hs := a14) (o := a15) n14 n15 (fun r hr => (hh r hr).1) (fun i n hi h5 => ?_) (fun n => ?_)).1]
  · simp only [LRes.elim', Option.elim_some, tAt3, tAt0, tAt1, tAt2, iT_im, bT_im, rT_sl, okT_i, okT_b, okT_s, slT_sl, le_0, Bool.and_true, Bool.true_and, cond_true, cond_false, e0, sTC_eq]
  · obtain ⟨fb0, b0, b1, b2, b3, hr2, gb0⟩ := row_Shard (shRs_get ga14 hi)
    have hl2 := lenRs_get l14 hi
    rw [hr2] at hl2
    simp only [lenR, lenT, Bool.and_eq_true, decide_eq_true_eq] at hl2
    have m0 : b0.length ≤ 1048576 := by simp [hl2]
    have hc0 : sCell a14 (i : Int).toNat 0 = .sl fb0 6 b0 := by rw [cell_at' hi, hr2]; rfl
    have hk0 : sOkC [.sl 6, .int .i64, .int .i64, .int .i64] a14 (i : Int).toNat 0 = true := okc_sh' ga14 hi
    have hf : sFlat b0 = true := by rw [sFlat_eq, flatRows, List.all_eq_true]; exact fun r hr => shR_im rfl (shRs_mem gb0 hr)
    have hfit : sFit (sLen n + sLen b0) = true := by rw [sFit_eq, sLen_eq, sLen_eq, Nat.blt_eq]; omega
    simp only [tAt3, tAt0, tAt1, tAt2, iT_im, bT_im, rT_sl, okT_i, okT_b, okT_s, slT_sl, le_0, Bool.and_true, Bool.true_and, cond_true, cond_false, lt_len hi, hc0, hk0, hf, hfit, hr2, List.getD_cons_zero, T.rws, sApp_eq, add1i (show i < reachBytes from Nat.lt_of_lt_of_le hi (Nat.le_trans n14 (by decide)))]
  · simp only [tAt3, tAt0, tAt1, tAt2, iT_im, bT_im, rT_sl, okT_i, okT_b, okT_s, slT_sl, le_0, Bool.and_true, Bool.true_and, cond_true, cond_false, lt_len']; rfl
theorem good96 : Good Go.Proofs.Try.prog md0 (fun _ => .own) TL96 := good_Cap (b_cap) good95
theorem good97 : Good Go.Proofs.Try.prog md0 (fun _ => .own) TL97 := good_TC (fun h => b_tc_spec h) good96
theorem good98 : Good Go.Proofs.Try.prog md0 (fun _ => .own) TL98 := good_TC (fun h => b_tc_impl h) good97
theorem good99 : Good Go.Proofs.Try.prog md0 (fun _ => .own) TL99 := good_EI (fun hr h => b_to_spec hr h) good98
theorem good100 : Good Go.Proofs.Try.prog md0 (fun _ => .own) TL100 := good_EI (fun hr h => b_to_impl hr h) good99

end Go.Vm
