/- the bodies of the marking helpers -/
import Derived.Test.YtiljaikpocgleaaEngB
import Derived.Test.YtiljaikpocgleaaClB
import Derived.Test.YtiljaikpocgleaaMkN
namespace Go.Vm
set_option linter.unusedVariables false
set_option linter.unusedSimpArgs false
theorem isSl_sl (sz : Nat) (f : Fl) (rs : List (List T)) : isSl sz (.sl f sz rs) = true := by rw [← slT_eq]; exact slT_sl sz f rs
theorem sBeq_rfl (a : Bool) : sBeq a a = true := by rw [sBeq_eq]; simp
theorem sEq30 : sEq 3 0 = false := by rw [sEq_eq]; rfl
theorem b_mkByteS {rs : List (List T)} {k : Int} (h : pMk [kB] rs k = true) : body lp0 ET51 57 [.c (.sl .own 1 rs), aI k] [] = some (.ret ⟨[aI (sMkN rs k)], [.sl .own 1 (sMk rs k)], []⟩) := by
 rw [nf_57]
 rw [pMk_eq] at h
 simp only [Bool.and_eq_true, decide_eq_true_eq] at h
 obtain ⟨⟨⟨hs, ha⟩, hl⟩, hn⟩ := h
 refine mk_loop (row := [kB]) (fun i m out hi ho => ?_) (fun out m => ?_)
 ·obtain ⟨a0, hr, ga0⟩ := row_Byte (shRs_get hs hi)
  rw [hr]
  simp only [tAt0, tAt1, tAt2, iT_im, bT_im, rT_sl, okT_i, okT_b, okT_s, slT_sl, le_0, Bool.and_true, Bool.true_and, cond_true, cond_false, lt_len hi, setRow_s ho, setCell_s ho, cell_s ho, okc_s ho, isSl_sl, List.set_cons_zero, splice0, spliceS, List.getD_cons_zero, mkR, mkT, ← sMk_eq, ← sMkN_eq, sEq30, Bool.not_false, add1i (Nat.lt_of_lt_of_le hi (Nat.le_trans hn (by decide)))]
 ·simp only [tAt0, tAt1, tAt2, iT_im, bT_im, rT_sl, okT_i, okT_b, okT_s, slT_sl, le_0, Bool.and_true, Bool.true_and, cond_true, cond_false, lt_len']
theorem b_mkAggS {rs : List (List T)} {k : Int} (h : pMk kAggT rs k = true) : body lp0 ET52 26 [.c (.sl .own 6 rs), aI k] [] = some (.ret ⟨[aI (sMkN rs k)], [.sl .own 6 (sMk rs k)], []⟩) := by
 rw [nf_26]
 rw [pMk_eq] at h
 simp only [Bool.and_eq_true, decide_eq_true_eq] at h
 obtain ⟨⟨⟨hs, ha⟩, hl⟩, hn⟩ := h
 refine mk_loop (row := kAggT) (fun i m out hi ho => ?_) (fun out m => ?_)
 ·obtain ⟨a0, a1, a2, a3, a4, a5, hr, ga0⟩ := row_Agg (shRs_get hs hi)
  rw [hr]
  simp only [tAt0, tAt1, tAt2, iT_im, bT_im, rT_sl, okT_i, okT_b, okT_s, slT_sl, le_0, Bool.and_true, Bool.true_and, cond_true, cond_false, lt_len hi, setRow_s ho, setCell_s ho, cell_s ho, okc_s ho, isSl_sl, List.set_cons_zero, splice0, spliceS, List.getD_cons_zero, mkR, mkT, ← sMk_eq, ← sMkN_eq, sEq30, Bool.not_false, add1i (Nat.lt_of_lt_of_le hi (Nat.le_trans hn (by decide)))]
 ·simp only [tAt0, tAt1, tAt2, iT_im, bT_im, rT_sl, okT_i, okT_b, okT_s, slT_sl, le_0, Bool.and_true, Bool.true_and, cond_true, cond_false, lt_len']
theorem b_mkFrameS {rs : List (List T)} {k : Int} (h : pMk kFrame rs k = true) : body lp0 ET53 17 [.c (.sl .own 4 rs), aI k] [] = some (.ret ⟨[aI (sMkN rs k)], [.sl .own 4 (sMk rs k)], []⟩) := by
 rw [nf_17]
 rw [pMk_eq] at h
 simp only [Bool.and_eq_true, decide_eq_true_eq] at h
 obtain ⟨⟨⟨hs, ha⟩, hl⟩, hn⟩ := h
 refine mk_loop (row := kFrame) (fun i m out hi ho => ?_) (fun out m => ?_)
 ·obtain ⟨a0, a1, a2, a3, hr, ga0⟩ := row_Frame (shRs_get hs hi)
  rw [hr]
  simp only [tAt0, tAt1, tAt2, iT_im, bT_im, rT_sl, okT_i, okT_b, okT_s, slT_sl, le_0, Bool.and_true, Bool.true_and, cond_true, cond_false, lt_len hi, setRow_s ho, setCell_s ho, cell_s ho, okc_s ho, isSl_sl, List.set_cons_zero, splice0, spliceS, List.getD_cons_zero, mkR, mkT, ← sMk_eq, ← sMkN_eq, sEq30, Bool.not_false, add1i (Nat.lt_of_lt_of_le hi (Nat.le_trans hn (by decide)))]
 ·simp only [tAt0, tAt1, tAt2, iT_im, bT_im, rT_sl, okT_i, okT_b, okT_s, slT_sl, le_0, Bool.and_true, Bool.true_and, cond_true, cond_false, lt_len']
theorem b_heAggS {rs : List (List T)} {k : Int} (h : pHe kAggT rs k = true) : body lp0 ET54 27 [.c (.sl .ro 6 rs), aI k] [] = some (.ret (oI (sMkN rs k))) := by
 rw [nf_27]
 have h' := h
 rw [pHe_eq] at h'
 simp only [Bool.and_eq_true, decide_eq_true_eq] at h'
 obtain ⟨⟨⟨⟨⟨hs, hl⟩, hn⟩, _⟩, _⟩, _⟩ := h'
 refine he_loop h (fun i m hi h0 h1 hm => ?_) (fun m => ?_)
 ·obtain ⟨a0, a1, a2, a3, a4, a5, hr, ga0⟩ := row_Agg (shRs_get hs hi)
  have hl2 := lenRs_get hl hi
  rw [hr] at hl2 hm h1 ⊢
  simp only [lenR, lenT, Bool.and_eq_true, decide_eq_true_eq] at hl2
  simp only [cnR, cnT] at h1
  simp only [mkR, mkT, List.cons.injEq, T.im.injEq, T.sl.injEq, Value.int.injEq, Value.bool.injEq, true_and, and_true] at hm
  have hc0 : sCell rs (i : Int).toNat 0 = tI a0 := by rw [cell_at' hi, hr]; rfl
  have hc1 : sCell rs (i : Int).toNat 1 = tI a1 := by rw [cell_at' hi, hr]; rfl
  have hc2 : sCell rs (i : Int).toNat 2 = tI a2 := by rw [cell_at' hi, hr]; rfl
  have hc3 : sCell rs (i : Int).toNat 3 = tI a3 := by rw [cell_at' hi, hr]; rfl
  have hc4 : sCell rs (i : Int).toNat 4 = tI a4 := by rw [cell_at' hi, hr]; rfl
  have hc5 : sCell rs (i : Int).toNat 5 = tI a5 := by rw [cell_at' hi, hr]; rfl
  have hk0 : sOkC [.int .i64] rs (i : Int).toNat 0 = true := by rw [sOkC_eq]; simp only [okCells, ← sCell_eq, hc0]; rfl
  have hk1 : sOkC [.int .i64] rs (i : Int).toNat 1 = true := by rw [sOkC_eq]; simp only [okCells, ← sCell_eq, hc1]; rfl
  have hk2 : sOkC [.int .i64] rs (i : Int).toNat 2 = true := by rw [sOkC_eq]; simp only [okCells, ← sCell_eq, hc2]; rfl
  have hk3 : sOkC [.int .i64] rs (i : Int).toNat 3 = true := by rw [sOkC_eq]; simp only [okCells, ← sCell_eq, hc3]; rfl
  have hk4 : sOkC [.int .i64] rs (i : Int).toNat 4 = true := by rw [sOkC_eq]; simp only [okCells, ← sCell_eq, hc4]; rfl
  have hk5 : sOkC [.int .i64] rs (i : Int).toNat 5 = true := by rw [sOkC_eq]; simp only [okCells, ← sCell_eq, hc5]; rfl
  simp only [tAt0, tAt1, tAt2, iT_im, bT_im, rT_sl, okT_i, okT_b, okT_s, slT_sl, le_0, Bool.and_true, Bool.true_and, cond_true, cond_false, lt_len hi, hc0, hc1, hc2, hc3, hc4, hc5, hk0, hk1, hk2, hk3, hk4, hk5, mkR, mkT, ← sMkN_eq, sEq30, Bool.not_false, add1i (Nat.lt_of_lt_of_le hi (Nat.le_trans hn (by decide)))]
  try simp only [← sMkN_eq] at hm
  simp [← hm, sEq_rfl, sBeq_rfl]
 ·simp only [tAt0, tAt1, tAt2, iT_im, bT_im, rT_sl, okT_i, okT_b, okT_s, slT_sl, le_0, Bool.and_true, Bool.true_and, cond_true, cond_false, lt_len']
theorem b_heFrameS {rs : List (List T)} {k : Int} (h : pHe kFrame rs k = true) : body lp0 ET55 18 [.c (.sl .ro 4 rs), aI k] [] = some (.ret (oI (sMkN rs k))) := by
 rw [nf_18]
 have h' := h
 rw [pHe_eq] at h'
 simp only [Bool.and_eq_true, decide_eq_true_eq] at h'
 obtain ⟨⟨⟨⟨⟨hs, hl⟩, hn⟩, _⟩, _⟩, _⟩ := h'
 refine he_loop h (fun i m hi h0 h1 hm => ?_) (fun m => ?_)
 ·obtain ⟨a0, a1, a2, a3, hr, ga0⟩ := row_Frame (shRs_get hs hi)
  have hl2 := lenRs_get hl hi
  rw [hr] at hl2 hm h1 ⊢
  simp only [lenR, lenT, Bool.and_eq_true, decide_eq_true_eq] at hl2
  simp only [cnR, cnT] at h1
  simp only [mkR, mkT, List.cons.injEq, T.im.injEq, T.sl.injEq, Value.int.injEq, Value.bool.injEq, true_and, and_true] at hm
  have hc0 : sCell rs (i : Int).toNat 0 = tI a0 := by rw [cell_at' hi, hr]; rfl
  have hc1 : sCell rs (i : Int).toNat 1 = tI a1 := by rw [cell_at' hi, hr]; rfl
  have hc2 : sCell rs (i : Int).toNat 2 = tI a2 := by rw [cell_at' hi, hr]; rfl
  have hc3 : sCell rs (i : Int).toNat 3 = tI a3 := by rw [cell_at' hi, hr]; rfl
  have hk0 : sOkC [.int .i64] rs (i : Int).toNat 0 = true := by rw [sOkC_eq]; simp only [okCells, ← sCell_eq, hc0]; rfl
  have hk1 : sOkC [.int .i64] rs (i : Int).toNat 1 = true := by rw [sOkC_eq]; simp only [okCells, ← sCell_eq, hc1]; rfl
  have hk2 : sOkC [.int .i64] rs (i : Int).toNat 2 = true := by rw [sOkC_eq]; simp only [okCells, ← sCell_eq, hc2]; rfl
  have hk3 : sOkC [.int .i64] rs (i : Int).toNat 3 = true := by rw [sOkC_eq]; simp only [okCells, ← sCell_eq, hc3]; rfl
  simp only [tAt0, tAt1, tAt2, iT_im, bT_im, rT_sl, okT_i, okT_b, okT_s, slT_sl, le_0, Bool.and_true, Bool.true_and, cond_true, cond_false, lt_len hi, hc0, hc1, hc2, hc3, hk0, hk1, hk2, hk3, mkR, mkT, ← sMkN_eq, sEq30, Bool.not_false, add1i (Nat.lt_of_lt_of_le hi (Nat.le_trans hn (by decide)))]
  try simp only [← sMkN_eq] at hm
  simp [← hm, sEq_rfl, sBeq_rfl]
 ·simp only [tAt0, tAt1, tAt2, iT_im, bT_im, rT_sl, okT_i, okT_b, okT_s, slT_sl, le_0, Bool.and_true, Bool.true_and, cond_true, cond_false, lt_len']
theorem he_ge {row : List KT} {rs : List (List T)} {k : Int} (h : pHe row rs k = true) : sLt (sMkN rs k) 0 = false := by
 rw [pHe_eq] at h
 simp only [Bool.and_eq_true, decide_eq_true_eq] at h
 rw [sLt_eq, sMkN_eq, mkRs_cn h.1.2 h.2, decide_eq_false (by omega)]
theorem good52 : Good Go.Proofs.Try.prog md0 (fun _ => .own) TL52 := good_mkS (fun h => b_mkByteS h) good51
theorem good53 : Good Go.Proofs.Try.prog md0 (fun _ => .own) TL53 := good_mkS (fun h => b_mkAggS h) good52
theorem good54 : Good Go.Proofs.Try.prog md0 (fun _ => .own) TL54 := good_mkS (fun h => b_mkFrameS h) good53
theorem good55 : Good Go.Proofs.Try.prog md0 (fun _ => .own) TL55 := good_heS (fun h => b_heAggS h) good54
theorem good56 : Good Go.Proofs.Try.prog md0 (fun _ => .own) TL56 := good_heS (fun h => b_heFrameS h) good55

end Go.Vm
