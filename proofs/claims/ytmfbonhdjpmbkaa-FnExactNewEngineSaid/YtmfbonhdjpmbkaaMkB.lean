/- the bodies of the marking helpers -/
import Derived.Test.YtmfbonhdjpmbkaaEngB
import Derived.Test.YtmfbonhdjpmbkaaOkB
import Derived.Test.YtmfbonhdjpmbkaaMkN
namespace Go.Vm
set_option linter.unusedVariables false
set_option linter.unusedSimpArgs false
theorem isSl_sl (sz : Nat) (f : Fl) (rs : List (List T)) : isSl sz (.sl f sz rs) = true := by rw [← slT_eq]; exact slT_sl sz f rs
theorem sBeq_rfl (a : Bool) : sBeq a a = true := by rw [sBeq_eq]; simp
theorem sEq30 : sEq 3 0 = false := by rw [sEq_eq]; rfl
theorem b_mkByteS {rs : List (List T)} {k : Int} (h : pMk [kB] rs k = true) : body lp0 ET68 122 [.c (.sl .own 1 rs), aI k] [] = some (.ret ⟨[aI (sMkN rs k)], [.sl .own 1 (sMk rs k)], []⟩) := by
  rw [nf_122]
  rw [pMk_eq] at h
  simp only [Bool.and_eq_true, decide_eq_true_eq] at h
  obtain ⟨⟨⟨hs, ha⟩, hl⟩, hn⟩ := h
  refine mk_loop (row := [kB]) (fun i m out hi ho => ?_) (fun out m => ?_)
  · obtain ⟨a0, hr, ga0⟩ := row_Byte (shRs_get hs hi)
    rw [hr]
    simp only [tAt0, tAt1, tAt2, iT_im, bT_im, rT_sl, okT_i, okT_b, okT_s, slT_sl, le_0, Bool.and_true, Bool.true_and, cond_true, cond_false, lt_len hi, setRow_s ho, setCell_s ho, cell_s ho, okc_s ho, isSl_sl, List.set_cons_zero, splice0, spliceS, List.getD_cons_zero, mkR, mkT, ← sMk_eq, ← sMkN_eq, sEq30, Bool.not_false, add1i (Nat.lt_of_lt_of_le hi (Nat.le_trans hn (by decide)))]
  · simp only [tAt0, tAt1, tAt2, iT_im, bT_im, rT_sl, okT_i, okT_b, okT_s, slT_sl, le_0, Bool.and_true, Bool.true_and, cond_true, cond_false, lt_len']
theorem b_mkIntS {rs : List (List T)} {k : Int} (h : pMk [kI] rs k = true) : body lp0 ET69 20 [.c (.sl .own 1 rs), aI k] [] = some (.ret ⟨[aI (sMkN rs k)], [.sl .own 1 (sMk rs k)], []⟩) := by
  rw [nf_20]
  rw [pMk_eq] at h
  simp only [Bool.and_eq_true, decide_eq_true_eq] at h
  obtain ⟨⟨⟨hs, ha⟩, hl⟩, hn⟩ := h
  refine mk_loop (row := [kI]) (fun i m out hi ho => ?_) (fun out m => ?_)
  · obtain ⟨a0, hr, ga0⟩ := row_Int (shRs_get hs hi)
    rw [hr]
    simp only [tAt0, tAt1, tAt2, iT_im, bT_im, rT_sl, okT_i, okT_b, okT_s, slT_sl, le_0, Bool.and_true, Bool.true_and, cond_true, cond_false, lt_len hi, setRow_s ho, setCell_s ho, cell_s ho, okc_s ho, isSl_sl, List.set_cons_zero, splice0, spliceS, List.getD_cons_zero, mkR, mkT, ← sMk_eq, ← sMkN_eq, sEq30, Bool.not_false, add1i (Nat.lt_of_lt_of_le hi (Nat.le_trans hn (by decide)))]
  · simp only [tAt0, tAt1, tAt2, iT_im, bT_im, rT_sl, okT_i, okT_b, okT_s, slT_sl, le_0, Bool.and_true, Bool.true_and, cond_true, cond_false, lt_len']
theorem b_mkAggS {rs : List (List T)} {k : Int} (h : pMk kAggT rs k = true) : body lp0 ET70 47 [.c (.sl .own 6 rs), aI k] [] = some (.ret ⟨[aI (sMkN rs k)], [.sl .own 6 (sMk rs k)], []⟩) := by
  rw [nf_47]
  rw [pMk_eq] at h
  simp only [Bool.and_eq_true, decide_eq_true_eq] at h
  obtain ⟨⟨⟨hs, ha⟩, hl⟩, hn⟩ := h
  refine mk_loop (row := kAggT) (fun i m out hi ho => ?_) (fun out m => ?_)
  · obtain ⟨a0, a1, a2, a3, a4, a5, hr, ga0⟩ := row_Agg (shRs_get hs hi)
    rw [hr]
    simp only [tAt0, tAt1, tAt2, iT_im, bT_im, rT_sl, okT_i, okT_b, okT_s, slT_sl, le_0, Bool.and_true, Bool.true_and, cond_true, cond_false, lt_len hi, setRow_s ho, setCell_s ho, cell_s ho, okc_s ho, isSl_sl, List.set_cons_zero, splice0, spliceS, List.getD_cons_zero, mkR, mkT, ← sMk_eq, ← sMkN_eq, sEq30, Bool.not_false, add1i (Nat.lt_of_lt_of_le hi (Nat.le_trans hn (by decide)))]
  · simp only [tAt0, tAt1, tAt2, iT_im, bT_im, rT_sl, okT_i, okT_b, okT_s, slT_sl, le_0, Bool.and_true, Bool.true_and, cond_true, cond_false, lt_len']
theorem b_mkMsgS {rs : List (List T)} {k : Int} (h : pMk kMsg rs k = true) : body lp0 ET71 94 [.c (.sl .own 5 rs), aI k] [] = some (.ret ⟨[aI (sMkN rs k)], [.sl .own 5 (sMk rs k)], []⟩) := by
  rw [nf_94]
  rw [pMk_eq] at h
  simp only [Bool.and_eq_true, decide_eq_true_eq] at h
  obtain ⟨⟨⟨hs, ha⟩, hl⟩, hn⟩ := h
  refine mk_loop (row := kMsg) (fun i m out hi ho => ?_) (fun out m => ?_)
  · obtain ⟨a0, a1, a2, a3, a4, hr, ga0⟩ := row_Msg (shRs_get hs hi)
    rw [hr]
    simp only [tAt0, tAt1, tAt2, iT_im, bT_im, rT_sl, okT_i, okT_b, okT_s, slT_sl, le_0, Bool.and_true, Bool.true_and, cond_true, cond_false, lt_len hi, setRow_s ho, setCell_s ho, cell_s ho, okc_s ho, isSl_sl, List.set_cons_zero, splice0, spliceS, List.getD_cons_zero, mkR, mkT, ← sMk_eq, ← sMkN_eq, sEq30, Bool.not_false, add1i (Nat.lt_of_lt_of_le hi (Nat.le_trans hn (by decide)))]
  · simp only [tAt0, tAt1, tAt2, iT_im, bT_im, rT_sl, okT_i, okT_b, okT_s, slT_sl, le_0, Bool.and_true, Bool.true_and, cond_true, cond_false, lt_len']
theorem b_mkMsgSS {rs : List (List T)} {k : Int} (h : pMk [.sl kMsg] rs k = true) : body lp0 ET72 95 [.c (.sl .own 1 rs), aI k] [] = some (.ret ⟨[aI (sMkN rs k)], [.sl .own 1 (sMk rs k)], []⟩) := by
  rw [nf_95]
  rw [pMk_eq] at h
  simp only [Bool.and_eq_true, decide_eq_true_eq] at h
  obtain ⟨⟨⟨hs, ha⟩, hl⟩, hn⟩ := h
  refine mk_loop (row := [.sl kMsg]) (fun i m out hi ho => ?_) (fun out m => ?_)
  · obtain ⟨fa0, a0, hr, ga0⟩ := row_MsgS (shRs_get hs hi)
    have ha2 := aoRs_get ha hi
    have hl2 := lenRs_get hl hi
    rw [hr] at ha2 hl2
    simp only [lenR, lenT, Bool.and_eq_true, decide_eq_true_eq] at hl2
    obtain rfl : fa0 = .own := by cases fa0 <;> simp [aoR, aoT] at ha2 <;> rfl
    simp only [aoR, aoT, Bool.and_eq_true, Bool.and_true, and_true] at ha2
    have hp : ∀ m, pMk kMsg a0 m = true := fun m => by rw [pMk_eq]; simp [ga0, ha2, hl2]
    have hq : ∀ m, sNoRo (.sl .own 5 (sMk a0 m)) = true := fun m => noRo_mk (by simp [ha2])
    rw [hr]
    simp only [tAt0, tAt1, tAt2, iT_im, bT_im, rT_sl, okT_i, okT_b, okT_s, slT_sl, le_0, Bool.and_true, Bool.true_and, cond_true, cond_false, lt_len hi, setRow_s ho, setCell_s ho, cell_s ho, okc_s ho, isSl_sl, List.set_cons_zero, splice0, spliceS, List.getD_cons_zero, mkR, mkT, ← sMk_eq, ← sMkN_eq, sEq30, Bool.not_false, hp, hq, add1i (Nat.lt_of_lt_of_le hi (Nat.le_trans hn (by decide)))]
  · simp only [tAt0, tAt1, tAt2, iT_im, bT_im, rT_sl, okT_i, okT_b, okT_s, slT_sl, le_0, Bool.and_true, Bool.true_and, cond_true, cond_false, lt_len']
theorem b_mkConnS {rs : List (List T)} {k : Int} (h : pMk kConn rs k = true) : body lp0 ET73 93 [.c (.sl .own 7 rs), aI k] [] = some (.ret ⟨[aI (sMkN rs k)], [.sl .own 7 (sMk rs k)], []⟩) := by
  rw [nf_93]
  rw [pMk_eq] at h
  simp only [Bool.and_eq_true, decide_eq_true_eq] at h
  obtain ⟨⟨⟨hs, ha⟩, hl⟩, hn⟩ := h
  refine mk_loop (row := kConn) (fun i m out hi ho => ?_) (fun out m => ?_)
  · obtain ⟨fa0, a0, a1, a2, a3, a4, a5, a6, hr, ga0⟩ := row_Conn (shRs_get hs hi)
    have ha2 := aoRs_get ha hi
    have hl2 := lenRs_get hl hi
    rw [hr] at ha2 hl2
    simp only [lenR, lenT, Bool.and_eq_true, decide_eq_true_eq] at hl2
    obtain rfl : fa0 = .own := by cases fa0 <;> simp [aoR, aoT] at ha2 <;> rfl
    simp only [aoR, aoT, Bool.and_eq_true, Bool.and_true, and_true] at ha2
    have hp : ∀ m, pMk [kB] a0 m = true := fun m => by rw [pMk_eq]; simp [ga0, ha2, hl2]
    have hq : ∀ m, sNoRo (.sl .own 1 (sMk a0 m)) = true := fun m => noRo_mk (by simp [ha2])
    rw [hr]
    simp only [tAt0, tAt1, tAt2, iT_im, bT_im, rT_sl, okT_i, okT_b, okT_s, slT_sl, le_0, Bool.and_true, Bool.true_and, cond_true, cond_false, lt_len hi, setRow_s ho, setCell_s ho, cell_s ho, okc_s ho, isSl_sl, List.set_cons_zero, splice0, spliceS, List.getD_cons_zero, mkR, mkT, ← sMk_eq, ← sMkN_eq, sEq30, Bool.not_false, hp, hq, add1i (Nat.lt_of_lt_of_le hi (Nat.le_trans hn (by decide)))]
  · simp only [tAt0, tAt1, tAt2, iT_im, bT_im, rT_sl, okT_i, okT_b, okT_s, slT_sl, le_0, Bool.and_true, Bool.true_and, cond_true, cond_false, lt_len']
theorem b_mkShardS {rs : List (List T)} {k : Int} (h : pMk kShard rs k = true) : body lp0 ET74 96 [.c (.sl .own 4 rs), aI k] [] = some (.ret ⟨[aI (sMkN rs k)], [.sl .own 4 (sMk rs k)], []⟩) := by
  rw [nf_96]
  rw [pMk_eq] at h
  simp only [Bool.and_eq_true, decide_eq_true_eq] at h
  obtain ⟨⟨⟨hs, ha⟩, hl⟩, hn⟩ := h
  refine mk_loop (row := kShard) (fun i m out hi ho => ?_) (fun out m => ?_)
  · obtain ⟨fa0, a0, a1, a2, a3, hr, ga0⟩ := row_Shard (shRs_get hs hi)
    have ha2 := aoRs_get ha hi
    have hl2 := lenRs_get hl hi
    rw [hr] at ha2 hl2
    simp only [lenR, lenT, Bool.and_eq_true, decide_eq_true_eq] at hl2
    obtain rfl : fa0 = .own := by cases fa0 <;> simp [aoR, aoT] at ha2 <;> rfl
    simp only [aoR, aoT, Bool.and_eq_true, Bool.and_true, and_true] at ha2
    have hp : ∀ m, pMk kAggT a0 m = true := fun m => by rw [pMk_eq]; simp [ga0, ha2, hl2]
    have hq : ∀ m, sNoRo (.sl .own 6 (sMk a0 m)) = true := fun m => noRo_mk (by simp [ha2])
    rw [hr]
    simp only [tAt0, tAt1, tAt2, iT_im, bT_im, rT_sl, okT_i, okT_b, okT_s, slT_sl, le_0, Bool.and_true, Bool.true_and, cond_true, cond_false, lt_len hi, setRow_s ho, setCell_s ho, cell_s ho, okc_s ho, isSl_sl, List.set_cons_zero, splice0, spliceS, List.getD_cons_zero, mkR, mkT, ← sMk_eq, ← sMkN_eq, sEq30, Bool.not_false, hp, hq, add1i (Nat.lt_of_lt_of_le hi (Nat.le_trans hn (by decide)))]
  · simp only [tAt0, tAt1, tAt2, iT_im, bT_im, rT_sl, okT_i, okT_b, okT_s, slT_sl, le_0, Bool.and_true, Bool.true_and, cond_true, cond_false, lt_len']
theorem b_heByteS {rs : List (List T)} {k : Int} (h : pHe [kB] rs k = true) : body lp0 ET76 123 [.c (.sl .ro 1 rs), aI k] [] = some (.ret (oI (sMkN rs k))) := by
  rw [nf_123]
  have h' := h
  rw [pHe_eq] at h'
  simp only [Bool.and_eq_true, decide_eq_true_eq] at h'
  obtain ⟨⟨⟨⟨⟨hs, hl⟩, hn⟩, _⟩, _⟩, _⟩ := h'
  refine he_loop h (fun i m hi h0 h1 hm => ?_) (fun m => ?_)
  · obtain ⟨a0, hr, ga0⟩ := row_Byte (shRs_get hs hi)
    have hl2 := lenRs_get hl hi
    rw [hr] at hl2 hm h1 ⊢
    simp only [lenR, lenT, Bool.and_eq_true, decide_eq_true_eq] at hl2
    simp only [cnR, cnT] at h1
    simp only [mkR, mkT, List.cons.injEq, T.im.injEq, T.sl.injEq, Value.int.injEq, Value.bool.injEq, true_and, and_true] at hm
    have hc0 : sCell rs (i : Int).toNat 0 = (.im (.int .u8 a0)) := by rw [cell_at' hi, hr]; rfl
    have hk0 : sOkC [.int .u8] rs (i : Int).toNat 0 = true := by rw [sOkC_eq]; simp only [okCells, ← sCell_eq, hc0]; rfl
    simp only [tAt0, tAt1, tAt2, iT_im, bT_im, rT_sl, okT_i, okT_b, okT_s, slT_sl, le_0, Bool.and_true, Bool.true_and, cond_true, cond_false, lt_len hi, hc0, hk0, mkR, mkT, ← sMkN_eq, sEq30, Bool.not_false, add1i (Nat.lt_of_lt_of_le hi (Nat.le_trans hn (by decide)))]
    try simp only [← sMkN_eq] at hm
    simp [← hm, sEq_rfl, sBeq_rfl]
  · simp only [tAt0, tAt1, tAt2, iT_im, bT_im, rT_sl, okT_i, okT_b, okT_s, slT_sl, le_0, Bool.and_true, Bool.true_and, cond_true, cond_false, lt_len']
theorem b_heIntS {rs : List (List T)} {k : Int} (h : pHe [kI] rs k = true) : body lp0 ET77 21 [.c (.sl .ro 1 rs), aI k] [] = some (.ret (oI (sMkN rs k))) := by
  rw [nf_21]
  have h' := h
  rw [pHe_eq] at h'
  simp only [Bool.and_eq_true, decide_eq_true_eq] at h'
  obtain ⟨⟨⟨⟨⟨hs, hl⟩, hn⟩, _⟩, _⟩, _⟩ := h'
  refine he_loop h (fun i m hi h0 h1 hm => ?_) (fun m => ?_)
  · obtain ⟨a0, hr, ga0⟩ := row_Int (shRs_get hs hi)
    have hl2 := lenRs_get hl hi
    rw [hr] at hl2 hm h1 ⊢
    simp only [lenR, lenT, Bool.and_eq_true, decide_eq_true_eq] at hl2
    simp only [cnR, cnT] at h1
    simp only [mkR, mkT, List.cons.injEq, T.im.injEq, T.sl.injEq, Value.int.injEq, Value.bool.injEq, true_and, and_true] at hm
    have hc0 : sCell rs (i : Int).toNat 0 = tI a0 := by rw [cell_at' hi, hr]; rfl
    have hk0 : sOkC [.int .i64] rs (i : Int).toNat 0 = true := by rw [sOkC_eq]; simp only [okCells, ← sCell_eq, hc0]; rfl
    simp only [tAt0, tAt1, tAt2, iT_im, bT_im, rT_sl, okT_i, okT_b, okT_s, slT_sl, le_0, Bool.and_true, Bool.true_and, cond_true, cond_false, lt_len hi, hc0, hk0, mkR, mkT, ← sMkN_eq, sEq30, Bool.not_false, add1i (Nat.lt_of_lt_of_le hi (Nat.le_trans hn (by decide)))]
    try simp only [← sMkN_eq] at hm
    simp [← hm, sEq_rfl, sBeq_rfl]
  · simp only [tAt0, tAt1, tAt2, iT_im, bT_im, rT_sl, okT_i, okT_b, okT_s, slT_sl, le_0, Bool.and_true, Bool.true_and, cond_true, cond_false, lt_len']
theorem b_heAggS {rs : List (List T)} {k : Int} (h : pHe kAggT rs k = true) : body lp0 ET78 48 [.c (.sl .ro 6 rs), aI k] [] = some (.ret (oI (sMkN rs k))) := by
  rw [nf_48]
  have h' := h
  rw [pHe_eq] at h'
  simp only [Bool.and_eq_true, decide_eq_true_eq] at h'
  obtain ⟨⟨⟨⟨⟨hs, hl⟩, hn⟩, _⟩, _⟩, _⟩ := h'
  refine he_loop h (fun i m hi h0 h1 hm => ?_) (fun m => ?_)
  · obtain ⟨a0, a1, a2, a3, a4, a5, hr, ga0⟩ := row_Agg (shRs_get hs hi)
    have hl2 := lenRs_get hl hi
    rw [hr] at hl2 hm h1 ⊢
    simp only [lenR, lenT, Bool.and_eq_true, decide_eq_true_eq] at hl2
    simp only [cnR, cnT] at h1
    simp only [mkR, mkT, List.cons.injEq, T.im.injEq, T.sl.injEq, Value.int.injEq, Value.bool.injEq, true_and, and_true] at hm
    have hc0 : sCell rs (i : Int).toNat 0 = tI a0 := by rw [cell_at' hi, hr]; rfl
    have hc1 : sCell rs (i : Int).toNat 1 = tI a1 := by rw [cell_at' hi, hr]; rfl
    have hc2 : sCell rs (i : Int).toNat 2 = tI a2 := by rw [cell_at' hi, hr]; rfl
    have hc3 : sCell rs (i : Int).toNat 3 = tI a3 := by rw [cell_at' hi, hr]; rfl
    have hc4 : sCell rs (i : Int).toNat 4 = tI a4 := by rw [cell_at' hi, hr]; rfl
    have hc5 : sCell rs (i : Int).toNat 5 = tI a5 := by rw [cell_at' hi, hr]; rfl
    have hk0 : sOkC [.int .i64] rs (i : Int).toNat 0 = true := by rw [sOkC_eq]; simp only [okCells, ← sCell_eq, hc0]; rfl
    have hk1 : sOkC [.int .i64] rs (i : Int).toNat 1 = true := by rw [sOkC_eq]; simp only [okCells, ← sCell_eq, hc1]; rfl
    have hk2 : sOkC [.int .i64] rs (i : Int).toNat 2 = true := by rw [sOkC_eq]; simp only [okCells, ← sCell_eq, hc2]; rfl
    have hk3 : sOkC [.int .i64] rs (i : Int).toNat 3 = true := by rw [sOkC_eq]; simp only [okCells, ← sCell_eq, hc3]; rfl
    have hk4 : sOkC [.int .i64] rs (i : Int).toNat 4 = true := by rw [sOkC_eq]; simp only [okCells, ← sCell_eq, hc4]; rfl
    have hk5 : sOkC [.int .i64] rs (i : Int).toNat 5 = true := by rw [sOkC_eq]; simp only [okCells, ← sCell_eq, hc5]; rfl
    simp only [tAt0, tAt1, tAt2, iT_im, bT_im, rT_sl, okT_i, okT_b, okT_s, slT_sl, le_0, Bool.and_true, Bool.true_and, cond_true, cond_false, lt_len hi, hc0, hc1, hc2, hc3, hc4, hc5, hk0, hk1, hk2, hk3, hk4, hk5, mkR, mkT, ← sMkN_eq, sEq30, Bool.not_false, add1i (Nat.lt_of_lt_of_le hi (Nat.le_trans hn (by decide)))]
    try simp only [← sMkN_eq] at hm
    simp [← hm, sEq_rfl, sBeq_rfl]
  · simp only [tAt0, tAt1, tAt2, iT_im, bT_im, rT_sl, okT_i, okT_b, okT_s, slT_sl, le_0, Bool.and_true, Bool.true_and, cond_true, cond_false, lt_len']
theorem b_heMsgS {rs : List (List T)} {k : Int} (h : pHe kMsg rs k = true) : body lp0 ET79 98 [.c (.sl .ro 5 rs), aI k] [] = some (.ret (oI (sMkN rs k))) := by
  rw [nf_98]
  have h' := h
  rw [pHe_eq] at h'
  simp only [Bool.and_eq_true, decide_eq_true_eq] at h'
  obtain ⟨⟨⟨⟨⟨hs, hl⟩, hn⟩, _⟩, _⟩, _⟩ := h'
  refine he_loop h (fun i m hi h0 h1 hm => ?_) (fun m => ?_)
  · obtain ⟨a0, a1, a2, a3, a4, hr, ga0⟩ := row_Msg (shRs_get hs hi)
    have hl2 := lenRs_get hl hi
    rw [hr] at hl2 hm h1 ⊢
    simp only [lenR, lenT, Bool.and_eq_true, decide_eq_true_eq] at hl2
    simp only [cnR, cnT] at h1
    simp only [mkR, mkT, List.cons.injEq, T.im.injEq, T.sl.injEq, Value.int.injEq, Value.bool.injEq, true_and, and_true] at hm
    have hc0 : sCell rs (i : Int).toNat 0 = tI a0 := by rw [cell_at' hi, hr]; rfl
    have hc1 : sCell rs (i : Int).toNat 1 = tI a1 := by rw [cell_at' hi, hr]; rfl
    have hc2 : sCell rs (i : Int).toNat 2 = tI a2 := by rw [cell_at' hi, hr]; rfl
    have hc3 : sCell rs (i : Int).toNat 3 = tI a3 := by rw [cell_at' hi, hr]; rfl
    have hc4 : sCell rs (i : Int).toNat 4 = tI a4 := by rw [cell_at' hi, hr]; rfl
    have hk0 : sOkC [.int .i64] rs (i : Int).toNat 0 = true := by rw [sOkC_eq]; simp only [okCells, ← sCell_eq, hc0]; rfl
    have hk1 : sOkC [.int .i64] rs (i : Int).toNat 1 = true := by rw [sOkC_eq]; simp only [okCells, ← sCell_eq, hc1]; rfl
    have hk2 : sOkC [.int .i64] rs (i : Int).toNat 2 = true := by rw [sOkC_eq]; simp only [okCells, ← sCell_eq, hc2]; rfl
    have hk3 : sOkC [.int .i64] rs (i : Int).toNat 3 = true := by rw [sOkC_eq]; simp only [okCells, ← sCell_eq, hc3]; rfl
    have hk4 : sOkC [.int .i64] rs (i : Int).toNat 4 = true := by rw [sOkC_eq]; simp only [okCells, ← sCell_eq, hc4]; rfl
    simp only [tAt0, tAt1, tAt2, iT_im, bT_im, rT_sl, okT_i, okT_b, okT_s, slT_sl, le_0, Bool.and_true, Bool.true_and, cond_true, cond_false, lt_len hi, hc0, hc1, hc2, hc3, hc4, hk0, hk1, hk2, hk3, hk4, mkR, mkT, ← sMkN_eq, sEq30, Bool.not_false, add1i (Nat.lt_of_lt_of_le hi (Nat.le_trans hn (by decide)))]
    try simp only [← sMkN_eq] at hm
    simp [← hm, sEq_rfl, sBeq_rfl]
  · simp only [tAt0, tAt1, tAt2, iT_im, bT_im, rT_sl, okT_i, okT_b, okT_s, slT_sl, le_0, Bool.and_true, Bool.true_and, cond_true, cond_false, lt_len']
theorem b_heMsgSS {rs : List (List T)} {k : Int} (h : pHe [.sl kMsg] rs k = true) : body lp0 ET80 99 [.c (.sl .ro 1 rs), aI k] [] = some (.ret (oI (sMkN rs k))) := by
  rw [nf_99]
  have h' := h
  rw [pHe_eq] at h'
  simp only [Bool.and_eq_true, decide_eq_true_eq] at h'
  obtain ⟨⟨⟨⟨⟨hs, hl⟩, hn⟩, _⟩, _⟩, _⟩ := h'
  refine he_loop h (fun i m hi h0 h1 hm => ?_) (fun m => ?_)
  · obtain ⟨fa0, a0, hr, ga0⟩ := row_MsgS (shRs_get hs hi)
    have hl2 := lenRs_get hl hi
    rw [hr] at hl2 hm h1 ⊢
    simp only [lenR, lenT, Bool.and_eq_true, decide_eq_true_eq] at hl2
    simp only [cnR, cnT] at h1
    simp only [mkR, mkT, List.cons.injEq, T.im.injEq, T.sl.injEq, Value.int.injEq, Value.bool.injEq, true_and, and_true] at hm
    have hc0 : sCell rs (i : Int).toNat 0 = .sl fa0 5 a0 := by rw [cell_at' hi, hr]; rfl
    have hk0 : sOkC [.sl 5] rs (i : Int).toNat 0 = true := by rw [sOkC_eq]; simp only [okCells, ← sCell_eq, hc0]; rfl
    simp only [tAt0, tAt1, tAt2, iT_im, bT_im, rT_sl, okT_i, okT_b, okT_s, slT_sl, le_0, Bool.and_true, Bool.true_and, cond_true, cond_false, lt_len hi, hc0, hk0, mkR, mkT, ← sMkN_eq, sEq30, Bool.not_false, add1i (Nat.lt_of_lt_of_le hi (Nat.le_trans hn (by decide)))]
    rw [he_step (by exact ga0) (by simp [hl2]) h0 (by omega) (by first | exact hm0 | exact hm)]
  · simp only [tAt0, tAt1, tAt2, iT_im, bT_im, rT_sl, okT_i, okT_b, okT_s, slT_sl, le_0, Bool.and_true, Bool.true_and, cond_true, cond_false, lt_len']
theorem b_heConnS {rs : List (List T)} {k : Int} (h : pHe kConn rs k = true) : body lp0 ET81 97 [.c (.sl .ro 7 rs), aI k] [] = some (.ret (oI (sMkN rs k))) := by
  rw [nf_97]
  have h' := h
  rw [pHe_eq] at h'
  simp only [Bool.and_eq_true, decide_eq_true_eq] at h'
  obtain ⟨⟨⟨⟨⟨hs, hl⟩, hn⟩, _⟩, _⟩, _⟩ := h'
  refine he_loop h (fun i m hi h0 h1 hm => ?_) (fun m => ?_)
  · obtain ⟨fa0, a0, a1, a2, a3, a4, a5, a6, hr, ga0⟩ := row_Conn (shRs_get hs hi)
    have hl2 := lenRs_get hl hi
    rw [hr] at hl2 hm h1 ⊢
    simp only [lenR, lenT, Bool.and_eq_true, decide_eq_true_eq] at hl2
    simp only [cnR, cnT] at h1
    simp only [mkR, mkT, List.cons.injEq, T.im.injEq, T.sl.injEq, Value.int.injEq, Value.bool.injEq, true_and, and_true] at hm
    obtain ⟨hm0, hm⟩ := hm
    have hc0 : sCell rs (i : Int).toNat 0 = .sl fa0 1 a0 := by rw [cell_at' hi, hr]; rfl
    have hc1 : sCell rs (i : Int).toNat 1 = tB a1 := by rw [cell_at' hi, hr]; rfl
    have hc2 : sCell rs (i : Int).toNat 2 = tI a2 := by rw [cell_at' hi, hr]; rfl
    have hc3 : sCell rs (i : Int).toNat 3 = tI a3 := by rw [cell_at' hi, hr]; rfl
    have hc4 : sCell rs (i : Int).toNat 4 = tI a4 := by rw [cell_at' hi, hr]; rfl
    have hc5 : sCell rs (i : Int).toNat 5 = tB a5 := by rw [cell_at' hi, hr]; rfl
    have hc6 : sCell rs (i : Int).toNat 6 = tB a6 := by rw [cell_at' hi, hr]; rfl
    have hk0 : sOkC [.sl 1] rs (i : Int).toNat 0 = true := by rw [sOkC_eq]; simp only [okCells, ← sCell_eq, hc0]; rfl
    have hk1 : sOkC [.bool] rs (i : Int).toNat 1 = true := by rw [sOkC_eq]; simp only [okCells, ← sCell_eq, hc1]; rfl
    have hk2 : sOkC [.int .i64] rs (i : Int).toNat 2 = true := by rw [sOkC_eq]; simp only [okCells, ← sCell_eq, hc2]; rfl
    have hk3 : sOkC [.int .i64] rs (i : Int).toNat 3 = true := by rw [sOkC_eq]; simp only [okCells, ← sCell_eq, hc3]; rfl
    have hk4 : sOkC [.int .i64] rs (i : Int).toNat 4 = true := by rw [sOkC_eq]; simp only [okCells, ← sCell_eq, hc4]; rfl
    have hk5 : sOkC [.bool] rs (i : Int).toNat 5 = true := by rw [sOkC_eq]; simp only [okCells, ← sCell_eq, hc5]; rfl
    have hk6 : sOkC [.bool] rs (i : Int).toNat 6 = true := by rw [sOkC_eq]; simp only [okCells, ← sCell_eq, hc6]; rfl
    simp only [tAt0, tAt1, tAt2, iT_im, bT_im, rT_sl, okT_i, okT_b, okT_s, slT_sl, le_0, Bool.and_true, Bool.true_and, cond_true, cond_false, lt_len hi, hc0, hc1, hc2, hc3, hc4, hc5, hc6, hk0, hk1, hk2, hk3, hk4, hk5, hk6, mkR, mkT, ← sMkN_eq, sEq30, Bool.not_false, add1i (Nat.lt_of_lt_of_le hi (Nat.le_trans hn (by decide)))]
    rw [he_step (by exact ga0) (by simp [hl2]) h0 (by omega) (by first | exact hm0 | exact hm)]
    try simp only [← sMkN_eq] at hm
    simp [← hm, sEq_rfl, sBeq_rfl]
  · simp only [tAt0, tAt1, tAt2, iT_im, bT_im, rT_sl, okT_i, okT_b, okT_s, slT_sl, le_0, Bool.and_true, Bool.true_and, cond_true, cond_false, lt_len']
theorem b_heShardS {rs : List (List T)} {k : Int} (h : pHe kShard rs k = true) : body lp0 ET82 100 [.c (.sl .ro 4 rs), aI k] [] = some (.ret (oI (sMkN rs k))) := by
  rw [nf_100]
  have h' := h
  rw [pHe_eq] at h'
  simp only [Bool.and_eq_true, decide_eq_true_eq] at h'
  obtain ⟨⟨⟨⟨⟨hs, hl⟩, hn⟩, _⟩, _⟩, _⟩ := h'
  refine he_loop h (fun i m hi h0 h1 hm => ?_) (fun m => ?_)
  · obtain ⟨fa0, a0, a1, a2, a3, hr, ga0⟩ := row_Shard (shRs_get hs hi)
    have hl2 := lenRs_get hl hi
    rw [hr] at hl2 hm h1 ⊢
    simp only [lenR, lenT, Bool.and_eq_true, decide_eq_true_eq] at hl2
    simp only [cnR, cnT] at h1
    simp only [mkR, mkT, List.cons.injEq, T.im.injEq, T.sl.injEq, Value.int.injEq, Value.bool.injEq, true_and, and_true] at hm
    obtain ⟨hm0, hm⟩ := hm
    have hc0 : sCell rs (i : Int).toNat 0 = .sl fa0 6 a0 := by rw [cell_at' hi, hr]; rfl
    have hc1 : sCell rs (i : Int).toNat 1 = tI a1 := by rw [cell_at' hi, hr]; rfl
    have hc2 : sCell rs (i : Int).toNat 2 = tI a2 := by rw [cell_at' hi, hr]; rfl
    have hc3 : sCell rs (i : Int).toNat 3 = tI a3 := by rw [cell_at' hi, hr]; rfl
    have hk0 : sOkC [.sl 6] rs (i : Int).toNat 0 = true := by rw [sOkC_eq]; simp only [okCells, ← sCell_eq, hc0]; rfl
    have hk1 : sOkC [.int .i64] rs (i : Int).toNat 1 = true := by rw [sOkC_eq]; simp only [okCells, ← sCell_eq, hc1]; rfl
    have hk2 : sOkC [.int .i64] rs (i : Int).toNat 2 = true := by rw [sOkC_eq]; simp only [okCells, ← sCell_eq, hc2]; rfl
    have hk3 : sOkC [.int .i64] rs (i : Int).toNat 3 = true := by rw [sOkC_eq]; simp only [okCells, ← sCell_eq, hc3]; rfl
    simp only [tAt0, tAt1, tAt2, iT_im, bT_im, rT_sl, okT_i, okT_b, okT_s, slT_sl, le_0, Bool.and_true, Bool.true_and, cond_true, cond_false, lt_len hi, hc0, hc1, hc2, hc3, hk0, hk1, hk2, hk3, mkR, mkT, ← sMkN_eq, sEq30, Bool.not_false, add1i (Nat.lt_of_lt_of_le hi (Nat.le_trans hn (by decide)))]
    rw [he_step (by exact ga0) (by simp [hl2]) h0 (by omega) (by first | exact hm0 | exact hm)]
    try simp only [← sMkN_eq] at hm
    simp [← hm, sEq_rfl, sBeq_rfl]
  · simp only [tAt0, tAt1, tAt2, iT_im, bT_im, rT_sl, okT_i, okT_b, okT_s, slT_sl, le_0, Bool.and_true, Bool.true_and, cond_true, cond_false, lt_len']
theorem b_mkEngine {ts : List T} {k : Int} (hs : shR kEngine ts = true) (ha : aoR ts = true) (h : allE kEngine ts k = true) : body lp0 ET75 43 [.ag ts, aI k] [] = some (.ret ⟨[aI (numE ts k)], outsE ts k, []⟩) := by
  obtain ⟨a0, a1, a2, a3, a4, a5, a6, a7, a8, a9, a10, fa11, a11, fa12, a12, fa13, a13, fa14, a14, fa15, a15, a16, fa17, a17, a18, a19, a20, a21, a22, a23, rfl, hg⟩ := row_Engine hs
  have ai : ∀ v, aoT (.im v) = true := fun v => by simp [aoT]
  simp only [aoR, ai, Bool.and_eq_true, true_and, and_true, Bool.true_and, Bool.and_true] at ha
  have fl : ∀ {f : Fl} {sz : Nat} {rs : List (List T)}, aoT (.sl f sz rs) = true → f = .own ∧ aoRs rs = true := fun {f sz rs} h => by cases f <;> simp [aoT] at h <;> exact ⟨rfl, h⟩
  obtain ⟨rfl, ho11⟩ := fl ha.1
  obtain ⟨rfl, ho12⟩ := fl ha.2.1
  obtain ⟨rfl, ho13⟩ := fl ha.2.2.1
  obtain ⟨rfl, ho14⟩ := fl ha.2.2.2.1
  obtain ⟨rfl, ho15⟩ := fl ha.2.2.2.2.1
  obtain ⟨rfl, ho17⟩ := fl ha.2.2.2.2.2
  rw [nf_43]
  simp only [allE, List.drop_succ_cons, List.drop_zero, Bool.and_eq_true, and_true] at h
  have nr : ∀ {sz : Nat} {rs : List (List T)} {k : Int}, aoRs rs = true → sNoRo ([T.sl .own sz (sMk rs k)].getD 0 T.no) = true := fun h => by rw [List.getD_cons_zero]; exact noRo_mk h
  simp only [h, nr ho11, nr ho12, nr ho13, nr ho14, nr ho15, nr ho17, Bool.and_true, cond_true, numE, outsE]
theorem he_ge {row : List KT} {rs : List (List T)} {k : Int} (h : pHe row rs k = true) : sLt (sMkN rs k) 0 = false := by
  rw [pHe_eq] at h
  simp only [Bool.and_eq_true, decide_eq_true_eq] at h
  rw [sLt_eq, sMkN_eq, mkRs_cn h.1.2 h.2, decide_eq_false (by omega)]
theorem b_heEngine {ts : List T} {k : Int} (hs : shR kEngine ts = true) (ha : ts.all roT = true) (h : allH kEngine ts k = true) : body lp0 ET83 44 [.ag ts, aI k] [] = some (.ret (oI (numE ts k))) := by
  obtain ⟨a0, a1, a2, a3, a4, a5, a6, a7, a8, a9, a10, a11, a12, a13, a14, a15, a16, a17, a18, a19, a20, a21, a22, a23, rfl, hg⟩ := rowr_Engine hs ha
  rw [nf_44]
  simp only [allH, List.drop_succ_cons, List.drop_zero, Bool.and_eq_true, and_true] at h
  simp only [h, he_ge h.1, he_ge h.2.1, he_ge h.2.2.1, he_ge h.2.2.2.1, he_ge h.2.2.2.2.1, he_ge h.2.2.2.2.2, Bool.and_true, cond_true, cond_false, numE]
theorem good69 : Good Go.Proofs.Try.prog md0 (fun _ => .own) TL69 := good_mkS (fun h => b_mkByteS h) good68
theorem good70 : Good Go.Proofs.Try.prog md0 (fun _ => .own) TL70 := good_mkS (fun h => b_mkIntS h) good69
theorem good71 : Good Go.Proofs.Try.prog md0 (fun _ => .own) TL71 := good_mkS (fun h => b_mkAggS h) good70
theorem good72 : Good Go.Proofs.Try.prog md0 (fun _ => .own) TL72 := good_mkS (fun h => b_mkMsgS h) good71
theorem good73 : Good Go.Proofs.Try.prog md0 (fun _ => .own) TL73 := good_mkS (fun h => b_mkMsgSS h) good72
theorem good74 : Good Go.Proofs.Try.prog md0 (fun _ => .own) TL74 := good_mkS (fun h => b_mkConnS h) good73
theorem good75 : Good Go.Proofs.Try.prog md0 (fun _ => .own) TL75 := good_mkS (fun h => b_mkShardS h) good74
theorem good76 : Good Go.Proofs.Try.prog md0 (fun _ => .own) TL76 := good_mkE (fun h h1 h2 => b_mkEngine h h1 h2) good75
theorem good77 : Good Go.Proofs.Try.prog md0 (fun _ => .own) TL77 := good_heS (fun h => b_heByteS h) good76
theorem good78 : Good Go.Proofs.Try.prog md0 (fun _ => .own) TL78 := good_heS (fun h => b_heIntS h) good77
theorem good79 : Good Go.Proofs.Try.prog md0 (fun _ => .own) TL79 := good_heS (fun h => b_heAggS h) good78
theorem good80 : Good Go.Proofs.Try.prog md0 (fun _ => .own) TL80 := good_heS (fun h => b_heMsgS h) good79
theorem good81 : Good Go.Proofs.Try.prog md0 (fun _ => .own) TL81 := good_heS (fun h => b_heMsgSS h) good80
theorem good82 : Good Go.Proofs.Try.prog md0 (fun _ => .own) TL82 := good_heS (fun h => b_heConnS h) good81
theorem good83 : Good Go.Proofs.Try.prog md0 (fun _ => .own) TL83 := good_heS (fun h => b_heShardS h) good82
theorem good84 : Good Go.Proofs.Try.prog md0 (fun _ => .own) TL84 := good_heE (fun h h1 h2 => b_heEngine h h1 h2) good83

end Go.Vm
