/- the bodies of the marking helpers -/
import Derived.Test.YtopemdjgbaonmaaGreatEngB
import Derived.Test.YtopemdjgbaonmaaGreatOkB
import Derived.Test.YtopemdjgbaonmaaGreatMkN
namespace Go.Vm
set_option linter.unusedVariables false
set_option linter.unusedSimpArgs false
theorem isSl_sl (sz : Nat) (f : Fl) (rs : List (List T)) : isSl sz (.sl f sz rs) = true := by rw [← slT_eq]; exact slT_sl sz f rs
theorem sBeq_rfl (a : Bool) : sBeq a a = true := by rw [sBeq_eq]; simp
theorem sEq30 : sEq 3 0 = false := by rw [sEq_eq]; rfl
theorem b_mkByteS {rs : List (List T)} {k : Int} (h : pMk [kB] rs k = true) : body lp0 ET92 51 [.c (.sl .own 1 rs), aI k] [] = some (.ret ⟨[aI (sMkN rs k)], [.sl .own 1 (sMk rs k)], []⟩) := by
  rw [nf_51]
  rw [pMk_eq] at h
  simp only [Bool.and_eq_true, decide_eq_true_eq] at h
  obtain ⟨⟨⟨hs, ha⟩, hl⟩, hn⟩ := h
  refine mk_loop (row := [kB]) (fun i m out hi ho => ?_) (fun out m => ?_)
  · obtain ⟨a0, hr, ga0⟩ := row_Byte (shRs_get hs hi)
    rw [hr]
    simp only [tAt0, tAt1, tAt2, iT_im, bT_im, rT_sl, okT_i, okT_b, okT_s, slT_sl, le_0, Bool.and_true, Bool.true_and, cond_true, cond_false, lt_len hi, setRow_s ho, setCell_s ho, cell_s ho, okc_s ho, isSl_sl, List.set_cons_zero, splice0, spliceS, List.getD_cons_zero, mkR, mkT, ← sMk_eq, ← sMkN_eq, sEq30, Bool.not_false, add1i (Nat.lt_of_lt_of_le hi (Nat.le_trans hn (by decide)))]
  · simp only [tAt0, tAt1, tAt2, iT_im, bT_im, rT_sl, okT_i, okT_b, okT_s, slT_sl, le_0, Bool.and_true, Bool.true_and, cond_true, cond_false, lt_len']
theorem b_mkIntS {rs : List (List T)} {k : Int} (h : pMk [kI] rs k = true) : body lp0 ET93 50 [.c (.sl .own 1 rs), aI k] [] = some (.ret ⟨[aI (sMkN rs k)], [.sl .own 1 (sMk rs k)], []⟩) := by
  rw [nf_50]
  rw [pMk_eq] at h
  simp only [Bool.and_eq_true, decide_eq_true_eq] at h
  obtain ⟨⟨⟨hs, ha⟩, hl⟩, hn⟩ := h
  refine mk_loop (row := [kI]) (fun i m out hi ho => ?_) (fun out m => ?_)
  · obtain ⟨a0, hr, ga0⟩ := row_Int (shRs_get hs hi)
    rw [hr]
    simp only [tAt0, tAt1, tAt2, iT_im, bT_im, rT_sl, okT_i, okT_b, okT_s, slT_sl, le_0, Bool.and_true, Bool.true_and, cond_true, cond_false, lt_len hi, setRow_s ho, setCell_s ho, cell_s ho, okc_s ho, isSl_sl, List.set_cons_zero, splice0, spliceS, List.getD_cons_zero, mkR, mkT, ← sMk_eq, ← sMkN_eq, sEq30, Bool.not_false, add1i (Nat.lt_of_lt_of_le hi (Nat.le_trans hn (by decide)))]
  · simp only [tAt0, tAt1, tAt2, iT_im, bT_im, rT_sl, okT_i, okT_b, okT_s, slT_sl, le_0, Bool.and_true, Bool.true_and, cond_true, cond_false, lt_len']
theorem b_mkAggS {rs : List (List T)} {k : Int} (h : pMk kAggT rs k = true) : body lp0 ET94 49 [.c (.sl .own 6 rs), aI k] [] = some (.ret ⟨[aI (sMkN rs k)], [.sl .own 6 (sMk rs k)], []⟩) := by
  rw [nf_49]
  rw [pMk_eq] at h
  simp only [Bool.and_eq_true, decide_eq_true_eq] at h
  obtain ⟨⟨⟨hs, ha⟩, hl⟩, hn⟩ := h
  refine mk_loop (row := kAggT) (fun i m out hi ho => ?_) (fun out m => ?_)
  · obtain ⟨a0, a1, a2, a3, a4, a5, hr, ga0⟩ := row_Agg (shRs_get hs hi)
    rw [hr]
    simp only [tAt0, tAt1, tAt2, iT_im, bT_im, rT_sl, okT_i, okT_b, okT_s, slT_sl, le_0, Bool.and_true, Bool.true_and, cond_true, cond_false, lt_len hi, setRow_s ho, setCell_s ho, cell_s ho, okc_s ho, isSl_sl, List.set_cons_zero, splice0, spliceS, List.getD_cons_zero, mkR, mkT, ← sMk_eq, ← sMkN_eq, sEq30, Bool.not_false, add1i (Nat.lt_of_lt_of_le hi (Nat.le_trans hn (by decide)))]
  · simp only [tAt0, tAt1, tAt2, iT_im, bT_im, rT_sl, okT_i, okT_b, okT_s, slT_sl, le_0, Bool.and_true, Bool.true_and, cond_true, cond_false, lt_len']
theorem b_mkMsgS {rs : List (List T)} {k : Int} (h : pMk kMsg rs k = true) : body lp0 ET95 46 [.c (.sl .own 5 rs), aI k] [] = some (.ret ⟨[aI (sMkN rs k)], [.sl .own 5 (sMk rs k)], []⟩) := by
  rw [nf_46]
  rw [pMk_eq] at h
  simp only [Bool.and_eq_true, decide_eq_true_eq] at h
  obtain ⟨⟨⟨hs, ha⟩, hl⟩, hn⟩ := h
  refine mk_loop (row := kMsg) (fun i m out hi ho => ?_) (fun out m => ?_)
  · obtain ⟨a0, a1, a2, a3, a4, hr, ga0⟩ := row_Msg (shRs_get hs hi)
    rw [hr]
    simp only [tAt0, tAt1, tAt2, iT_im, bT_im, rT_sl, okT_i, okT_b, okT_s, slT_sl, le_0, Bool.and_true, Bool.true_and, cond_true, cond_false, lt_len hi, setRow_s ho, setCell_s ho, cell_s ho, okc_s ho, isSl_sl, List.set_cons_zero, splice0, spliceS, List.getD_cons_zero, mkR, mkT, ← sMk_eq, ← sMkN_eq, sEq30, Bool.not_false, add1i (Nat.lt_of_lt_of_le hi (Nat.le_trans hn (by decide)))]
  · simp only [tAt0, tAt1, tAt2, iT_im, bT_im, rT_sl, okT_i, okT_b, okT_s, slT_sl, le_0, Bool.and_true, Bool.true_and, cond_true, cond_false, lt_len']
theorem b_mkMsgSS {rs : List (List T)} {k : Int} (h : pMk [.sl kMsg] rs k = true) : body lp0 ET96 47 [.c (.sl .own 1 rs), aI k] [] = some (.ret ⟨[aI (sMkN rs k)], [.sl .own 1 (sMk rs k)], []⟩) := by
  rw [nf_47]
  rw [pMk_eq] at h
  simp only [Bool.and_eq_true, decide_eq_true_eq] at h
  obtain ⟨⟨⟨hs, ha⟩, hl⟩, hn⟩ := h
  refine mk_loop (row := [.sl kMsg]) (fun i m out hi ho => ?_) (fun out m => ?_)
  · obtain ⟨fa0, a0, hr, ga0⟩ := row_MsgS (shRs_get hs hi)
    have ha2 := aoRs_get ha hi
    have hl2 := lenRs_get hl hi
    rw [hr] at ha2 hl2
    simp only [lenR, lenT, Bool.and_eq_true, decide_eq_true_eq] at hl2
    obtain rfl : fa0 = .own := by cases fa0 <;> simp [aoR, aoT] at ha2 <;> rfl
    simp only [aoR, aoT, Bool.and_eq_true, Bool.and_true, and_true] at ha2
    have hp : ∀ m, pMk kMsg a0 m = true := fun m => by rw [pMk_eq]; simp [ga0, ha2, hl2]
    have hq : ∀ m, sNoRo (.sl .own 5 (sMk a0 m)) = true := fun m => noRo_mk (by simp [ha2])
    rw [hr]
    simp only [tAt0, tAt1, tAt2, iT_im, bT_im, rT_sl, okT_i, okT_b, okT_s, slT_sl, le_0, Bool.and_true, Bool.true_and, cond_true, cond_false, lt_len hi, setRow_s ho, setCell_s ho, cell_s ho, okc_s ho, isSl_sl, List.set_cons_zero, splice0, spliceS, List.getD_cons_zero, mkR, mkT, ← sMk_eq, ← sMkN_eq, sEq30, Bool.not_false, hp, hq, add1i (Nat.lt_of_lt_of_le hi (Nat.le_trans hn (by decide)))]
  · simp only [tAt0, tAt1, tAt2, iT_im, bT_im, rT_sl, okT_i, okT_b, okT_s, slT_sl, le_0, Bool.and_true, Bool.true_and, cond_true, cond_false, lt_len']
theorem b_mkConnS {rs : List (List T)} {k : Int} (h : pMk kConn rs k = true) : body lp0 ET97 45 [.c (.sl .own 7 rs), aI k] [] = some (.ret ⟨[aI (sMkN rs k)], [.sl .own 7 (sMk rs k)], []⟩) := by
  rw [nf_45]
  rw [pMk_eq] at h
  simp only [Bool.and_eq_true, decide_eq_true_eq] at h
  obtain ⟨⟨⟨hs, ha⟩, hl⟩, hn⟩ := h
  refine mk_loop (row := kConn) (fun i m out hi ho => ?_) (fun out m => ?_)
  · obtain ⟨fa0, a0, a1, a2, a3, a4, a5, a6, hr, ga0⟩ := row_Conn (shRs_get hs hi)
    have ha2 := aoRs_get ha hi
    have hl2 := lenRs_get hl hi
    rw [hr] at ha2 hl2
    simp only [lenR, lenT, Bool.and_eq_true, decide_eq_true_eq] at hl2
    obtain rfl : fa0 = .own := by cases fa0 <;> simp [aoR, aoT] at ha2 <;> rfl
    simp only [aoR, aoT, Bool.and_eq_true, Bool.and_true, and_true] at ha2
    have hp : ∀ m, pMk [kB] a0 m = true := fun m => by rw [pMk_eq]; simp [ga0, ha2, hl2]
    have hq : ∀ m, sNoRo (.sl .own 1 (sMk a0 m)) = true := fun m => noRo_mk (by simp [ha2])
    rw [hr]
    simp only [tAt0, tAt1, tAt2, iT_im, bT_im, rT_sl, okT_i, okT_b, okT_s, slT_sl, le_0, Bool.and_true, Bool.true_and, cond_true, cond_false, lt_len hi, setRow_s ho, setCell_s ho, cell_s ho, okc_s ho, isSl_sl, List.set_cons_zero, splice0, spliceS, List.getD_cons_zero, mkR, mkT, ← sMk_eq, ← sMkN_eq, sEq30, Bool.not_false, hp, hq, add1i (Nat.lt_of_lt_of_le hi (Nat.le_trans hn (by decide)))]
  · simp only [tAt0, tAt1, tAt2, iT_im, bT_im, rT_sl, okT_i, okT_b, okT_s, slT_sl, le_0, Bool.and_true, Bool.true_and, cond_true, cond_false, lt_len']
theorem b_mkShardS {rs : List (List T)} {k : Int} (h : pMk kShard rs k = true) : body lp0 ET98 48 [.c (.sl .own 4 rs), aI k] [] = some (.ret ⟨[aI (sMkN rs k)], [.sl .own 4 (sMk rs k)], []⟩) := by
  rw [nf_48]
  rw [pMk_eq] at h
  simp only [Bool.and_eq_true, decide_eq_true_eq] at h
  obtain ⟨⟨⟨hs, ha⟩, hl⟩, hn⟩ := h
  refine mk_loop (row := kShard) (fun i m out hi ho => ?_) (fun out m => ?_)
  · obtain ⟨fa0, a0, a1, a2, a3, hr, ga0⟩ := row_Shard (shRs_get hs hi)
    have ha2 := aoRs_get ha hi
    have hl2 := lenRs_get hl hi
    rw [hr] at ha2 hl2
    simp only [lenR, lenT, Bool.and_eq_true, decide_eq_true_eq] at hl2
    obtain rfl : fa0 = .own := by cases fa0 <;> simp [aoR, aoT] at ha2 <;> rfl
    simp only [aoR, aoT, Bool.and_eq_true, Bool.and_true, and_true] at ha2
    have hp : ∀ m, pMk kAggT a0 m = true := fun m => by rw [pMk_eq]; simp [ga0, ha2, hl2]
    have hq : ∀ m, sNoRo (.sl .own 6 (sMk a0 m)) = true := fun m => noRo_mk (by simp [ha2])
    rw [hr]
    simp only [tAt0, tAt1, tAt2, iT_im, bT_im, rT_sl, okT_i, okT_b, okT_s, slT_sl, le_0, Bool.and_true, Bool.true_and, cond_true, cond_false, lt_len hi, setRow_s ho, setCell_s ho, cell_s ho, okc_s ho, isSl_sl, List.set_cons_zero, splice0, spliceS, List.getD_cons_zero, mkR, mkT, ← sMk_eq, ← sMkN_eq, sEq30, Bool.not_false, hp, hq, add1i (Nat.lt_of_lt_of_le hi (Nat.le_trans hn (by decide)))]
  · simp only [tAt0, tAt1, tAt2, iT_im, bT_im, rT_sl, okT_i, okT_b, okT_s, slT_sl, le_0, Bool.and_true, Bool.true_and, cond_true, cond_false, lt_len']
theorem b_heByteS {rs : List (List T)} {k : Int} (h : pHe [kB] rs k = true) : body lp0 ET100 52 [.c (.sl .ro 1 rs), aI k] [] = some (.ret (oI (sMkN rs k))) := by
  rw [nf_52]
  have h' := h
  rw [pHe_eq] at h'
  simp only [Bool.and_eq_true, decide_eq_true_eq] at h'
  obtain ⟨⟨⟨⟨⟨hs, hl⟩, hn⟩, _⟩, _⟩, _⟩ := h'
  refine he_loop h (fun i m hi h0 h1 hm => ?_) (fun m => ?_)
  · obtain ⟨a0, hr, ga0⟩ := row_Byte (shRs_get hs hi)
    have hl2 := lenRs_get hl hi
    rw [hr] at hl2 hm h1 ⊢
    simp only [lenR, lenT, Bool.and_eq_true, decide_eq_true_eq] at hl2
    simp only [cnR, cnT] at h1
    simp only [mkR, mkT, List.cons.injEq, T.im.injEq, T.sl.injEq, Value.int.injEq, Value.bool.injEq, true_and, and_true] at hm
    have hc0 : sCell rs (i : Int).toNat 0 = (.im (.int .u8 a0)) := by rw [cell_at' hi, hr]; rfl
    have hk0 : sOkC [.int .u8] rs (i : Int).toNat 0 = true := by rw [sOkC_eq]; simp only [okCells, ← sCell_eq, hc0]; rfl
    simp only [tAt0, tAt1, tAt2, iT_im, bT_im, rT_sl, okT_i, okT_b, okT_s, slT_sl, le_0, Bool.and_true, Bool.true_and, cond_true, cond_false, lt_len hi, hc0, hk0, mkR, mkT, ← sMkN_eq, sEq30, Bool.not_false, add1i (Nat.lt_of_lt_of_le hi (Nat.le_trans hn (by decide)))]
    try simp only [← sMkN_eq] at hm
    simp [← hm, sEq_rfl, sBeq_rfl]
  · simp only [tAt0, tAt1, tAt2, iT_im, bT_im, rT_sl, okT_i, okT_b, okT_s, slT_sl, le_0, Bool.and_true, Bool.true_and, cond_true, cond_false, lt_len']
theorem b_mkEngine {ts : List T} {k : Int} (hs : shR kEngine ts = true) (ha : aoR ts = true) (h : allE kEngine ts k = true) : body lp0 ET99 12 [.ag ts, aI k] [] = some (.ret ⟨[aI (numE ts k)], outsE ts k, []⟩) := by
  obtain ⟨a0, a1, a2, a3, a4, a5, a6, a7, a8, a9, a10, fa11, a11, fa12, a12, fa13, a13, fa14, a14, fa15, a15, a16, fa17, a17, a18, a19, a20, a21, a22, a23, rfl, hg⟩ := row_Engine hs
  have ai : ∀ v, aoT (.im v) = true := fun v => by simp [aoT]
  simp only [aoR, ai, Bool.and_eq_true, true_and, and_true, Bool.true_and, Bool.and_true] at ha
  have fl : ∀ {f : Fl} {sz : Nat} {rs : List (List T)}, aoT (.sl f sz rs) = true → f = .own ∧ aoRs rs = true := fun {f sz rs} h => by cases f <;> simp [aoT] at h <;> exact ⟨rfl, h⟩
  obtain ⟨rfl, ho11⟩ := fl ha.1
  obtain ⟨rfl, ho12⟩ := fl ha.2.1
  obtain ⟨rfl, ho13⟩ := fl ha.2.2.1
  obtain ⟨rfl, ho14⟩ := fl ha.2.2.2.1
  obtain ⟨rfl, ho15⟩ := fl ha.2.2.2.2.1
  obtain ⟨rfl, ho17⟩ := fl ha.2.2.2.2.2
  rw [nf_12]
  simp only [allE, List.drop_succ_cons, List.drop_zero, Bool.and_eq_true, and_true] at h
  have nr : ∀ {sz : Nat} {rs : List (List T)} {k : Int}, aoRs rs = true → sNoRo ([T.sl .own sz (sMk rs k)].getD 0 T.no) = true := fun h => by rw [List.getD_cons_zero]; exact noRo_mk h
  simp only [h, nr ho11, nr ho12, nr ho13, nr ho14, nr ho15, nr ho17, Bool.and_true, cond_true, numE, outsE]
theorem he_ge {row : List KT} {rs : List (List T)} {k : Int} (h : pHe row rs k = true) : sLt (sMkN rs k) 0 = false := by
  rw [pHe_eq] at h
  simp only [Bool.and_eq_true, decide_eq_true_eq] at h
  rw [sLt_eq, sMkN_eq, mkRs_cn h.1.2 h.2, decide_eq_false (by omega)]
theorem good93 : Good Go.Proofs.Tryz.prog md0 (fun _ => .own) TL93 := good_mkS (fun h => b_mkByteS h) good92
theorem good94 : Good Go.Proofs.Tryz.prog md0 (fun _ => .own) TL94 := good_mkS (fun h => b_mkIntS h) good93
theorem good95 : Good Go.Proofs.Tryz.prog md0 (fun _ => .own) TL95 := good_mkS (fun h => b_mkAggS h) good94
theorem good96 : Good Go.Proofs.Tryz.prog md0 (fun _ => .own) TL96 := good_mkS (fun h => b_mkMsgS h) good95
theorem good97 : Good Go.Proofs.Tryz.prog md0 (fun _ => .own) TL97 := good_mkS (fun h => b_mkMsgSS h) good96
theorem good98 : Good Go.Proofs.Tryz.prog md0 (fun _ => .own) TL98 := good_mkS (fun h => b_mkConnS h) good97
theorem good99 : Good Go.Proofs.Tryz.prog md0 (fun _ => .own) TL99 := good_mkS (fun h => b_mkShardS h) good98
theorem good100 : Good Go.Proofs.Tryz.prog md0 (fun _ => .own) TL100 := good_mkE (fun h h1 h2 => b_mkEngine h h1 h2) good99
theorem good101 : Good Go.Proofs.Tryz.prog md0 (fun _ => .own) TL101 := good_heS (fun h => b_heByteS h) good100

end Go.Vm
