/- RoundOps: the bodies -/
import Derived.Test.YtopemdjgbaonmaaGreatRON
import Derived.Test.YtopemdjgbaonmaaGreatMkB
import Derived.Test.YtopemdjgbaonmaaGreatOkB
import Derived.Test.YtopemdjgbaonmaaGreatDa6
namespace Go.Vm
set_option linter.unusedVariables false
set_option linter.unusedSimpArgs false
theorem row_Op {r : List T} (h : shR kOp r = true) : ∃ (a0 : Int) (a1 : Int) (a2 : Int) (fa3 : Fl) (a3 : List (List T)), r = [tI a0, tI a1, tI a2, .sl fa3 1 a3] ∧ shRs [kB] a3 = true := by
  obtain ⟨t0, r, rfl, h0, h⟩ := shR_cons h
  obtain ⟨t1, r, rfl, h1, h⟩ := shR_cons h
  obtain ⟨t2, r, rfl, h2, h⟩ := shR_cons h
  obtain ⟨t3, r, rfl, h3, h⟩ := shR_cons h
  obtain rfl := shR_nil h
  obtain ⟨a0, rfl⟩ := shT_int h0
  obtain ⟨a1, rfl⟩ := shT_int h1
  obtain ⟨a2, rfl⟩ := shT_int h2
  obtain ⟨fa3, a3, rfl, ga3⟩ := shT_sl h3
  exact ⟨a0, a1, a2, fa3, a3, rfl, ga3⟩
theorem rowr_Op {r : List T} (h : shR kOp r = true) (hr : r.all roT = true) : ∃ (a0 : Int) (a1 : Int) (a2 : Int) (a3 : List (List T)), r = [tI a0, tI a1, tI a2, .sl .ro 1 a3] ∧ shRs [kB] a3 = true := by
  obtain ⟨a0, a1, a2, fa3, a3, rfl, ga3⟩ := row_Op h
  simp only [List.all_cons, List.all_nil, Bool.and_eq_true] at hr
  obtain rfl : fa3 = .ro := by
    have hh : roT (.sl fa3 1 a3) = true := by simp_all
    cases fa3 <;> first | rfl | cases hh
  exact ⟨a0, a1, a2, a3, rfl, ga3⟩
theorem b_eqOp {xs ys : List T} (hr : xs.all roT = true) (hr' : ys.all roT = true) (h : pEqR kOp xs = true) (h' : pEqR kOp ys = true) : body lp0 ET101 36 [.ag xs, .ag ys] [] = some (.ret (oB (sEqR xs ys))) := by
  rw [pEqR_eq, Bool.and_eq_true] at h h'
  obtain ⟨hs, hl⟩ := h
  obtain ⟨hs', hl'⟩ := h'
  obtain ⟨a0, a1, a2, a3, rfl, ga3⟩ := rowr_Op hs hr
  obtain ⟨b0, b1, b2, b3, rfl, gb3⟩ := rowr_Op hs' hr'
  simp only [lenR, lenT, Bool.and_eq_true, decide_eq_true_eq] at hl hl'
  rw [nf_36]
  simp only [pEq_eq, pEqR_eq, shR, shT, lenR, lenT, hl, hl', ga3, gb3, decide_true, Bool.and_true, Bool.true_and, cond_true, List.length_cons, List.length_nil, Nat.reduceAdd, Nat.zero_add, eqChain]
  simp only [show some (LRes.ret (oB true)) = some (.ret (oB (true && true))) from rfl, eqChain, sEqR_ti, sEqR_tb, sEqR_ts, sEqR_nil, Bool.and_true, Bool.and_assoc]

theorem b_eqOpS {rs ss : List (List T)} (h : pEq kOp rs = true) (h' : pEq kOp ss = true) : body lp0 ET102 10 [.c (.sl .ro 4 rs), .c (.sl .ro 4 ss)] [] = some (.ret (oB (sEqS rs ss))) := by
  rw [nf_10]
  rw [pEq_eq] at h h'
  simp only [Bool.and_eq_true, decide_eq_true_eq] at h h'
  obtain ⟨⟨hs, hl⟩, hn⟩ := h
  obtain ⟨⟨hs', hl'⟩, hn'⟩ := h'
  refine eq_loop (fun i hi hi' => ?_) ?_
  · obtain ⟨a0, a1, a2, fa3, a3, hr, ga3⟩ := row_Op (shRs_get hs hi)
    obtain ⟨b0, b1, b2, fb3, b3, hr', gb3⟩ := row_Op (shRs_get hs' hi')
    have hl2 := lenRs_get hl hi
    rw [hr] at hl2
    have hl2' := lenRs_get hl' hi'
    rw [hr'] at hl2'
    simp only [lenR, lenT, Bool.and_eq_true, decide_eq_true_eq] at hl2 hl2'
    have hk : sOkC [.int .i64, .int .i64, .int .i64, .sl 1] rs (i : Int).toNat 0 = true := okc_sh' hs hi
    have hk' : sOkC [.int .i64, .int .i64, .int .i64, .sl 1] ss (i : Int).toNat 0 = true := okc_sh' hs' hi'
    have hca0 : sCell rs (i : Int).toNat 0 = tI a0 := by rw [cell_at' hi, hr]; rfl
    have hca1 : sCell rs (i : Int).toNat 1 = tI a1 := by rw [cell_at' hi, hr]; rfl
    have hca2 : sCell rs (i : Int).toNat 2 = tI a2 := by rw [cell_at' hi, hr]; rfl
    have hca3 : sCell rs (i : Int).toNat 3 = .sl fa3 1 a3 := by rw [cell_at' hi, hr]; rfl
    have hcb0 : sCell ss (i : Int).toNat 0 = tI b0 := by rw [cell_at' hi', hr']; rfl
    have hcb1 : sCell ss (i : Int).toNat 1 = tI b1 := by rw [cell_at' hi', hr']; rfl
    have hcb2 : sCell ss (i : Int).toNat 2 = tI b2 := by rw [cell_at' hi', hr']; rfl
    have hcb3 : sCell ss (i : Int).toNat 3 = .sl fb3 1 b3 := by rw [cell_at' hi', hr']; rfl
    have hp : pEqR kOp [tI a0, tI a1, tI a2, .sl .ro 1 a3] = true := by rw [pEqR_eq]; simp [shR, shT, lenR, lenT, hl2, ga3]
    have hp' : pEqR kOp [tI b0, tI b1, tI b2, .sl .ro 1 b3] = true := by rw [pEqR_eq]; simp [shR, shT, lenR, lenT, hl2', gb3]
    have he : sEqR rs[i] ss[i] = sEqR [tI a0, tI a1, tI a2, .sl .ro 1 a3] [tI b0, tI b1, tI b2, .sl .ro 1 b3] := by rw [hr, hr']; exact sEqR_ro (by simp [ownR, ownT]) (by simp [ownR, ownT])
    rw [he]
    simp only [tAt0, tAt1, tAt2, iT_im, bT_im, rT_sl, okT_i, okT_b, okT_s, slT_sl, le_0, Bool.and_true, Bool.true_and, cond_true, cond_false, lt_len hi, lt_len hi', hk, hk', hca0, hca1, hca2, hca3, hcb0, hcb1, hcb2, hcb3, hp, hp', add1i (Nat.lt_of_lt_of_le hi hn)] <;> (cases sEqR [tI a0, tI a1, tI a2, .sl .ro 1 a3] [tI b0, tI b1, tI b2, .sl .ro 1 b3] <;> rfl)
  · simp only [tAt0, tAt1, tAt2, iT_im, bT_im, rT_sl, okT_i, okT_b, okT_s, slT_sl, le_0, Bool.and_true, Bool.true_and, cond_true, cond_false, lt_len']
theorem sRound_eq (a b : List (List T)) : sRound a b = mRound a.length b.length := by rw [sRound, sld_eq]
theorem sRoundB_eq (c : Bool) (a b : List (List T)) : sRoundB c a b = bif c then mRound a.length b.length else [] := by rw [sRoundB, sld_eq]
section
variable {P : Program} {md : FuncId → Option (List Mode)} {fl : FuncId → Fl} {l : List (Nat × GFn)} {f : Nat}
theorem good_Rd (hb : ∀ {ts : List T}, ts.all roT = true → pToR kEngine ts = true → body lp0 (EE P md fl l) f [.pt 20000 0 0 0] [.box true ts] = some (.ret ⟨[.c (.sl .own 4 (sRound (ts.getD 11 .no).rws (ts.getD 14 .no).rws))], [], [.box true []]⟩)) (hl : Good P md fl l) : Good P md fl ((f, gRd) :: l) := .cons (fun xs ps h => by
  unfold gRd at h ⊢
  split at h
  · simp only [Bool.and_eq_true] at h
    obtain ⟨⟨⟨h1, h2⟩, h3⟩, h4⟩ := h
    obtain rfl := beq_eq h1
    obtain rfl := beq_eq h2
    exact hb h3 h4
  · cases h) hl
theorem good_Ro (hb : ∀ {ts : List T}, ts.all roT = true → pToR kEngine ts = true → body lp0 (EE P md fl l) f [.ag ts] [] = some (.ret ⟨[.c (.sl .own 4 (sRoundB (mSafe ts) (ts.getD 11 .no).rws (ts.getD 14 .no).rws))], [], []⟩)) (hl : Good P md fl l) : Good P md fl ((f, gRo) :: l) := .cons (fun xs ps h => by
  unfold gRo at h ⊢
  split at h
  · rw [Bool.and_eq_true] at h; exact hb h.1 h.2
  · cases h) hl
end

theorem b_mkOpS {rs : List (List T)} {k : Int} (h : pMk kOp rs k = true) : body lp0 ET103 13 [.c (.sl .own 4 rs), aI k] [] = some (.ret ⟨[aI (sMkN rs k)], [.sl .own 4 (sMk rs k)], []⟩) := by
  rw [nf_13]
  rw [pMk_eq] at h
  simp only [Bool.and_eq_true, decide_eq_true_eq] at h
  obtain ⟨⟨⟨hs, ha⟩, hl⟩, hn⟩ := h
  refine mk_loop (row := kOp) (fun i m out hi ho => ?_) (fun out m => ?_)
  · obtain ⟨a0, a1, a2, fa3, a3, hr, ga3⟩ := row_Op (shRs_get hs hi)
    have ha2 := aoRs_get ha hi
    have hl2 := lenRs_get hl hi
    rw [hr] at ha2 hl2
    simp only [lenR, lenT, Bool.and_eq_true, decide_eq_true_eq] at hl2
    obtain rfl : fa3 = .own := by cases fa3 <;> simp [aoR, aoT] at ha2 <;> rfl
    simp only [aoR, aoT, Bool.and_eq_true, Bool.and_true, Bool.true_and, and_true] at ha2
    have hp : ∀ m, pMk [kB] a3 m = true := fun m => by rw [pMk_eq]; simp [ga3, ha2, hl2]
    have hq : ∀ m, sNoRo (.sl .own 1 (sMk a3 m)) = true := fun m => noRo_mk (by simp [ha2])
    rw [hr]
    have hko : ∀ x y z : Int, sOkC [.sl 1] (out.set i [tI x, tI y, tI z, .sl .own 1 a3]) (i : Int).toNat 3 = true := fun x y z => by
      rw [sOkC_eq]; simp only [okCells, ← sCell_eq, cell_s ho]; rfl
    simp only [tAt0, tAt1, tAt2, iT_im, bT_im, rT_sl, okT_i, okT_b, okT_s, slT_sl, le_0, Bool.and_true, Bool.true_and, cond_true, cond_false, hko, lt_len hi, setRow_s ho, setCell_s ho, cell_s ho, okc_s ho, isSl_sl, List.set_cons_zero, List.set_cons_succ, splice0, spliceS, List.getD_cons_zero, List.getD_cons_succ, mkR, mkT, ← sMk_eq, ← sMkN_eq, sEq30, Bool.not_false, hp, hq, add1i (Nat.lt_of_lt_of_le hi (Nat.le_trans hn (by decide)))]
  · simp only [tAt0, tAt1, tAt2, iT_im, bT_im, rT_sl, okT_i, okT_b, okT_s, slT_sl, le_0, Bool.and_true, Bool.true_and, cond_true, cond_false, lt_len']
theorem b_heOpS {rs : List (List T)} {k : Int} (h : pHe kOp rs k = true) : body lp0 ET104 14 [.c (.sl .ro 4 rs), aI k] [] = some (.ret (oI (sMkN rs k))) := by
  rw [nf_14]
  have h' := h
  rw [pHe_eq] at h'
  simp only [Bool.and_eq_true, decide_eq_true_eq] at h'
  obtain ⟨⟨⟨⟨⟨hs, hl⟩, hn⟩, _⟩, _⟩, _⟩ := h'
  refine he_loop h (fun i m hi h0 h1 hm => ?_) (fun m => ?_)
  · obtain ⟨a0, a1, a2, fa3, a3, hr, ga3⟩ := row_Op (shRs_get hs hi)
    have hl2 := lenRs_get hl hi
    rw [hr] at hl2 hm h1 ⊢
    simp only [lenR, lenT, Bool.and_eq_true, decide_eq_true_eq] at hl2
    simp only [cnR, cnT] at h1
    simp only [mkR, mkT, List.cons.injEq, T.im.injEq, T.sl.injEq, Value.int.injEq, Value.bool.injEq, true_and, and_true] at hm
    obtain ⟨m0, m1, m2, hm⟩ := hm
    have e1 : sAdd .i64 m 1 = m + 1 := by rw [sAdd_eq, wrap64 (by omega) (by omega)]
    have e2 : sAdd .i64 (m + 1) 1 = m + 2 := by rw [sAdd_eq, wrap64 (by omega) (by omega)]; omega
    have e3 : sAdd .i64 (m + 2) 1 = m + 3 := by rw [sAdd_eq, wrap64 (by omega) (by omega)]; omega
    have hc0 : sCell rs (i : Int).toNat 0 = tI a0 := by rw [cell_at' hi, hr]; rfl
    have hc1 : sCell rs (i : Int).toNat 1 = tI a1 := by rw [cell_at' hi, hr]; rfl
    have hc2 : sCell rs (i : Int).toNat 2 = tI a2 := by rw [cell_at' hi, hr]; rfl
    have hc3 : sCell rs (i : Int).toNat 3 = .sl fa3 1 a3 := by rw [cell_at' hi, hr]; rfl
    have hk0 : sOkC [.int .i64] rs (i : Int).toNat 0 = true := by rw [sOkC_eq]; simp only [okCells, ← sCell_eq, hc0]; rfl
    have hk1 : sOkC [.int .i64] rs (i : Int).toNat 1 = true := by rw [sOkC_eq]; simp only [okCells, ← sCell_eq, hc1]; rfl
    have hk2 : sOkC [.int .i64] rs (i : Int).toNat 2 = true := by rw [sOkC_eq]; simp only [okCells, ← sCell_eq, hc2]; rfl
    have hk3 : sOkC [.sl 1] rs (i : Int).toNat 3 = true := by rw [sOkC_eq]; simp only [okCells, ← sCell_eq, hc3]; rfl
    rw [e1] at m1 m2 hm
    rw [e2] at m2 hm
    rw [e3] at hm
    subst m0; subst m1; subst m2
    simp only [tAt0, tAt1, tAt2, iT_im, bT_im, rT_sl, okT_i, okT_b, okT_s, slT_sl, le_0, Bool.and_true, Bool.true_and, cond_true, cond_false, lt_len hi, hc0, hc1, hc2, hc3, hk0, hk1, hk2, hk3, mkR, mkT, ← sMkN_eq, sEq30, sEq_rfl, e1, e2, e3, Bool.not_false, Bool.not_true, add1i (Nat.lt_of_lt_of_le hi (Nat.le_trans hn (by decide)))]
    rw [he_step (row := [kB]) ga3 (by simp [hl2]) (by omega) (by omega) hm]
  · simp only [tAt0, tAt1, tAt2, iT_im, bT_im, rT_sl, okT_i, okT_b, okT_s, slT_sl, le_0, Bool.and_true, Bool.true_and, cond_true, cond_false, lt_len']
def R1 (i : Nat) : List (List T) := [rOp 0 1] ++ (List.range i).map (fun i : Nat => rOp 4 (i : Int))
def R2 (n i : Nat) : List (List T) := R1 n ++ [rOp 5 0] ++ (List.range i).map (fun i : Nat => rOp 6 (i : Int))
theorem R1_len (i : Nat) : (R1 i).length = i + 1 := by simp [R1]
theorem R2_len (n i : Nat) : (R2 n i).length = n + 2 + i := by simp [R2, R1_len]; omega
theorem R1_succ (i : Nat) : sApp (R1 i) [[tI 4, tI (i : Int), tI 0, .sl .own 1 []]] = R1 (i + 1) := by rw [sApp_eq]; simp [R1, List.range_succ, rOp]
theorem R2_succ (n i : Nat) : sApp (R2 n i) [[tI 6, tI (i : Int), tI 0, .sl .own 1 []]] = R2 n (i + 1) := by rw [sApp_eq]; simp [R2, List.range_succ, rOp]
theorem R1_5 (n : Nat) : sApp (R1 n) [[tI 5, tI 0, tI 0, .sl .own 1 []]] = R2 n 0 := by rw [sApp_eq]; simp [R2, rOp]
theorem R2_7 (n m : Nat) : sApp (R2 n m) [[tI 7, tI 1, tI 0, .sl .own 1 []]] = mRound n m := by rw [sApp_eq]; rfl
theorem fitR {a b : List (List T)} (h : a.length + b.length ≤ 4000000000) : sFit (sLen a + sLen b) = true := by rw [sFit_eq, sLen_eq, sLen_eq, Nat.blt_eq]; omega
theorem ro_len {ts : List T} (h : pToR kEngine ts = true) (hr : ts.all roT = true) : (ts.getD 11 .no).rws.length ≤ 1048576 ∧ (ts.getD 14 .no).rws.length ≤ 1048576 := by
  rw [pToR_eq, Bool.and_eq_true] at h
  obtain ⟨a0, a1, a2, a3, a4, a5, a6, a7, a8, a9, a10, a11, a12, a13, a14, a15, a16, a17, a18, a19, a20, a21, a22, a23, rfl, ga11, ga12, ga13, ga14, ga15, ga17⟩ := rowr_Engine h.1 hr
  have hl := h.2
  simp only [lenR, lenT, Bool.and_eq_true, decide_eq_true_eq] at hl
  have n11 : a11.length ≤ 1048576 := by simp [hl]
  have n14 : a14.length ≤ 1048576 := by simp [hl]
  exact ⟨n11, n14⟩
theorem b_round {ts : List T} (hr : ts.all roT = true) (h : pToR kEngine ts = true) : body lp0 ET105 35 [.pt 20000 0 0 0] [.box true ts] = some (.ret ⟨[.c (.sl .own 4 (sRound (ts.getD 11 .no).rws (ts.getD 14 .no).rws))], [], [.box true []]⟩) := by
  have hn := ro_len h hr
  have h' := h
  rw [pToR_eq, Bool.and_eq_true] at h
  obtain ⟨a0, a1, a2, a3, a4, a5, a6, a7, a8, a9, a10, a11, a12, a13, a14, a15, a16, a17, a18, a19, a20, a21, a22, a23, rfl, ga11, ga12, ga13, ga14, ga15, ga17⟩ := rowr_Engine h.1 hr
  have hn : a11.length ≤ 1048576 ∧ a14.length ≤ 1048576 := hn
  refine (nf_35 lp0 a0 a1 a2 a3 a4 a5 a6 a7 a8 a9 a10 a11 a12 a13 a14 a15 a16 a17 a18 a19 a20 a21 a22 a23).trans ?_
  rw [lp0_for0 (fun i => [.sl .own 4 (R1 i), tI (Int.ofNat (sLen (R1 i))), tI (i : Int)]) a11.length (x := [.sl .own 4 (R1 a11.length), tI (Int.ofNat (sLen (R1 a11.length))), tI (a11.length : Int)]) (by rw [sLen_eq]; rfl) (fun i hi => ?_) ?_]
  · have f1 : sFit (sLen (R1 a11.length) + sLen [[tI 5, tI 0, tI 0, .sl .own 1 []]]) = true := fitR (by rw [R1_len]; simp; omega)
    simp only [LRes.elim', Option.elim_some, tAt0, tAt1, tAt2, iT_im, bT_im, rT_sl, okT_i, okT_b, okT_s, slT_sl, le_0, Bool.and_true, Bool.true_and, cond_true, cond_false, f1, R1_5]
    rw [lp0_for0 (fun i => [.sl .own 4 (R2 a11.length i), tI (Int.ofNat (sLen (R2 a11.length i))), tI (i : Int)]) a14.length (x := [.sl .own 4 (R2 a11.length a14.length), tI (Int.ofNat (sLen (R2 a11.length a14.length))), tI (a14.length : Int)]) (by rfl) (fun i hi => ?_) ?_]
    · have f2 : sFit (sLen (R2 a11.length a14.length) + sLen [[tI 7, tI 1, tI 0, .sl .own 1 []]]) = true := fitR (by rw [R2_len]; simp; omega)
      simp only [LRes.elim', Option.elim_some, tAt0, tAt1, tAt2, iT_im, bT_im, rT_sl, okT_i, okT_b, okT_s, slT_sl, le_0, Bool.and_true, Bool.true_and, cond_true, cond_false, f2, R2_7, sRound_eq, List.getD_cons_succ, List.getD_cons_zero, T.rws]
    · simp only [tAt0, tAt1, tAt2, iT_im, bT_im, rT_sl, okT_i, okT_b, okT_s, slT_sl, le_0, Bool.and_true, Bool.true_and, cond_true, cond_false, lt_len']; rfl
    · have f3 : sFit (sLen (R2 a11.length i) + sLen [[tI 6, tI (i : Int), tI 0, .sl .own 1 []]]) = true := fitR (by rw [R2_len]; simp; omega)
      simp only [tAt0, tAt1, tAt2, iT_im, bT_im, rT_sl, okT_i, okT_b, okT_s, slT_sl, le_0, Bool.and_true, Bool.true_and, cond_true, cond_false, lt_len hi, f3, R2_succ, add1i (show i < reachBytes from Nat.lt_of_lt_of_le hi (Nat.le_trans hn.2 (by decide)))]
  · simp only [tAt0, tAt1, tAt2, iT_im, bT_im, rT_sl, okT_i, okT_b, okT_s, slT_sl, le_0, Bool.and_true, Bool.true_and, cond_true, cond_false, lt_len']; rfl
  · have f3 : sFit (sLen (R1 i) + sLen [[tI 4, tI (i : Int), tI 0, .sl .own 1 []]]) = true := fitR (by rw [R1_len]; simp; omega)
    simp only [tAt0, tAt1, tAt2, iT_im, bT_im, rT_sl, okT_i, okT_b, okT_s, slT_sl, le_0, Bool.and_true, Bool.true_and, cond_true, cond_false, lt_len hi, f3, R1_succ, add1i (show i < reachBytes from Nat.lt_of_lt_of_le hi (Nat.le_trans hn.1 (by decide)))]

theorem b_ro_spec {ts : List T} (hr : ts.all roT = true) (h : pToR kEngine ts = true) : body lp0 ET106 7 [.ag ts] [] = some (.ret ⟨[.c (.sl .own 4 (sRoundB (mSafe ts) (ts.getD 11 .no).rws (ts.getD 14 .no).rws))], [], []⟩) := by
  have hn := ro_len h hr
  have h' := h
  rw [pToR_eq, Bool.and_eq_true] at h
  have h2 : pEqR kEngine ts = true := by rw [pEqR_eq, h.1, lenR_mono (by decide) h.2]; rfl
  obtain ⟨a0, a1, a2, a3, a4, a5, a6, a7, a8, a9, a10, a11, a12, a13, a14, a15, a16, a17, a18, a19, a20, a21, a22, a23, rfl, ga11, ga12, ga13, ga14, ga15, ga17⟩ := rowr_Engine h.1 hr
  have hn : a11.length ≤ 1048576 ∧ a14.length ≤ 1048576 := hn
  rw [nf_7, h2, cond_true, sRoundB_eq]
  cases hm : mSafe [tI a0, tI a1, tI a2, tI a3, tI a4, tI a5, tI a6, tI a7, tI a8, tI a9, tI a10, .sl .ro 7 a11, .sl .ro 5 a12, .sl .ro 1 a13, .sl .ro 4 a14, .sl .ro 6 a15, tI a16, .sl .ro 1 a17, tI a18, tI a19, tI a20, tI a21, tI a22, tI a23] with
  | false => rfl
  | true =>
  rw [Bool.not_true, cond_false, cond_true]
  rw [lp0_for0 (fun i => [.sl .own 4 (R1 i), tI (Int.ofNat (sLen (R1 i))), tI (i : Int)]) a11.length (x := [.sl .own 4 (R1 a11.length), tI (Int.ofNat (sLen (R1 a11.length))), tI (a11.length : Int)]) (by rw [sLen_eq]; rfl) (fun i hi => ?_) ?_]
  · have f1 : sFit (sLen (R1 a11.length) + sLen [[tI 5, tI 0, tI 0, .sl .own 1 []]]) = true := fitR (by rw [R1_len]; simp; omega)
    simp only [LRes.elim', Option.elim_some, tAt0, tAt1, tAt2, iT_im, bT_im, rT_sl, okT_i, okT_b, okT_s, slT_sl, le_0, Bool.and_true, Bool.true_and, cond_true, cond_false, f1, R1_5]
    rw [lp0_for0 (fun i => [.sl .own 4 (R2 a11.length i), tI (Int.ofNat (sLen (R2 a11.length i))), tI (i : Int)]) a14.length (x := [.sl .own 4 (R2 a11.length a14.length), tI (Int.ofNat (sLen (R2 a11.length a14.length))), tI (a14.length : Int)]) (by rfl) (fun i hi => ?_) ?_]
    · have f2 : sFit (sLen (R2 a11.length a14.length) + sLen [[tI 7, tI 1, tI 0, .sl .own 1 []]]) = true := fitR (by rw [R2_len]; simp; omega)
      simp only [LRes.elim', Option.elim_some, tAt0, tAt1, tAt2, iT_im, bT_im, rT_sl, okT_i, okT_b, okT_s, slT_sl, le_0, Bool.and_true, Bool.true_and, cond_true, cond_false, f2, R2_7, List.getD_cons_succ, List.getD_cons_zero, T.rws]
    · simp only [tAt0, tAt1, tAt2, iT_im, bT_im, rT_sl, okT_i, okT_b, okT_s, slT_sl, le_0, Bool.and_true, Bool.true_and, cond_true, cond_false, lt_len']; rfl
    · have f3 : sFit (sLen (R2 a11.length i) + sLen [[tI 6, tI (i : Int), tI 0, .sl .own 1 []]]) = true := fitR (by rw [R2_len]; simp; omega)
      simp only [tAt0, tAt1, tAt2, iT_im, bT_im, rT_sl, okT_i, okT_b, okT_s, slT_sl, le_0, Bool.and_true, Bool.true_and, cond_true, cond_false, lt_len hi, f3, R2_succ, add1i (show i < reachBytes from Nat.lt_of_lt_of_le hi (Nat.le_trans hn.2 (by decide)))]
  · simp only [tAt0, tAt1, tAt2, iT_im, bT_im, rT_sl, okT_i, okT_b, okT_s, slT_sl, le_0, Bool.and_true, Bool.true_and, cond_true, cond_false, lt_len']; rfl
  · have f3 : sFit (sLen (R1 i) + sLen [[tI 4, tI (i : Int), tI 0, .sl .own 1 []]]) = true := fitR (by rw [R1_len]; simp; omega)
    simp only [tAt0, tAt1, tAt2, iT_im, bT_im, rT_sl, okT_i, okT_b, okT_s, slT_sl, le_0, Bool.and_true, Bool.true_and, cond_true, cond_false, lt_len hi, f3, R1_succ, add1i (show i < reachBytes from Nat.lt_of_lt_of_le hi (Nat.le_trans hn.1 (by decide)))]

theorem ops_form (n m : Nat) : ∀ r ∈ mRound n m, ∃ k a, r = rOp k a := by
  intro r hr
  simp only [mRound, List.mem_append, List.mem_map, List.mem_singleton] at hr
  rcases hr with (((rfl | ⟨i, _, rfl⟩) | rfl) | ⟨i, _, rfl⟩) | rfl <;> exact ⟨_, _, rfl⟩
theorem smk_ops : ∀ {S : List (List T)}, (∀ r ∈ S, ∃ k a, r = rOp k a) → S.length ≤ 4194304 → Smk kOp S (3 * S.length)
  | [], _, _ => smk_nil _ _
  | r :: S, h, hl => by
    obtain ⟨k, a, rfl⟩ := h r (by simp)
    have ih := smk_ops (fun r hr => h r (List.mem_cons_of_mem _ hr)) (by simp at hl; omega)
    exact ⟨by rw [shRs, ih.sh]; simp [rOp, shR, shT, shRs], by rw [aoRs, ih.ao]; simp [rOp, aoR, aoT, aoRs], by rw [lenRs, ih.le]; simp [rOp, lenR, lenT, lenRs], hl, by
      have := ih.cn
      rw [cnRs, List.length_cons]
      simp only [rOp, cnR, cnT, cnRs]
      omega⟩
theorem mRound_len (n m : Nat) : (mRound n m).length = n + m + 3 := by simp [mRound]; omega
theorem smk_round {n m : Nat} (hn : n ≤ 1048576) (hm : m ≤ 1048576) (c : Bool) : Smk kOp (bif c then mRound n m else []) 10000000 := by
  cases c with
  | false => exact smk_nil _ _
  | true =>
    have := smk_ops (ops_form n m) (by rw [mRound_len]; omega)
    rw [mRound_len] at this
    exact ⟨this.sh, this.ao, this.le, this.ln, Nat.le_trans this.cn (by omega)⟩
theorem b_ro_impl {ts : List T} (hr : ts.all roT = true) (h : pToR kEngine ts = true) : body lp0 ET107 9 [.ag ts] [] = some (.ret ⟨[.c (.sl .own 4 (sRoundB (mSafe ts) (ts.getD 11 .no).rws (ts.getD 14 .no).rws))], [], []⟩) := by
  have hn := ro_len h hr
  have h' := h
  rw [pToR_eq, Bool.and_eq_true] at h
  have h2 : pEqR kEngine ts = true := by rw [pEqR_eq, h.1, lenR_mono (by decide) h.2]; rfl
  obtain ⟨a0, a1, a2, a3, a4, a5, a6, a7, a8, a9, a10, a11, a12, a13, a14, a15, a16, a17, a18, a19, a20, a21, a22, a23, rfl, ga11, ga12, ga13, ga14, ga15, ga17⟩ := rowr_Engine h.1 hr
  have hn : a11.length ≤ 1048576 ∧ a14.length ≤ 1048576 := hn
  rw [nf_9, h2, h', cond_true, cond_true, sRoundB_eq]
  have hq : sNoRo (.sl .own 4 (sRound a11 a14)) = true := by rw [sRound_eq]; exact (smk_round hn.1 hn.2 true).noRo 4
  rw [hq]
  cases hm : mSafe [tI a0, tI a1, tI a2, tI a3, tI a4, tI a5, tI a6, tI a7, tI a8, tI a9, tI a10, .sl .ro 7 a11, .sl .ro 5 a12, .sl .ro 1 a13, .sl .ro 4 a14, .sl .ro 6 a15, tI a16, .sl .ro 1 a17, tI a18, tI a19, tI a20, tI a21, tI a22, tI a23] with
  | false => rfl
  | true => rw [sRound_eq]; rfl
theorem good102 : Good Go.Proofs.Tryz.prog md0 (fun _ => .own) TL102 := good_eqR (fun h h1 h2 h3 => b_eqOp h h1 h2 h3) good101
theorem good103 : Good Go.Proofs.Tryz.prog md0 (fun _ => .own) TL103 := good_eqS (fun h h1 => b_eqOpS h h1) good102
theorem good104 : Good Go.Proofs.Tryz.prog md0 (fun _ => .own) TL104 := good_mkS (fun h => b_mkOpS h) good103
theorem good105 : Good Go.Proofs.Tryz.prog md0 (fun _ => .own) TL105 := good_heS (fun h => b_heOpS h) good104
theorem good106 : Good Go.Proofs.Tryz.prog md0 (fun _ => .own) TL106 := good_Rd (fun hr h => b_round hr h) good105
theorem good107 : Good Go.Proofs.Tryz.prog md0 (fun _ => .own) TL107 := good_Ro (fun hr h => b_ro_spec hr h) good106
theorem good108 : Good Go.Proofs.Tryz.prog md0 (fun _ => .own) TL108 := good_Ro (fun hr h => b_ro_impl hr h) good107

theorem shT_fl {k : KT} {f f' : Fl} {sz : Nat} {rs : List (List T)} : shT k (.sl f sz rs) = shT k (.sl f' sz rs) := by cases k <;> simp [shT]
theorem shR_fl {a b c d e g : List (List T)} {x0 x1 x2 x3 x4 x5 x6 x7 x8 x9 x10 x16 x18 x19 x20 x21 x22 x23 : Int} (h : shR kEngine [tI x0, tI x1, tI x2, tI x3, tI x4, tI x5, tI x6, tI x7, tI x8, tI x9, tI x10, .sl .ro 7 a, .sl .ro 5 b, .sl .ro 1 c, .sl .ro 4 d, .sl .ro 6 e, tI x16, .sl .ro 1 g, tI x18, tI x19, tI x20, tI x21, tI x22, tI x23] = true) : shR kEngine [tI x0, tI x1, tI x2, tI x3, tI x4, tI x5, tI x6, tI x7, tI x8, tI x9, tI x10, .sl .own 7 a, .sl .own 5 b, .sl .own 1 c, .sl .own 4 d, .sl .own 6 e, tI x16, .sl .own 1 g, tI x18, tI x19, tI x20, tI x21, tI x22, tI x23] = true := by
  rw [← h]; simp [shR, shT]
theorem sEqR_rfl (a : List T) : sEqR a a = true := sEqR_iff.2 rfl
theorem sEqS_rfl (a : List (List T)) : sEqS a a = true := sEqS_iff.2 rfl
theorem b_L {ts : List T} (hr : ts.all roT = true) (hs : shR kEngine ts = true) (hl : lenR reachBytes ts = true) (hw : wfR ts = true) : body lp0 ET108 3 [.ag ts] [] = some (.ret (oB true)) := by
  have hz : sSzR ts 1048576 < 0 ∨ lenR 1048576 ts = true := by
    rw [sSzR_eq]
    by_cases h : szR ts 1048576 < 0
    · exact .inl h
    · exact .inr ((szR_le ts 1048576 (by omega)).2.2 (by omega))
  have hp : pSzR kEngine ts 1048576 = true := by rw [pSzR_eq, hs, hl]; rfl
  obtain ⟨a0, a1, a2, a3, a4, a5, a6, a7, a8, a9, a10, a11, a12, a13, a14, a15, a16, a17, a18, a19, a20, a21, a22, a23, rfl, g11, g12, g13, g14, g15, g17⟩ := rowr_Engine hs hr
  rw [nf_3, hp, cond_true, sLt_eq]
  by_cases hneg : sSzR [tI a0, tI a1, tI a2, tI a3, tI a4, tI a5, tI a6, tI a7, tI a8, tI a9, tI a10, .sl .ro 7 a11, .sl .ro 5 a12, .sl .ro 1 a13, .sl .ro 4 a14, .sl .ro 6 a15, tI a16, .sl .ro 1 a17, tI a18, tI a19, tI a20, tI a21, tI a22, tI a23] 1048576 < 0
  · rw [decide_eq_true hneg]; rfl
  · rw [decide_eq_false hneg, cond_false]
    have hz := hz.resolve_left hneg
    have p1 : pToR kEngine [tI a0, tI a1, tI a2, tI a3, tI a4, tI a5, tI a6, tI a7, tI a8, tI a9, tI a10, .sl .ro 7 a11, .sl .ro 5 a12, .sl .ro 1 a13, .sl .ro 4 a14, .sl .ro 6 a15, tI a16, .sl .ro 1 a17, tI a18, tI a19, tI a20, tI a21, tI a22, tI a23] = true := by rw [pToR_eq, hs, hz]; rfl
    have p2 : pToR kEngine [tI a0, tI a1, tI a2, tI a3, tI a4, tI a5, tI a6, tI a7, tI a8, tI a9, tI a10, .sl .ro 7 (sOwn a11), .sl .ro 5 (sOwn a12), .sl .ro 1 (sOwn a13), .sl .ro 4 (sOwn a14), .sl .ro 6 (sOwn a15), tI a16, .sl .ro 1 (sOwn a17), tI a18, tI a19, tI a20, tI a21, tI a22, tI a23] = true := by
      rw [pToR_eq]
      simp only [sOwn_eq, shR, shT, lenR, lenT, shRs_own, lenRs_own, ownRs_length] at hs hz ⊢
      rw [hs, hz]; rfl
    have p3 : pEqR kEngine [tI a0, tI a1, tI a2, tI a3, tI a4, tI a5, tI a6, tI a7, tI a8, tI a9, tI a10, .sl .ro 7 (sOwn a11), .sl .ro 5 (sOwn a12), .sl .ro 1 (sOwn a13), .sl .ro 4 (sOwn a14), .sl .ro 6 (sOwn a15), tI a16, .sl .ro 1 (sOwn a17), tI a18, tI a19, tI a20, tI a21, tI a22, tI a23] = true := by
      rw [pToR_eq, Bool.and_eq_true] at p2
      rw [pEqR_eq, p2.1, lenR_mono (by decide) p2.2]; rfl
    have p4 : pMkE kEngine [tI a0, tI a1, tI a2, tI a3, tI a4, tI a5, tI a6, tI a7, tI a8, tI a9, tI a10, .sl .own 7 (sOwn a11), .sl .own 5 (sOwn a12), .sl .own 1 (sOwn a13), .sl .own 4 (sOwn a14), .sl .own 6 (sOwn a15), tI a16, .sl .own 1 (sOwn a17), tI a18, tI a19, tI a20, tI a21, tI a22, tI a23] = true := by
      rw [pToR_eq, Bool.and_eq_true] at p2
      rw [pMkE_eq, shR_fl p2.1]
      simp [aoR, aoT, sOwn_eq, aoRs_own]
    simp only [lenR, lenT, Bool.and_eq_true, decide_eq_true_eq] at hz
    have o11 := smk_own g11 (by simp [hz]) (by simp [hz])
    have o12 := smk_own g12 (by simp [hz]) (by simp [hz])
    have o13 := smk_own g13 (by simp [hz]) (by simp [hz])
    have o14 := smk_own g14 (by simp [hz]) (by simp [hz])
    have o15 := smk_own g15 (by simp [hz]) (by simp [hz])
    have o17 := smk_own g17 (by simp [hz]) (by simp [hz])
    simp only [cbR, cbT] at o11 o12 o13 o14 o15 o17
    have l11 : (sOwn a11).length ≤ 1048576 := by rw [sOwn_eq, ownRs_length]; simp [hz]
    have l14 : (sOwn a14).length ≤ 1048576 := by rw [sOwn_eq, ownRs_length]; simp [hz]
    have hS : Smk kOp (sRoundB (mSafe [tI a0, tI a1, tI a2, tI a3, tI a4, tI a5, tI a6, tI a7, tI a8, tI a9, tI a10, .sl .ro 7 (sOwn a11), .sl .ro 5 (sOwn a12), .sl .ro 1 (sOwn a13), .sl .ro 4 (sOwn a14), .sl .ro 6 (sOwn a15), tI a16, .sl .ro 1 (sOwn a17), tI a18, tI a19, tI a20, tI a21, tI a22, tI a23]) (sOwn a11) (sOwn a14)) 10000000 := by rw [sRoundB_eq]; exact smk_round l11 l14 _
    generalize sRoundB (mSafe [tI a0, tI a1, tI a2, tI a3, tI a4, tI a5, tI a6, tI a7, tI a8, tI a9, tI a10, .sl .ro 7 (sOwn a11), .sl .ro 5 (sOwn a12), .sl .ro 1 (sOwn a13), .sl .ro 4 (sOwn a14), .sl .ro 6 (sOwn a15), tI a16, .sl .ro 1 (sOwn a17), tI a18, tI a19, tI a20, tI a21, tI a22, tI a23]) (sOwn a11) (sOwn a14) = S at hS ⊢
    have q1 := o11.num (k := 1) (by omega) (by omega)
    have q2 := o12.num q1.1 (by omega)
    have q3 := o13.num q2.1 (by omega)
    have q4 := o14.num q3.1 (by omega)
    have q5 := o15.num q4.1 (by omega)
    have q6 := o17.num q5.1 (by omega)
    have eS : pEq kOp S = true := by rw [pEq_eq, hS.sh, lenRs_mono (by decide) hS.le]; simp; exact Nat.le_trans hS.ln (by decide)
    have h1 := hS.num (k := 1) (by omega) (by omega)
    have h2 := hS.he (k := 1) (by omega) (by omega)
    have nr : ∀ {sz : Nat} {rs : List (List T)} {k : Int}, aoRs rs = true → sNoRo (.sl .own sz (sMk rs k)) = true := fun h => noRo_mk h
    simp only [p1, p2, p3, p4, eS, noRo_sOwn, hS.noRo, hS.pMk, h2, o11.pMk, o12.pMk, o13.pMk, o14.pMk, o15.pMk, o17.pMk, nr o11.ao, nr o12.ao, nr o13.ao, nr o14.ao, nr o15.ao, nr o17.ao, nr hS.ao, List.getD_cons_zero, List.getD_cons_succ, sMkN_idem, lt0F q6.1, lt0F h1.1,
      sEq_rfl, sBeq_rfl, sEqR_rfl, sEqS_rfl, Option.elim_some, vAt0, okVl_b, bV_b, Bool.and_true, Bool.true_and, Bool.not_true, Bool.not_false, cond_true, cond_false]
theorem mixed : Go.Proofs.Tryz.prog.follows .mixedOrders = true := by kernel_rfl
theorem law_FnExactRoundOps (ts : List T) (h : okKR kEngine ts = true) :
    Sound Go.Proofs.Tryz.prog (modesOf ET108 3) 3 [.ag ts] [] ⟨[.c (.im (.bool true))], [], []⟩ ∧ ([.ag ts] : List A).all A.ro = true := by
  obtain ⟨h1, h2, h3, h4⟩ := okKR_sh h
  exact ⟨body_sound rfl mixed (good108.soundG mixed) (b_L h3 h1 h2 h4), by simp only [List.all_cons, List.all_nil, Bool.and_true]; exact h3⟩
end Go.Vm
