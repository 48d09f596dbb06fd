/- folds: the bodies -/
import Derived.Test.YtiljaikpocgleaaFON
import Derived.Test.YtiljaikpocgleaaFOP
import Derived.Test.YtiljaikpocgleaaSoL
import Derived.Test.YtiljaikpocgleaaEOB
import Derived.Test.YtiljaikpocgleaaClB
namespace Go.Vm
open Go.Sort Go.Proofs
set_option linter.unusedVariables false
set_option linter.unusedSimpArgs false
section
variable {P : Program} {md : FuncId → Option (List Mode)} {fl : FuncId → Fl} {l : List (Nat × GFn)} {f : Nat}
theorem good_GrowA (hb : ∀ {n : Int}, 0 ≤ n → n < 4294967296 → body lp0 (EE P md fl l) f [.c (.im (.slice none 0 0)), aI n] [] = some (.ret ⟨[.c (.sl .own 6 [])], [], []⟩)) (hl : Good P md fl l) : Good P md fl ((f, gGrowA) :: l) := .cons (fun xs ps h => by
 unfold gGrowA at h ⊢
 split at h
 ·rw [Bool.and_eq_true, sLe_iff, sLt_iff] at h; exact hb h.1 h.2
 ·cases h) hl
theorem good_ConcatA (hb : ∀ {a b : List (List T)}, pFl kAggT a = true → pFl kAggT b = true → body lp0 (EE P md fl l) f [.c (.sl .ro 1 [[.sl .ro 6 a], [.sl .ro 6 b]])] [] = some (.ret ⟨[.c (.sl .own 6 (sApp a b))], [], []⟩)) (hl : Good P md fl l) : Good P md fl ((f, gConcatA) :: l) := .cons (fun xs ps h => by
 unfold gConcatA at h ⊢
 split at h
 ·rw [Bool.and_eq_true] at h; exact hb h.1 h.2
 ·cases h) hl

theorem good_Cap (hb : ∀ a : Int, body lp0 (EE P md fl l) f [aI a] [] = some (.ret (oI (sCap a)))) (hl : Good P md fl l) : Good P md fl ((f, gCap) :: l) := .cons (fun xs ps h => by
 unfold gCap at h ⊢
 split at h
 ·exact hb _
 ·cases h) hl
theorem good_Sum (hb : ∀ {a b}, shR kAggT a = true → shR kAggT b = true → mAggOk a = true → mAggOk b = true → body lp0 (EE P md fl l) f [.ag a, .ag b] [] = some (.ret ⟨[.ag [tI (sSm 0 a b), tI (sSm 1 a b), tI (sSm 2 a b), tI (sSm 3 a b), tI (sSm 4 a b), tI (sSm 5 a b)]], [], []⟩)) (hl : Good P md fl l) : Good P md fl ((f, gSum) :: l) := .cons (fun xs ps h => by
 unfold gSum at h ⊢
 split at h
 ·simp only [Bool.and_eq_true, sShR_eq] at h; exact hb h.1.1.1.2 h.1.1.2 h.1.2 h.2
 ·cases h) hl
theorem good_Put (hb : ∀ {rs a}, shR kAggT a = true ∧ mAggOk a = true → pAgg rs = true → body lp0 (EE P md fl l) f [.c (.sl .ro 6 rs), .ag a] [] = some (.ret ⟨[.c (.sl .own 6 (sPut rs a))], [], []⟩)) (hl : Good P md fl l) : Good P md fl ((f, gPut) :: l) := .cons (fun xs ps h => by
 unfold gPut at h ⊢
 split at h
 ·simp only [Bool.and_eq_true, sShR_eq] at h; exact hb ⟨h.1.1.2, h.1.2⟩ h.2
 ·cases h) hl
theorem good_Fold (hb : ∀ {rs}, pAgg rs = true → body lp0 (EE P md fl l) f [.c (.sl .ro 6 rs)] [] = some (.ret ⟨[.c (.sl .own 6 (sFold rs))], [], []⟩)) (hl : Good P md fl l) : Good P md fl ((f, gFold) :: l) := .cons (fun xs ps h => by
 unfold gFold at h ⊢
 split at h
 ·exact hb h
 ·cases h) hl
theorem good_Win (hb : ∀ a b : Int, body lp0 (EE P md fl l) f [aI a, aI b] [] = some (.ret (oI (sWin a b)))) (hl : Good P md fl l) : Good P md fl ((f, gWin) :: l) := .cons (fun xs ps h => by
 unfold gWin at h ⊢
 split at h
 ·exact hb _ _
 ·cases h) hl
theorem good_AggOf (hb : ∀ a0 a1 a2 a3 n : Int, body lp0 (EE P md fl l) f [.ag [tI a0, tI a1, tI a2, tI a3], aI n] [] = some (.ret ⟨[.ag [tI n, tI a1, tI 1, tI a3, tI a3, tI a3]], [], []⟩)) (hl : Good P md fl l) : Good P md fl ((f, gAggOf) :: l) := .cons (fun xs ps h => by
 unfold gAggOf at h ⊢
 split at h
 ·exact hb _ _ _ _ _
 ·cases h) hl
theorem good_FA (hb : ∀ {rs n}, pTo kFrame rs = true → body lp0 (EE P md fl l) f [.c (.sl .ro 4 rs), aI n] [] = some (.ret ⟨[.c (.sl .own 6 (sFA rs n))], [], []⟩)) (hl : Good P md fl l) : Good P md fl ((f, gFA) :: l) := .cons (fun xs ps h => by
 unfold gFA at h ⊢
 split at h
 ·exact hb h
 ·cases h) hl
theorem good_KT (hb : ∀ {rs}, pTo kAggT rs = true → body lp0 (EE P md fl l) f [.c (.sl .ro 6 rs)] [] = some (.ret ⟨[.c (.sl .own 6 (sKT rs))], [], []⟩)) (hl : Good P md fl l) : Good P md fl ((f, gKT) :: l) := .cons (fun xs ps h => by
 unfold gKT at h ⊢
 split at h
 ·exact hb h
 ·cases h) hl
theorem good_ML (hb : ∀ {rs ss}, pTo kAggT rs = true → pTo kAggT ss = true → body lp0 (EE P md fl l) f [.c (.sl .ro 6 rs), .c (.sl .ro 6 ss)] [] = some (.ret ⟨[.c (.sl .own 6 (sML rs ss))], [], []⟩)) (hl : Good P md fl l) : Good P md fl ((f, gML) :: l) := .cons (fun xs ps h => by
 unfold gML at h ⊢
 split at h
 ·rw [Bool.and_eq_true] at h; exact hb h.1 h.2
 ·cases h) hl
end
theorem b_cap (a : Int) : body lp0 ET59 134 [aI a] [] = some (.ret (oI (sCap a))) := by
 rw [nf_134, sCap_eq, sLt_eq, sLt_eq]
 unfold mCap
 by_cases h : 1000000000 < a
 ·rw [decide_eq_true h, if_pos h]; rfl
 ·rw [decide_eq_false h, if_neg h, cond_false]
  by_cases h2 : a < -1000000000
  ·rw [if_pos h2]
   have : decide (a < Int.negSucc 999999999) = true := decide_eq_true (by omega)
   rw [this]; rfl
  ·rw [if_neg h2]
   have : decide (a < Int.negSucc 999999999) = false := decide_eq_false (by omega)
   rw [this]; rfl
theorem b_sumOf (a : Int) : body lp0 ET60 135 [aI a] [] = some (.ret (oI (sCap a))) := by
 rw [nf_135, sCap_eq]
 have : sMin (sMax a (Int.negSucc 999999999)) 1000000000 = mCap a := by
  rw [sMin_eq, sMax_eq, mCap]
  split <;> split <;> (try split) <;> (try split) <;> omega
 rw [this]
theorem add64 {a b : Int} (h1 : -4000000000 ≤ a + b) (h2 : a + b ≤ 4000000000) : sAdd .i64 a b = a + b := by rw [sAdd_eq, wrap64 (by omega) (by omega)]
theorem b_sum {a b : List T} (h1 : shR kAggT a = true) (h2 : shR kAggT b = true) (h3 : mAggOk a = true) (h4 : mAggOk b = true) : body lp0 ET61 113 [.ag a, .ag b] [] = some (.ret ⟨[.ag [tI (sSm 0 a b), tI (sSm 1 a b), tI (sSm 2 a b), tI (sSm 3 a b), tI (sSm 4 a b), tI (sSm 5 a b)]], [], []⟩) := by
 obtain ⟨a0, a1, a2, a3, a4, a5, rfl, _⟩ := row_Agg h1
 obtain ⟨b0, b1, b2, b3, b4, b5, rfl, _⟩ := row_Agg h2
 rw [aggOk_iff] at h3 h4
 simp only [cI0, cI1, cI2, cI3, cI4, cI5] at h3 h4
 rw [nf_113]
 simp only [sSm_eq, mSm, cI0, cI1, cI2, cI3, cI4, cI5, sCap_eq, sLt_eq]
 rw [add64 (a := a2) (by omega) (by omega), add64 (a := a3) (by omega) (by omega)]
 by_cases q1 : b4 < a4 <;> by_cases q2 : a5 < b5
 ·rw [decide_eq_true q1, decide_eq_true q2, if_pos q1, if_pos (show b5 > a5 from q2)]; rfl
 ·rw [decide_eq_true q1, decide_eq_false q2, if_pos q1, if_neg (show ¬ b5 > a5 from q2)]; rfl
 ·rw [decide_eq_false q1, decide_eq_true q2, if_neg q1, if_pos (show b5 > a5 from q2)]; rfl
 ·rw [decide_eq_false q1, decide_eq_false q2, if_neg q1, if_neg (show ¬ b5 > a5 from q2)]; rfl
theorem b_merged {a b : List T} (h1 : shR kAggT a = true) (h2 : shR kAggT b = true) (h3 : mAggOk a = true) (h4 : mAggOk b = true) : body lp0 ET62 116 [.ag a, .ag b] [] = some (.ret ⟨[.ag [tI (sSm 0 a b), tI (sSm 1 a b), tI (sSm 2 a b), tI (sSm 3 a b), tI (sSm 4 a b), tI (sSm 5 a b)]], [], []⟩) := by
 obtain ⟨a0, a1, a2, a3, a4, a5, rfl, _⟩ := row_Agg h1
 obtain ⟨b0, b1, b2, b3, b4, b5, rfl, _⟩ := row_Agg h2
 rw [aggOk_iff] at h3 h4
 simp only [cI0, cI1, cI2, cI3, cI4, cI5] at h3 h4
 rw [nf_116]
 simp only [sSm_eq, mSm, cI0, cI1, cI2, cI3, cI4, cI5, sCap_eq, sMin_eq, sMax_eq]
 rw [add64 (a := a2) (by omega) (by omega), add64 (a := a3) (by omega) (by omega)]
 have e : (if (1000000000 : Int) < a2 + b2 then (1000000000 : Int) else a2 + b2) = mCap (a2 + b2) := by
  unfold mCap; split <;> (try split) <;> omega
 rw [e]
theorem sm6 (a b : List T) : [tI (sSm 0 a b), tI (sSm 1 a b), tI (sSm 2 a b), tI (sSm 3 a b), tI (sSm 4 a b), tI (sSm 5 a b)] = mSum a b := by simp only [sSm_eq]; rfl
theorem row6' {r : List T} (h : shR kAggT r = true) : [tI (cI r 0), tI (cI r 1), tI (cI r 2), tI (cI r 3), tI (cI r 4), tI (cI r 5)] = r := by
 obtain ⟨a0, a1, a2, a3, a4, a5, rfl, _⟩ := row_Agg h
 simp only [cI0, cI1, cI2, cI3, cI4, cI5]
theorem flat6 {r : List T} (h : shR kAggT r = true) : sFlat [r] = true := by
 obtain ⟨a0, a1, a2, a3, a4, a5, rfl, _⟩ := row_Agg h
 rw [sFlat_eq]; rfl
theorem fitS {L : List (List T)} {r : List T} (h : L.length ≤ 4294967294) : sFit (sLen L + sLen [r]) = true := by rw [sFit_eq, sLen_eq, sLen_eq, Nat.blt_eq]; simp; omega
theorem noRo6 {L : List (List T)} (h : shRs kAggT L = true) : sNoRo (.sl .own 6 L) = true := by
 rw [sNoRo_eq, T.noRo]
 induction L with
 | nil => unfold noRoRs; rfl
 | cons r L ih =>
  rw [shRs, Bool.and_eq_true] at h
  obtain ⟨a0, a1, a2, a3, a4, a5, rfl, _⟩ := row_Agg h.1
  rw [noRoRs, ih h.2]
  simp [noRoR, T.noRo]
theorem b_growA {n : Int} (h0 : 0 ≤ n) (h1 : n < 4294967296) : body lp0 ET74 118 [.c (.im (.slice none 0 0)), aI n] [] = some (.ret ⟨[.c (.sl .own 6 [])], [], []⟩) := by
 rw [nf_118]
 have e : sSub .i64 n (sSub .i64 0 0) = n := by
  rw [sSub_eq, sSub_eq, show IntKind.i64.wrap (0 - 0) = 0 from wrap64 (by omega) (by omega), wrap64 (by omega) (by omega)]; omega
 have l0 : sLt n 0 = false := by rw [sLt_eq]; exact decide_eq_false (by omega)
 have l1 : sLt n 4294967296 = true := by rw [sLt_eq]; exact decide_eq_true (by omega)
 have l2 : sLe 0 n = true := by rw [sLe_eq]; exact decide_eq_true (by omega)
 have l3 : sLe 0 0 = true := by rw [sLe_eq]; rfl
 have l4 : sLe 0 (Int.ofNat n.toNat) = true := by rw [sLe_eq]; exact decide_eq_true (by show (0 : Int) ≤ ((n.toNat : Nat) : Int); omega)
 have l5 : ∀ rs, sCut false (Int.toNat 0) (Int.toNat 0 - Int.toNat 0) rs = [] := fun rs => by rw [sCut_eq]; simp [cut]
 simp only [e, l0, l1, l2, l3, l4, l5, sEq_rfl, Bool.and_true, cond_true, cond_false]
 cases sLt 0 n <;> rfl
theorem b_concatA {a b : List (List T)} (ha : pFl kAggT a = true) (hb : pFl kAggT b = true) : body lp0 ET75 66 [.c (.sl .ro 1 [[.sl .ro 6 a], [.sl .ro 6 b]])] [] = some (.ret ⟨[.c (.sl .own 6 (sApp a b))], [], []⟩) := by
 rw [nf_66]
 have la := pFl_len ha
 have lb := pFl_len hb
 have L2 : sLen [[T.sl .ro 6 a], [.sl .ro 6 b]] = 2 := by rw [sLen_eq]; rfl
 have c0 : sCell [[T.sl .ro 6 a], [.sl .ro 6 b]] (0 : Int).toNat 0 = .sl .ro 6 a := by rw [sCell_eq]; rfl
 have c1 : sCell [[T.sl .ro 6 a], [.sl .ro 6 b]] (1 : Int).toNat 0 = .sl .ro 6 b := by rw [sCell_eq]; rfl
 have k0 : sOkC [.sl 6] [[T.sl .ro 6 a], [.sl .ro 6 b]] (0 : Int).toNat 0 = true := by rw [sOkC_eq]; rfl
 have k1 : sOkC [.sl 6] [[T.sl .ro 6 a], [.sl .ro 6 b]] (1 : Int).toNat 0 = true := by rw [sOkC_eq]; rfl
 have t0 : sLt (0 : Int) (Int.ofNat 2) = true := by rw [sLt_eq]; rfl
 have t1 : sLt (1 : Int) (Int.ofNat 2) = true := by rw [sLt_eq]; rfl
 have t2 : sLt (2 : Int) (Int.ofNat 2) = false := by rw [sLt_eq]; rfl
 have u0 : sLe (0 : Int) 0 = true := by rw [sLe_eq]; rfl
 have u1 : sLe (0 : Int) 1 = true := by rw [sLe_eq]; rfl
 have a0 : sAdd .i64 (0 : Int) 1 = 1 := by rw [sAdd_eq]; rfl
 have a1 : sAdd .i64 (1 : Int) 1 = 2 := by rw [sAdd_eq]; rfl
 have s0 : sAdd .i64 0 (Int.ofNat (sLen a)) = (a.length : Int) := by rw [sAdd_eq, sLen_eq, natI, wrap64 (by omega) (by omega)]; omega
 have s1 : sAdd .i64 (a.length : Int) (Int.ofNat (sLen b)) = ((a.length + b.length : Nat) : Int) := by rw [sAdd_eq, sLen_eq, natI, wrap64 (by omega) (by omega)]; omega
 have n0 : sLt (a.length : Int) 0 = false := by rw [sLt_eq]; exact decide_eq_false (by omega)
 have n1 : sLt ((a.length + b.length : Nat) : Int) 0 = false := by rw [sLt_eq]; exact decide_eq_false (by omega)
 have f0 : sFit (sLen [] + sLen a) = true := fit0 la
 have f1 : sFit (sLen a + sLen b) = true := by rw [sFit_eq, sLen_eq, sLen_eq, Nat.blt_eq]; omega
 have g1 : sLe 0 ((a.length + b.length : Nat) : Int) = true := by rw [sLe_eq]; exact decide_eq_true (by omega)
 have g2 : sLt ((a.length + b.length : Nat) : Int) 4294967296 = true := by rw [sLt_eq]; exact decide_eq_true (by omega)
 have nr : sNoRo (.sl .own 6 []) = true := by rw [sNoRo_eq]; rfl
 rw [lp0_for0 (fun i => [tI (cS a b i), tI (i : Int)]) 2 (x := [tI (cS a b 2), tI 2]) (by rfl) (fun i hi => ?_) ?_]
 ·simp only [cS, LRes.elim', Option.elim_some, tAt0, tAt1, iT_im, okT_i, Bool.and_true, cond_true, g1, g2, nr]
  rw [lp0_for0 (fun i => [.sl .own 6 (cR a b i), tI (Int.ofNat (sLen (cR a b i))), tI (i : Int)]) 2 (x := [.sl .own 6 (cR a b 2), tI (Int.ofNat (sLen (cR a b 2))), tI 2]) (by rfl) (fun i hi => ?_) ?_]
  ·simp only [cR, LRes.elim', Option.elim_some, tAt0, tAt1, tAt2, iT_im, rT_sl, okT_i, okT_s, Bool.and_true, cond_true, sApp_eq]
  ·simp only [cR, tAt0, tAt1, tAt2, iT_im, rT_sl, okT_i, okT_s, Bool.and_true, cond_true, cond_false, L2, show ((2 : Nat) : Int) = 2 from rfl, t2]; rfl
  ·match i, hi with
   | 0, _ => simp only [cR, tAt0, tAt1, tAt2, iT_im, rT_sl, okT_i, okT_s, slT_sl, Bool.and_true, Bool.true_and, cond_true, L2, show ((0 : Nat) : Int) = 0 from rfl, c0, k0, t0, u0, a0, f0, pFl_flat ha, sApp_eq, List.nil_append]; rfl
   | 1, _ => simp only [cR, tAt0, tAt1, tAt2, iT_im, rT_sl, okT_i, okT_s, slT_sl, Bool.and_true, Bool.true_and, cond_true, L2, show ((1 : Nat) : Int) = 1 from rfl, c1, k1, t1, u1, a1, f1, pFl_flat hb, sApp_eq]; rfl
 ·simp only [cS, tAt0, tAt1, iT_im, okT_i, Bool.and_true, cond_true, cond_false, L2, show ((2 : Nat) : Int) = 2 from rfl, t2]
 ·match i, hi with
  | 0, _ => simp only [cS, tAt0, tAt1, iT_im, rT_sl, okT_i, Bool.and_true, Bool.true_and, cond_true, cond_false, L2, show ((0 : Nat) : Int) = 0 from rfl, c0, k0, t0, u0, a0, s0, n0]; rfl
  | 1, _ => simp only [cS, tAt0, tAt1, iT_im, rT_sl, okT_i, Bool.and_true, Bool.true_and, cond_true, cond_false, L2, show ((1 : Nat) : Int) = 1 from rfl, c1, k1, t1, u1, a1, s1, n1]; rfl
theorem tAt3' (t u v w : T) (ts : List T) : tAt (t :: u :: v :: w :: ts) 3 = w := by rw [tAt_eq]; rfl
theorem ofN (n : Nat) : Int.ofNat (((n : Nat) : Int).toNat) = (n : Int) := rfl
theorem win_eq (a b : Int) : (bif (!mIn a 0 1000000) || !mIn b 1 1000000 then some (LRes.ret (oI (-1))) else bif !sEq b 0 then some (.ret (oI (sQuo .i64 a b))) else none) = some (.ret (oI (sWin a b))) := by
 rw [sWin_eq, mWin]
 cases h1 : mIn a 0 1000000 with
 | false => rfl
 | true =>
  cases h2 : mIn b 1 1000000 with
  | false => rfl
  | true =>
   rw [mIn_eq, Bool.and_eq_true, decide_eq_true_eq, decide_eq_true_eq] at h1 h2
   have e0 : sEq b 0 = false := by rw [sEq_eq]; exact decide_eq_false (by omega)
   rw [e0, sQuo_eq]
   have := Int.tdiv_le_self b (show 0 ≤ a by omega)
   have := Int.tdiv_nonneg (a := a) (b := b) (by omega) (by omega)
   rw [wrap64 (by omega) (by omega)]; rfl
theorem b_win_spec (a b : Int) : body lp0 ET66 69 [aI a, aI b] [] = some (.ret (oI (sWin a b))) := by
 rw [nf_69, ← win_eq]
 cases mIn a 0 1000000 <;> cases mIn b 1 1000000 <;> simp only [Bool.not_true, Bool.not_false, cond_true, cond_false, Option.elim_some, vAt0, okVl_b, bV_b, Bool.and_true, Bool.or_true, Bool.or_false] <;> rfl
theorem b_win_impl (a b : Int) : body lp0 ET67 46 [aI a, aI b] [] = some (.ret (oI (sWin a b))) := by
 rw [nf_46, ← win_eq]
 cases mIn a 0 1000000 <;> cases mIn b 1 1000000 <;> simp only [Bool.not_true, Bool.not_false, cond_true, cond_false, Option.elim_some, vAt0, okVl_b, bV_b, Bool.and_true, Bool.or_true, Bool.or_false] <;> rfl
theorem b_aggOf (a0 a1 a2 a3 n : Int) : body lp0 ET68 73 [.ag [tI a0, tI a1, tI a2, tI a3], aI n] [] = some (.ret ⟨[.ag [tI n, tI a1, tI 1, tI a3, tI a3, tI a3]], [], []⟩) := by rw [nf_73]
noncomputable def stP (a : List T) (s : List (List T) × Bool) (r : List T) : List (List T) × Bool :=
 bif !s.2 && sameWK r a then (s.1 ++ [mSum r a], true) else bif !s.2 && mAhead a r then (s.1 ++ [a] ++ [r], true) else (s.1 ++ [r], s.2)
theorem stP_true (a : List T) : ∀ (rs L : List (List T)), rs.foldl (stP a) (L, true) = (L ++ rs, true)
 | [], L => by simp
 | r :: rs, L => by
  rw [List.foldl_cons, show stP a (L, true) r = (L ++ [r], true) from rfl, stP_true a rs]; simp
theorem stP_put (a : List T) : ∀ (rs L : List (List T)), (bif (rs.foldl (stP a) (L, false)).2 then (rs.foldl (stP a) (L, false)).1 else (rs.foldl (stP a) (L, false)).1 ++ [a]) = L ++ putW a rs
 | [], L => rfl
 | r :: rs, L => by
  rw [List.foldl_cons, putW]
  cases hs : sameWK r a with
  | true =>
   have e : stP a (L, false) r = (L ++ [mSum r a], true) := by simp only [stP, hs]; rfl
   rw [e, stP_true]; simp
  | false =>
   cases ha : mAhead a r with
   | true =>
    have e : stP a (L, false) r = (L ++ [a] ++ [r], true) := by simp only [stP, hs, ha]; rfl
    rw [e, stP_true]; simp
   | false =>
    have e : stP a (L, false) r = (L ++ [r], false) := by simp only [stP, hs, ha]; rfl
    rw [e, stP_put a rs]; simp
theorem stP_len (a : List T) (s : List (List T) × Bool) (r : List T) : (stP a s r).1.length ≤ s.1.length + 2 := by
 unfold stP
 cases (!s.2 && sameWK r a) with
 | true => rw [cond_true]; simp
 | false =>
  cases (!s.2 && mAhead a r) with
  | true => rw [cond_false, cond_true]; simp
  | false => rw [cond_false, cond_false]; simp
theorem b_put {rs : List (List T)} {a : List T} (ha : shR kAggT a = true ∧ mAggOk a = true) (h : pAgg rs = true) : body lp0 ET63 62 [.c (.sl .ro 6 rs), .ag a] [] = some (.ret ⟨[.c (.sl .own 6 (sPut rs a))], [], []⟩) := by
 obtain ⟨hs, hok, hn⟩ := pAgg_iff.1 h
 obtain ⟨ha1, ha2⟩ := ha
 have hsa : sShR kAggT a = true := by rw [sShR_eq]; exact ha1
 have hfa := flat6 ha1
 have e6 := row6' ha1
 obtain ⟨a0, a1, a2, a3, a4, a5, rfl, _⟩ := row_Agg ha1
 rw [nf_62]
 dsimp only
 generalize hA : [tI a0, tI a1, tI a2, tI a3, tI a4, tI a5] = A at *
 have c0 : cI A 0 = a0 := by rw [← hA, cI0]
 have c1 : cI A 1 = a1 := by rw [← hA, cI1]
 rw [(lp0_foldl (ds0 := [.sl .own 6 [], tI (Int.ofNat 0), tB false, tI 0]) rs (fun i s => [.sl .own 6 s.1, tI ((s.1.length : Nat) : Int), tB s.2, tI (i : Int)]) (stP A) (fun i s => s.1.length ≤ 2 * i)
  (fun s => [.sl .own 6 s.1, tI ((s.1.length : Nat) : Int), tB s.2, tI (rs.length : Int)]) ([], false) rfl (Nat.le_refl _) (fun i s hi hI => ?step) (fun s hI => ?fin)).2]
 case step =>
  obtain ⟨L, p⟩ := s
  have hI : L.length ≤ 2 * i := hI
  refine ⟨?_, by have := stP_len A (L, p) rs[i]; show _ ≤ _; have h2 : (L, p).1.length = L.length := rfl; omega⟩
  have hr := shRs_get hs hi
  have hok' := List.all_eq_true.1 hok _ (List.getElem_mem hi)
  have f1 : ∀ x : List T, sFit (sLen L + sLen [x]) = true := fun x => fitS (by omega)
  have f2 : ∀ x y : List T, sFit (sLen (L ++ [x]) + sLen [y]) = true := fun x y => fitS (by simp; omega)
  simp only [tAt0, tAt1, tAt2, tAt3', iT_im, bT_im, rT_sl, okT_i, okT_b, okT_s, Bool.and_true, cond_true, lt_len hi, le_0, okc2 hs hi (show 0 < 6 by decide), okc2 hs hi (show 1 < 6 by decide), agg_okc hs hi, cI_at hi, row6 hs hi, sh_get hs hi, hsa, hok', ha2, add1i (Nat.lt_of_lt_of_le hi (Nat.le_trans hn (by decide))), sm6, flat6 hr, flat6 (sum_sh _ _), hfa, f1, f2, sApp_eq, sEq_eq, Bool.true_and]
  simp only [sLen_eq, natI]
  have hw : sameWK rs[i] A = (decide (cI rs[i] 0 = a0) && decide (cI rs[i] 1 = a1)) := by rw [sameWK, c0, c1]
  unfold stP
  rw [hw]
  cases p with
  | true => simp only [Bool.not_true, Bool.false_and, cond_false, cond_true, Option.elim_some, vAt0, okVl_b, bV_b, Bool.and_true]
  | false =>
   cases decide (cI rs[i] 0 = a0) with
   | true =>
    cases decide (cI rs[i] 1 = a1) with
    | true => simp only [Bool.not_false, Bool.true_and, cond_false, cond_true, Option.elim_some, vAt0, okVl_b, bV_b, Bool.and_true]
    | false => cases mAhead A rs[i] <;> simp only [Bool.not_false, Bool.true_and, Bool.and_false, cond_false, cond_true, Option.elim_some, vAt0, okVl_b, bV_b, Bool.and_true]
   | false => cases mAhead A rs[i] <;> simp only [Bool.not_false, Bool.true_and, Bool.false_and, Bool.and_false, cond_false, cond_true, Option.elim_some, vAt0, okVl_b, bV_b, Bool.and_true]
 case fin => simp only [tAt0, tAt1, tAt2, tAt3', iT_im, bT_im, rT_sl, okT_i, okT_b, okT_s, Bool.and_true, cond_true, cond_false, lt_len', ofN]
 have hI := stP_put A rs []
 have hlen : (rs.foldl (stP A) ([], false)).1.length ≤ 4294967294 := by
  have go : ∀ (rs : List (List T)) (s : List (List T) × Bool), (rs.foldl (stP A) s).1.length ≤ s.1.length + 2 * rs.length := by
   intro rs
   induction rs with
   | nil => intro s; simp
   | cons r rs ih => intro s; rw [List.foldl_cons, List.length_cons]; have := ih (stP A s r); have := stP_len A s r; omega
  have := go rs ([], false)
  simp at this; omega
 simp only [Option.elim_some, LRes.elim', tAt0, tAt1, tAt2, tAt3', iT_im, bT_im, rT_sl, okT_i, okT_b, okT_s, Bool.and_true, cond_true, hfa, fitS hlen, sApp_eq]
 rw [sPut_eq, ← List.nil_append (putW A rs), ← hI]
 cases (rs.foldl (stP A) ([], false)).2 <;> rfl
theorem rowK6 (r : List T) : rowK 6 r = [tI (cI r 0), tI (cI r 1), tI (cI r 2), tI (cI r 3), tI (cI r 4), tI (cI r 5)] := rfl
theorem order_K (x y : List T) : mOrder (rowK 6 x) (rowK 6 y) = mOrder x y := by
 rw [rowK6, rowK6, mOrder_eq, mOrder_eq]
 simp only [cI0, cI1]
theorem good_Sort {l : List (Nat × GFn)} (hlook : look l 93 = gOrder) (hl : Good Go.Proofs.Try.prog md0 (fun _ => .own) l) : Good Go.Proofs.Try.prog md0 (fun _ => .own) ((117, gSort 93) :: l) := .ext (fun xs pos h hG => by
 unfold gSort at h ⊢
 split at h
 ·rename_i rs g'
  rw [Bool.and_eq_true] at h
  obtain rfl := beq_eq h.1
  obtain ⟨hs, _, hn⟩ := pEq3 h.2
  have hu : ∃ d, Go.Proofs.Try.prog.underlying (sortL_ren.t 24) = some d := Option.isSome_iff_exists.1 (by kernel_rfl)
  have hag : isAggT Go.Proofs.Try.prog (sortL_ren.t 24) = true := by kernel_rfl
  have hsz : sizeP Go.Proofs.Try.prog (sortL_ren.t 24) = 6 := by kernel_rfl
  rw [sSort_eq]
  refine sort_sound (ρ := sortL_ren) sortL (ms := modesOf (EE Go.Proofs.Try.prog md0 (fun _ => .own) l) 93) (k := 6) (cf := mOrder) (fun w => by rw [run_isAggT hu, hag]) (fun w => by rw [run_sizeP hu, hsz]) (by decide) (by decide) (fun x y => ?_) (fun x y => by kernel_rfl) swoAgg
   ⟨_, Go.Proofs.Try.func117, by kernel_rfl, by kernel_rfl⟩ (fun r hr => (row6' (shRs_mem hs hr)).symm) (Nat.lt_of_le_of_lt hn (by decide)) (by kernel_rfl)
  have := hG 93 [.ag (rowK 6 x), .ag (rowK 6 y)] [] (by
   show (look l 93 _ _).1 = true
   rw [hlook]
   show ((((rowK 6 x).all roT && (rowK 6 y).all roT) && sShR kAggT (rowK 6 x)) && sShR kAggT (rowK 6 y)) = true
   rw [sShR_eq, sShR_eq]; rfl)
  have e : ((EE Go.Proofs.Try.prog md0 (fun _ => .own) l).G 93 [.ag (rowK 6 x), .ag (rowK 6 y)] []).2 = oI (mOrder x y) := by
   show (look l 93 _ _).2 = _
   rw [hlook]
   show oI (mOrder (rowK 6 x) (rowK 6 y)) = _
   rw [order_K]
  rw [e] at this
  exact this
 ·cases h) hl
noncomputable def plc (out : List (List T)) : AL := out.zipIdx.map fun p => ((cI p.1 0, cI p.1 1), Value.int .i64 (p.2 : Int))
theorem plc_get (k : Int × Int) (out : List (List T)) : aGet k (plc out) = (out.findIdx? fun x => decide ((cI x 0, cI x 1) = k)).map fun (j : Nat) => Value.int .i64 (j : Int) := by
 have go : ∀ (out : List (List T)) (n : Nat), aGet k ((out.zipIdx n).map fun p => ((cI p.1 0, cI p.1 1), Value.int .i64 (p.2 : Int))) = (out.findIdx? fun x => decide ((cI x 0, cI x 1) = k)).map fun j => Value.int .i64 ((n + j : Nat) : Int) := by
  intro out
  induction out with
  | nil => intro n; rfl
  | cons x out ih =>
   intro n
   rw [List.zipIdx_cons, List.map_cons, aGet, List.find?_cons, List.findIdx?_cons]
   by_cases h : (cI x 0, cI x 1) = k
   ·rw [decide_eq_true h]; rfl
   ·rw [decide_eq_false h]
    have := ih (n + 1)
    rw [aGet] at this
    rw [this]
    cases out.findIdx? fun x => decide ((cI x 0, cI x 1) = k) with
    | none => rfl
    | some j => simp only [Option.map_some, Bool.false_eq_true, if_false]; congr 2; omega
 have := go out 0
 simp only [Nat.zero_add] at this
 exact this
theorem plc_same {out : List (List T)} {f : List T → List T} (h0 : ∀ x, cI (f x) 0 = cI x 0) (h1 : ∀ x, cI (f x) 1 = cI x 1) : plc (out.map f) = plc out := by
 unfold plc
 rw [List.zipIdx_map, List.map_map]
 refine List.map_congr_left fun p _ => ?_
 simp [h0, h1]
theorem plc_app (out : List (List T)) (r : List T) : plc (out ++ [r]) = plc out ++ [((cI r 0, cI r 1), .int .i64 (out.length : Int))] := by
 unfold plc
 rw [List.zipIdx_append, List.map_append]; simp
theorem aPut_none {k : Int × Int} {v : Value} : ∀ {L : AL}, aGet k L = none → aPut k v L = L ++ [(k, v)]
 | [], _ => rfl
 | p :: L, h => by
  rw [aGet, List.find?_cons] at h
  rw [aPut]
  by_cases hp : p.1 = k
  ·rw [decide_eq_true hp] at h; cases h
  ·rw [decide_eq_false hp] at h ⊢
   rw [cond_false, aPut_none h]; rfl
theorem find_key {out : List (List T)} {r : List T} : (out.findIdx? fun x => decide ((cI x 0, cI x 1) = (cI r 0, cI r 1))) = out.findIdx? fun x => sameWK x r := by
 congr 1
 funext x
 rw [Bool.eq_iff_iff, sameWK_iff, decide_eq_true_eq, Prod.mk.injEq]
theorem set_upd {out : List (List T)} {r : List T} {j : Nat} (hd : Dst out) (hj : j < out.length) (hs : sameWK out[j] r = true) : out.set j (mSum out[j] r) = out.map (upd1 r) := by
 refine List.ext_getElem (by simp) fun i h1 h2 => ?_
 rw [List.getElem_map, List.getElem_set]
 simp only [List.length_set] at h1
 by_cases e : j = i
 ·subst e
  rw [if_pos rfl, upd1, hs]; rfl
 ·rw [if_neg e]
  have : sameWK out[i] r = false := by
   rw [← Bool.not_eq_true, sameWK_iff]
   intro hq
   rw [sameWK_iff] at hs
   have hp := List.pairwise_iff_getElem.1 hd
   rcases Nat.lt_or_gt_of_ne e with h | h
   ·have := hp j i hj h1 h
    rw [← Bool.not_eq_true, sameWK_iff] at this
    exact this ⟨hs.1.trans hq.1.symm, hs.2.trans hq.2.symm⟩
   ·have := hp i j h1 hj h
    rw [← Bool.not_eq_true, sameWK_iff] at this
    exact this ⟨hq.1.trans hs.1.symm, hq.2.trans hs.2.symm⟩
  rw [upd1, this]; rfl
theorem mrg_dst {out : List (List T)} {r : List T} (h : Dst out) : Dst (mrg out r) := by
 rw [mrg]
 cases hq : out.any fun x => sameWK x r with
 | true =>
  rw [cond_true]
  refine List.pairwise_map.2 (h.imp fun {a b} q => ?_)
  rw [← Bool.not_eq_true, sameWK_iff] at q ⊢
  rw [upd1_0, upd1_0, upd1_1, upd1_1]; exact q
 | false =>
  rw [cond_false]
  rw [List.any_eq_false] at hq
  refine List.pairwise_append.2 ⟨h, List.pairwise_singleton _ _, fun a ha b hb => ?_⟩
  rw [List.mem_singleton] at hb
  subst hb
  simpa using hq a ha
theorem mrg_ok {out : List (List T)} {r : List T} {n : Nat} (h1 : shR kAggT r = true) (h2 : mAggOk r = true) (h : shRs kAggT out = true ∧ out.all mAggOk = true ∧ out.length ≤ n) : shRs kAggT (mrg out r) = true ∧ (mrg out r).all mAggOk = true ∧ (mrg out r).length ≤ n + 1 := by
 rw [shRs_all] at h ⊢
 rw [mrg]
 cases out.any fun x => sameWK x r with
 | true =>
  rw [cond_true, List.all_map, List.all_map, List.length_map]
  refine ⟨?_, ?_, by omega⟩
  ·rw [List.all_eq_true] at h ⊢
   intro x hx
   show shR kAggT (upd1 r x) = true
   unfold upd1
   cases sameWK x r with
   | true => exact sum_sh _ _
   | false => exact h.1 x hx
  ·have h3 := List.all_eq_true.1 h.2.1
   rw [List.all_eq_true]
   intro x hx
   show mAggOk (upd1 r x) = true
   unfold upd1
   cases sameWK x r with
   | true => exact sum_ok (h3 x hx) h2
   | false => exact h3 x hx
 | false =>
  rw [cond_false, List.all_append, List.all_append, h.1, h.2.1, List.all_cons, List.all_cons, h1, h2, List.length_append]
  exact ⟨rfl, rfl, by simp; omega⟩
theorem mrg_all {rs : List (List T)} (hs : shRs kAggT rs = true) (hok : rs.all mAggOk = true) : shRs kAggT (rs.foldl mrg []) = true ∧ (rs.foldl mrg []).all mAggOk = true ∧ (rs.foldl mrg []).length ≤ rs.length := by
 have go : ∀ (rs : List (List T)) (L : List (List T)) (n : Nat), shRs kAggT rs = true → rs.all mAggOk = true → (shRs kAggT L = true ∧ L.all mAggOk = true ∧ L.length ≤ n) →
   shRs kAggT (rs.foldl mrg L) = true ∧ (rs.foldl mrg L).all mAggOk = true ∧ (rs.foldl mrg L).length ≤ n + rs.length := by
  intro rs
  induction rs with
  | nil => exact fun L n _ _ h => h
  | cons r rs ih =>
   intro L n h1 h2 h
   rw [shRs, Bool.and_eq_true] at h1
   rw [List.all_cons, Bool.and_eq_true] at h2
   have := ih (mrg L r) (n + 1) h1.2 h2.2 (mrg_ok h1.1 h2.1 h)
   rw [List.foldl_cons, List.length_cons]
   exact ⟨this.1, this.2.1, by omega⟩
 have := go rs [] 0 hs hok ⟨by unfold shRs; rfl, rfl, Nat.le_refl _⟩
 rw [Nat.zero_add] at this
 exact this
theorem len6 {m : Nat} {L : List (List T)} (h : shRs kAggT L = true) : lenRs m L = true := by
 induction L with
 | nil => unfold lenRs; rfl
 | cons r L ih =>
  rw [shRs, Bool.and_eq_true] at h
  obtain ⟨a0, a1, a2, a3, a4, a5, rfl, _⟩ := row_Agg h.1
  rw [lenRs, ih h.2]; rfl
theorem pEq_of {L : List (List T)} (h1 : shRs kAggT L = true) (h2 : L.length ≤ reachBytes) : pEq kAggT L = true := by rw [pEq_eq, h1, len6 h1, decide_eq_true h2]; rfl
theorem set6 {out : List (List T)} {j : Nat} (h : shRs kAggT out = true) (hj : j < out.length) (a b : List T) : sSetRow out ((j : Int)).toNat 0 (mSum a b) = out.set j (mSum a b) := by
 rw [sSetRow_eq, setRow, splice]
 obtain ⟨a0, a1, a2, a3, a4, a5, e, _⟩ := row_Agg (shRs_get h hj)
 have : out.getD ((j : Int)).toNat [] = out[j] := by simp [List.getD, hj]
 rw [this, e]; rfl
theorem b_folded {rs : List (List T)} (h : pAgg rs = true) : body lp0 ET65 65 [.c (.sl .ro 6 rs)] [] = some (.ret ⟨[.c (.sl .own 6 (sFold rs))], [], []⟩) := by
 obtain ⟨hs, hok, hn⟩ := pAgg_iff.1 h
 rw [nf_65]
 rw [(lp0_foldl (ds0 := [.sl .own 6 [], .sl .own 3 [], tI (Int.ofNat 0), tI 0]) rs (fun i out => [.sl .own 6 out, .sl .own 3 ((plc out).map mRow), tI ((out.length : Nat) : Int), tI (i : Int)]) mrg
  (fun i out => (shRs kAggT out = true ∧ out.all mAggOk = true ∧ out.length ≤ i) ∧ Dst out) (fun out => [.sl .own 6 out, .sl .own 3 ((plc out).map mRow), tI ((out.length : Nat) : Int), tI (rs.length : Int)]) [] rfl ⟨⟨by unfold shRs; rfl, rfl, Nat.le_refl _⟩, List.Pairwise.nil⟩ (fun i out hi hI => ?step) (fun out hI => ?fin)).2]
 case step =>
  obtain ⟨⟨o1, o2, o3⟩, o4⟩ := hI
  have hr := shRs_get hs hi
  have hok' := List.all_eq_true.1 hok _ (List.getElem_mem hi)
  refine ⟨?_, mrg_ok hr hok' ⟨o1, o2, o3⟩, mrg_dst o4⟩
  simp only [tAt0, tAt1, tAt2, tAt3', iT_im, bT_im, rT_sl, okT_i, okT_b, okT_s, Bool.and_true, cond_true, lt_len hi, le_0, agg_okc hs hi, cI_at hi, row6 hs hi, sh_get hs hi, hok', add1i (Nat.lt_of_lt_of_le hi (Nat.le_trans hn (by decide)))]
  rw [show [Value.int .i64 (cI rs[i] 0), .int .i64 (cI rs[i] 1)] = K2 (cI rs[i] 0) (cI rs[i] 1) from rfl, mHas_row, mGet_row, plc_get, find_key]
  cases hf : out.findIdx? fun x => sameWK x rs[i] with
  | none =>
   have hany : (out.any fun x => sameWK x rs[i]) = false := by
    rw [List.findIdx?_eq_none_iff] at hf
    rw [List.any_eq_false]
    intro x hx; rw [hf x hx]; simp
   have hno : aGet (cI rs[i] 0, cI rs[i] 1) (plc out) = none := by rw [plc_get, find_key, hf]; rfl
   simp only [Option.map_none, Option.isSome_none, cond_false, flat6 hr, fitS (show out.length ≤ 4294967294 by omega), cond_true, sApp_eq, mPut_row, ofN, aPut_none hno, ← plc_app]
   rw [mrg, hany, cond_false]
   simp only [sLen_eq, natI]
  | some j =>
   obtain ⟨hj, hjs, _⟩ := List.findIdx?_eq_some_iff_getElem.1 hf
   have hany : (out.any fun x => sameWK x rs[i]) = true := List.any_eq_true.2 ⟨_, List.getElem_mem hj, hjs⟩
   have hlt : sLt (j : Int) (out.length : Int) = true := by rw [sLt_eq]; exact decide_eq_true (by omega)
   have hoj := List.all_eq_true.1 o2 _ (List.getElem_mem hj)
   simp only [Option.map_some, Option.isSome_some, cond_true, iT_im, le_0, ofN, hlt, Bool.and_true, agg_okc o1 hj, cI_at hj, row6 o1 hj, sh_get o1 hj, hoj, sm6, set6 o1 hj]
   rw [mrg, hany, cond_true, set_upd o4 hj hjs, plc_same (upd1_0 _) (upd1_1 _), List.length_map]
 case fin => simp only [tAt0, tAt1, tAt2, tAt3', iT_im, bT_im, rT_sl, okT_i, okT_b, okT_s, Bool.and_true, cond_true, cond_false, lt_len', ofN]
 obtain ⟨k1, k2, k3⟩ := mrg_all hs hok
 have e := folded_eq rs
 have nr : sNoRo (.sl .own 6 (foldW rs)) = true := noRo6 (foldW_ok hs hok).1
 simp only [Option.elim_some, LRes.elim', tAt0, tAt1, tAt2, tAt3', iT_im, bT_im, rT_sl, okT_i, okT_b, okT_s, Bool.and_true, cond_true, pEq_of k1 (Nat.le_trans k3 (Nat.le_trans hn (by decide))), sSort_eq, e, List.getD_cons_zero, nr, sFold_eq]
theorem pTo3 {row : List KT} {rs : List (List T)} (h : pTo row rs = true) : shRs row rs = true ∧ lenRs 1048576 rs = true ∧ rs.length ≤ 1048576 := by
 rw [pTo_eq] at h
 simp only [Bool.and_eq_true, decide_eq_true_eq] at h
 exact ⟨h.1.1, h.1.2, h.2⟩
theorem pAgg_of {L : List (List T)} (h : shRs kAggT L = true ∧ L.all mAggOk = true ∧ L.length ≤ 4194304) : pAgg L = true := pAgg_iff.2 h
theorem frame_okc {rs : List (List T)} {i : Nat} (hs : shRs kFrame rs = true) (hi : i < rs.length) : sOkC [.int .i64, .int .i64, .int .i64, .int .i64] rs (i : Int).toNat 0 = true := okc_sh' hs hi
theorem row4 {r : List T} (h : shR kFrame r = true) : [tI (cI r 0), tI (cI r 1), tI (cI r 2), tI (cI r 3)] = r := by
 obtain ⟨a0, a1, a2, a3, rfl, _⟩ := row_Frame h
 simp only [cI0, cI1, cI2, cI3]
theorem ev_ok {r : List T} {n : Int} (h : mIsEvent r = true) (hn : mIn n 1 1000000 = true) : mAggOk (evA n r) = true := by
 rw [mIsEvent_eq, Bool.and_eq_true, decide_eq_true_eq, mFrameOk_eq] at h
 obtain ⟨h0, h1⟩ := h
 rw [h0] at h1
 simp only [show decide ((1 : Int) = 1) = true from rfl, show decide ((1 : Int) = 2) = false from rfl, show decide ((1 : Int) = 3) = false from rfl, Bool.true_and, Bool.false_and, Bool.or_false, Bool.and_eq_true, mIn_eq, decide_eq_true_eq] at h1 hn
 rw [aggOk_iff]
 unfold evA
 simp only [cI0, cI1, cI2, cI3, cI4, cI5]
 have e : mWin (cI r 2) n = (cI r 2).tdiv n := by
  rw [mWin, if_pos (by simp only [Bool.and_eq_true, mIn_eq, decide_eq_true_eq]; omega)]
 rw [e]
 have := Int.tdiv_le_self n (show 0 ≤ cI r 2 by omega)
 have := Int.tdiv_nonneg (a := cI r 2) (b := n) (by omega) (by omega)
 omega
theorem ev_sh (n : Int) (r : List T) : shR kAggT (evA n r) = true := rfl
theorem evA_s (n : Int) (r : List T) : [tI (sWin (cI r 2) n), tI (cI r 1), tI 1, tI (cI r 3), tI (cI r 3), tI (cI r 3)] = evA n r := by rw [sWin_eq]; rfl
theorem fa_guard (n : Int) (rs : List (List T)) : ((!mIn n 1 1000000) || sLt 300 (Int.ofNat (sLen rs))) = !(mIn n 1 1000000 && decide (rs.length ≤ 300)) := by
 rw [Bool.not_and, sLt_eq, sLen_eq]
 congr 1
 rw [← decide_not]
 exact decide_eq_decide.2 (by show (300 : Int) < (rs.length : Int) ↔ _; omega)
theorem ofO (c b : Bool) : (bif !c then some [Value.bool true] else some [Value.bool b]) = some [.bool ((!c) || b)] := by cases c <;> rfl
theorem filt_foldl {β : Type} (q : List T → Bool) (e : List T → List T) (g : β → List T → β) (rs : List (List T)) (b : β) : rs.foldl (fun L r => bif q r then g L (e r) else L) b = ((rs.filter q).map e).foldl g b := by
 rw [List.foldl_map, List.foldl_filter]
 congr 1
 funext L r
 cases q r <;> rfl
theorem b_fa_spec {rs : List (List T)} {n : Int} (h : pTo kFrame rs = true) : body lp0 ET69 31 [.c (.sl .ro 4 rs), aI n] [] = some (.ret ⟨[.c (.sl .own 6 (sFA rs n))], [], []⟩) := by
 obtain ⟨hs, _, hn⟩ := pTo3 h
 rw [nf_31, sFA_eq]
 simp only [ofO, fa_guard, Option.elim_some, vAt0, okVl_b, bV_b, Bool.and_true, cond_true]
 cases hg : mIn n 1 1000000 && decide (rs.length ≤ 300) with
 | false => rfl
 | true =>
  rw [Bool.and_eq_true] at hg
  simp only [Bool.not_true, cond_false, cond_true]
  rw [(lp0_foldl (ds0 := [.sl .own 6 [], tI (Int.ofNat 0), tI 0]) rs (fun i L => [.sl .own 6 L, tI ((L.length : Nat) : Int), tI (i : Int)]) (fun L r => bif mIsEvent r then putW (evA n r) L else L)
   (fun i L => shRs kAggT L = true ∧ L.all mAggOk = true ∧ L.length ≤ i) (fun L => [.sl .own 6 L, tI ((L.length : Nat) : Int), tI (rs.length : Int)]) [] rfl ⟨by unfold shRs; rfl, rfl, Nat.le_refl _⟩ (fun i L hi hI => ?step) (fun L hI => ?fin)).2]
  case step =>
   have hr := shRs_get hs hi
   have hE : mIsEvent rs[i] = (mFrameOk rs[i] && decide (cI rs[i] 0 = 1)) := by rw [mIsEvent_eq, Bool.and_comm]
   have hP : pAgg L = true := pAgg_of ⟨hI.1, hI.2.1, by omega⟩
   simp only [tAt0, tAt1, tAt2, iT_im, bT_im, rT_sl, okT_i, okT_b, okT_s, Bool.and_true, cond_true, lt_len hi, le_0, frame_okc hs hi, cI_at hi, row4 hr, sh_get hs hi, add1i (Nat.lt_of_lt_of_le hi (Nat.le_trans hn (by decide))), evA_s, hP, sPut_eq, sEq_eq, ofN]
   cases he : mIsEvent rs[i] with
   | false =>
    refine ⟨?_, by simp only [cond_false]; exact ⟨hI.1, hI.2.1, by omega⟩⟩
    rw [hE] at he
    cases h1 : mFrameOk rs[i] with
    | false => simp only [cond_false, Option.elim_some, vAt0, okVl_b, bV_b, Bool.and_true, cond_true]
    | true =>
     rw [h1, Bool.true_and] at he
     simp only [he, cond_false, Option.elim_some, vAt0, okVl_b, bV_b, Bool.and_true, cond_true]
   | true =>
    have hev := ev_ok he hg.1
    have hp := pAgg_put (ev_sh n rs[i]) hev hI
    refine ⟨?_, by simp only [cond_true]; exact hp⟩
    rw [hE, Bool.and_eq_true] at he
    have hsh : sShR kAggT (evA n rs[i]) = true := by rw [sShR_eq]; rfl
    simp only [he.1, he.2, cond_false, Option.elim_some, vAt0, okVl_b, bV_b, Bool.and_true, cond_true, hsh, hev, noRo6 hp.1, sLen_eq, natI]
  case fin => simp only [tAt0, tAt1, tAt2, iT_im, bT_im, rT_sl, okT_i, okT_b, okT_s, Bool.and_true, cond_true, cond_false, lt_len', ofN]
  simp only [Option.elim_some, LRes.elim', tAt0, tAt1, tAt2, rT_sl, okT_i, okT_s, Bool.and_true, cond_true]
  rw [filt_foldl mIsEvent (evA n) (fun L a => putW a L)]; rfl
theorem b_fa_impl {rs : List (List T)} {n : Int} (h : pTo kFrame rs = true) : body lp0 ET70 33 [.c (.sl .ro 4 rs), aI n] [] = some (.ret ⟨[.c (.sl .own 6 (sFA rs n))], [], []⟩) := by
 obtain ⟨hs, _, hn⟩ := pTo3 h
 rw [nf_33, sFA_eq]
 simp only [ofO, fa_guard, Option.elim_some, vAt0, okVl_b, bV_b, Bool.and_true, cond_true]
 cases hg : mIn n 1 1000000 && decide (rs.length ≤ 300) with
 | false => rfl
 | true =>
  rw [Bool.and_eq_true] at hg
  simp only [Bool.not_true, cond_false, cond_true]
  have eo : ∀ r : List T, [tI (sWin (cI r 2) n), tI (cI r 1), tI (Int.ofNat 1), tI (cI r 3), tI (cI r 3), tI (cI r 3)] = evA n r := evA_s n
  rw [(lp0_foldl (ds0 := [.sl .own 6 [], tI (Int.ofNat 0), tI 0]) rs (fun i L => [.sl .own 6 L, tI ((L.length : Nat) : Int), tI (i : Int)]) (fun L r => bif mIsEvent r then L ++ [evA n r] else L)
   (fun i L => L.length ≤ i) (fun L => [.sl .own 6 L, tI ((L.length : Nat) : Int), tI (rs.length : Int)]) [] rfl (Nat.le_refl _) (fun i L hi hI => ?step) (fun L hI => ?fin)).2]
  case step =>
   have hr := shRs_get hs hi
   simp only [tAt0, tAt1, tAt2, iT_im, bT_im, rT_sl, okT_i, okT_b, okT_s, Bool.and_true, cond_true, lt_len hi, le_0, frame_okc hs hi, cI_at hi, row4 hr, sh_get hs hi, add1i (Nat.lt_of_lt_of_le hi (Nat.le_trans hn (by decide))), eo, evA_s, flat6 (ev_sh n rs[i]), fitS (show L.length ≤ 4294967294 by omega), sApp_eq, ofN]
   cases mIsEvent rs[i] with
   | false => exact ⟨by simp only [cond_false], by simp only [cond_false]; omega⟩
   | true => exact ⟨by simp only [cond_true, sLen_eq, natI], by simp only [cond_true, List.length_append, List.length_singleton]; omega⟩
  case fin => simp only [tAt0, tAt1, tAt2, iT_im, bT_im, rT_sl, okT_i, okT_b, okT_s, Bool.and_true, cond_true, cond_false, lt_len', ofN]
  have e : rs.foldl (fun L r => bif mIsEvent r then L ++ [evA n r] else L) [] = (rs.filter mIsEvent).map (evA n) := by
   rw [filt_foldl mIsEvent (evA n) (fun L a => L ++ [a])]
   have go : ∀ (xs L : List (List T)), xs.foldl (fun L a => L ++ [a]) L = L ++ xs := by
    intro xs
    induction xs with
    | nil => intro L; simp
    | cons x xs ih => intro L; rw [List.foldl_cons, ih]; simp
   rw [go]; rfl
  have hq : shRs kAggT ((rs.filter mIsEvent).map (evA n)) = true ∧ ((rs.filter mIsEvent).map (evA n)).all mAggOk = true ∧ ((rs.filter mIsEvent).map (evA n)).length ≤ rs.length := by
   refine ⟨?_, ?_, by rw [List.length_map]; exact List.length_filter_le _ _⟩
   ·rw [shRs_all, List.all_map, List.all_eq_true]; exact fun x _ => ev_sh n x
   ·rw [List.all_map, List.all_eq_true]
    exact fun x hx => ev_ok (List.mem_filter.1 hx).2 hg.1
  simp only [Option.elim_some, LRes.elim', tAt0, tAt1, tAt2, rT_sl, okT_i, okT_s, Bool.and_true, cond_true, e, pAgg_of ⟨hq.1, hq.2.1, by omega⟩, sFold_eq, noRo6 (foldW_ok hq.1 hq.2.1).1]
theorem win0_s {rs : List (List T)} {i : Nat} (hi : i < rs.length) : [tI 0, tI (cI rs[i] 1), tI (cI rs[i] 2), tI (cI rs[i] 3), tI (cI rs[i] 4), tI (cI rs[i] 5)] = win0 rs[i] := rfl
theorem win0_sh (r : List T) : shR kAggT (win0 r) = true := rfl
theorem win0_ok {r : List T} (h : mAggOk r = true) : mAggOk (win0 r) = true := by
 rw [aggOk_iff] at h ⊢
 unfold win0
 simp only [cI0, cI1, cI2, cI3, cI4, cI5]
 omega
theorem win0_all {rs : List (List T)} (h : rs.all mAggOk = true) : shRs kAggT (rs.map win0) = true ∧ (rs.map win0).all mAggOk = true := by
 refine ⟨?_, ?_⟩
 ·rw [shRs_all, List.all_map, List.all_eq_true]; exact fun x _ => win0_sh x
 ·rw [List.all_map, List.all_eq_true]; exact fun x hx => win0_ok (List.all_eq_true.1 h x hx)
theorem b_kt_spec {rs : List (List T)} (h : pTo kAggT rs = true) : body lp0 ET71 24 [.c (.sl .ro 6 rs)] [] = some (.ret ⟨[.c (.sl .own 6 (sKT rs))], [], []⟩) := by
 obtain ⟨hs, _, hn⟩ := pTo3 h
 rw [nf_24, sKT_eq, pTo_pEq h, cond_true, mAreAggs_eq]
 cases hok : rs.all mAggOk with
 | false => rfl
 | true =>
  simp only [Bool.not_true, cond_false, cond_true]
  rw [(lp0_foldl (ds0 := [.sl .own 6 [], tI (Int.ofNat 0), tI 0]) rs (fun i L => [.sl .own 6 L, tI ((L.length : Nat) : Int), tI (i : Int)]) (fun L r => putW (win0 r) L)
   (fun i L => shRs kAggT L = true ∧ L.all mAggOk = true ∧ L.length ≤ i) (fun L => [.sl .own 6 L, tI ((L.length : Nat) : Int), tI (rs.length : Int)]) [] rfl ⟨by unfold shRs; rfl, rfl, Nat.le_refl _⟩ (fun i L hi hI => ?step) (fun L hI => ?fin)).2]
  case step =>
   have hev := win0_ok (List.all_eq_true.1 hok _ (List.getElem_mem hi))
   have hp := pAgg_put (win0_sh rs[i]) hev hI
   have hP : pAgg L = true := pAgg_of ⟨hI.1, hI.2.1, by omega⟩
   have hsh : sShR kAggT (win0 rs[i]) = true := by rw [sShR_eq]; rfl
   refine ⟨?_, hp⟩
   simp only [tAt0, tAt1, tAt2, iT_im, bT_im, rT_sl, okT_i, okT_b, okT_s, Bool.and_true, cond_true, lt_len hi, le_0, agg_okc hs hi, cI_at hi, win0_s hi, hsh, hev, hP, add1i (Nat.lt_of_lt_of_le hi (Nat.le_trans hn (by decide))), sPut_eq, noRo6 hp.1]
   simp only [sLen_eq, natI]
  case fin => simp only [tAt0, tAt1, tAt2, iT_im, bT_im, rT_sl, okT_i, okT_b, okT_s, Bool.and_true, cond_true, cond_false, lt_len', ofN]
  simp only [Option.elim_some, LRes.elim', tAt0, tAt1, tAt2, rT_sl, okT_i, okT_s, Bool.and_true, cond_true]
  rw [foldW, List.foldl_map]
theorem pFl_of {rs : List (List T)} (hs : shRs kAggT rs = true) (hn : rs.length ≤ 2147483647) : pFl kAggT rs = true := by rw [pFl_eq, hs, decide_eq_true hn]; rfl
theorem b_kt_impl {rs : List (List T)} (h : pTo kAggT rs = true) : body lp0 ET72 25 [.c (.sl .ro 6 rs)] [] = some (.ret ⟨[.c (.sl .own 6 (sKT rs))], [], []⟩) := by
 obtain ⟨hs, _, hn⟩ := pTo3 h
 rw [nf_25, sKT_eq, pTo_pEq h, cond_true, mAreAggs_eq]
 cases hok : rs.all mAggOk with
 | false => rfl
 | true =>
  obtain ⟨w1, w2⟩ := win0_all hok
  simp only [Bool.not_true, cond_false, cond_true, pFl_of hs (show rs.length ≤ 2147483647 by omega), noRo6 hs, Bool.and_true]
  rw [lp0_for0 (ds0 := [.sl .own 6 rs, tI 0]) (fun i => [.sl .own 6 ((rs.take i).map win0 ++ rs.drop i), tI (i : Int)]) rs.length (x := [.sl .own 6 (rs.map win0), tI (rs.length : Int)]) (by simp) (fun i hi => ?step) ?fin]
  case step =>
   have hl : (rs.take i).length = i := by rw [List.length_take]; omega
   have hl2 : ((rs.take i).map win0).length = i := by rw [List.length_map, hl]
   have hset : sSetRow ((rs.take i).map win0 ++ rs.drop i) (i : Int).toNat 0 [tI 0] = (rs.take (i + 1)).map win0 ++ rs.drop (i + 1) := by
    rw [sSetRow_eq, setRow, Int.toNat_natCast, splice]
    have hg : ((rs.take i).map win0 ++ rs.drop i).getD i [] = rs[i] := by
     rw [List.getD_eq_getElem?_getD, List.getElem?_append_right (by omega), hl2, Nat.sub_self, List.getElem?_drop, Nat.add_zero, List.getElem?_eq_getElem hi]; rfl
    rw [hg]
    have he : List.take 0 rs[i] ++ [tI 0] ++ rs[i].drop (0 + [tI (0 : Int)].length) = win0 rs[i] := by
     obtain ⟨a0, a1, a2, a3, a4, a5, e, _⟩ := row_Agg (shRs_get hs hi)
     rw [e]; unfold win0; simp only [cI1, cI2, cI3, cI4, cI5]; rfl
    rw [he, List.set_append_right _ _ (by omega), hl2, Nat.sub_self, List.drop_eq_getElem_cons hi, List.set_cons_zero, List.take_succ_eq_append_getElem hi, List.map_append]
    simp
   have hL : sLen ((rs.take i).map win0 ++ rs.drop i) = rs.length := by rw [sLen_eq, List.length_append, hl2, List.length_drop]; omega
   simp only [tAt0, tAt1, iT_im, rT_sl, okT_i, okT_s, Bool.and_true, cond_true, lt_len hi, le_0, add1i (Nat.lt_of_lt_of_le hi (Nat.le_trans hn (by decide))), hset]
  case fin => simp only [tAt0, tAt1, iT_im, rT_sl, okT_i, okT_s, Bool.and_true, cond_true, cond_false, lt_len', List.take_length, List.drop_length, List.append_nil]
  simp only [Option.elim_some, LRes.elim', tAt0, tAt1, rT_sl, okT_i, okT_s, Bool.and_true, cond_true, pAgg_of ⟨w1, w2, by rw [List.length_map]; omega⟩, sFold_eq, noRo6 (foldW_ok w1 w2).1]
theorem b_ml_impl {rs ss : List (List T)} (h1 : pTo kAggT rs = true) (h2 : pTo kAggT ss = true) : body lp0 ET76 29 [.c (.sl .ro 6 rs), .c (.sl .ro 6 ss)] [] = some (.ret ⟨[.c (.sl .own 6 (sML rs ss))], [], []⟩) := by
 obtain ⟨hs1, _, hn1⟩ := pTo3 h1
 obtain ⟨hs2, _, hn2⟩ := pTo3 h2
 have hs : shRs kAggT (rs ++ ss) = true := by rw [shRs_all] at *; rw [List.all_append, hs1, hs2]; rfl
 have hl : (rs ++ ss).length ≤ 4194304 := by rw [List.length_append]; omega
 rw [nf_29, sML_eq, sApp_eq, ← List.all_append]
 simp only [pFl_of hs1 (show rs.length ≤ 2147483647 by omega), pFl_of hs2 (show ss.length ≤ 2147483647 by omega), noRo6 hs, pEq_of hs (Nat.le_trans hl (by decide)), Bool.and_true, cond_true, mAreAggs_eq]
 cases hok : (rs ++ ss).all mAggOk with
 | false => rfl
 | true => simp only [Bool.not_true, cond_false, cond_true, pAgg_of ⟨hs, hok, hl⟩, sFold_eq, noRo6 (foldW_ok hs hok).1, Bool.and_true]
theorem b_ml_spec {rs ss : List (List T)} (h1 : pTo kAggT rs = true) (h2 : pTo kAggT ss = true) : body lp0 ET73 28 [.c (.sl .ro 6 rs), .c (.sl .ro 6 ss)] [] = some (.ret ⟨[.c (.sl .own 6 (sML rs ss))], [], []⟩) := by
 obtain ⟨hs1, _, hn1⟩ := pTo3 h1
 obtain ⟨hs2, _, hn2⟩ := pTo3 h2
 rw [nf_28, sML_eq, pTo_pEq h1, pTo_pEq h2, cond_true, cond_true, mAreAggs_eq, mAreAggs_eq, ofO]
 simp only [Option.elim_some, vAt0, okVl_b, bV_b, Bool.and_true, cond_true]
 rw [← Bool.not_and]
 cases hok : rs.all mAggOk && ss.all mAggOk with
 | false => rfl
 | true =>
  rw [Bool.and_eq_true] at hok
  simp only [Bool.not_true, cond_false, cond_true]
  obtain ⟨f1, f2, f3⟩ := foldW_ok hs1 hok.1
  rw [(lp0_foldl (ds0 := [.sl .own 6 [], tI (Int.ofNat 0), tI 0]) rs (fun i L => [.sl .own 6 L, tI ((L.length : Nat) : Int), tI (i : Int)]) (fun L r => putW r L)
   (fun i L => shRs kAggT L = true ∧ L.all mAggOk = true ∧ L.length ≤ i) (fun L => [.sl .own 6 L, tI ((L.length : Nat) : Int), tI (rs.length : Int)]) [] rfl ⟨by unfold shRs; rfl, rfl, Nat.le_refl _⟩ (fun i L hi hI => ?step) (fun L hI => ?fin)).2]
  case step =>
   have hr := shRs_get hs1 hi
   have hev := List.all_eq_true.1 hok.1 _ (List.getElem_mem hi)
   have hp := pAgg_put hr hev hI
   have hP : pAgg L = true := pAgg_of ⟨hI.1, hI.2.1, by omega⟩
   refine ⟨?_, hp⟩
   simp only [tAt0, tAt1, tAt2, iT_im, bT_im, rT_sl, okT_i, okT_b, okT_s, Bool.and_true, cond_true, lt_len hi, le_0, agg_okc hs1 hi, cI_at hi, row6 hs1 hi, sh_get hs1 hi, hev, hP, add1i (Nat.lt_of_lt_of_le hi (Nat.le_trans hn1 (by decide))), sPut_eq, noRo6 hp.1]
   simp only [sLen_eq, natI]
  case fin => simp only [tAt0, tAt1, tAt2, iT_im, bT_im, rT_sl, okT_i, okT_b, okT_s, Bool.and_true, cond_true, cond_false, lt_len', ofN]
  simp only [Option.elim_some, LRes.elim', tAt0, tAt1, tAt2, iT_im, rT_sl, okT_i, okT_s, Bool.and_true, cond_true, ofN]
  rw [show rs.foldl (fun L r => putW r L) [] = foldW rs from rfl]
  rw [(lp0_foldl (ds0 := [.sl .own 6 (foldW rs), tI ((foldW rs).length : Int), tI 0]) ss (fun i L => [.sl .own 6 L, tI ((L.length : Nat) : Int), tI (i : Int)]) (fun L r => putW r L)
   (fun i L => shRs kAggT L = true ∧ L.all mAggOk = true ∧ L.length ≤ rs.length + i) (fun L => [.sl .own 6 L, tI ((L.length : Nat) : Int), tI (ss.length : Int)]) (foldW rs) rfl ⟨f1, f2, by omega⟩ (fun i L hi hI => ?step2) (fun L hI => ?fin2)).2]
  case step2 =>
   have hr := shRs_get hs2 hi
   have hev := List.all_eq_true.1 hok.2 _ (List.getElem_mem hi)
   have hp := pAgg_put hr hev hI
   have hP : pAgg L = true := pAgg_of ⟨hI.1, hI.2.1, by omega⟩
   refine ⟨?_, hp⟩
   simp only [tAt0, tAt1, tAt2, iT_im, bT_im, rT_sl, okT_i, okT_b, okT_s, Bool.and_true, cond_true, lt_len hi, le_0, agg_okc hs2 hi, cI_at hi, row6 hs2 hi, sh_get hs2 hi, hev, hP, add1i (Nat.lt_of_lt_of_le hi (Nat.le_trans hn2 (by decide))), sPut_eq, noRo6 hp.1]
   simp only [sLen_eq, natI]
  case fin2 => simp only [tAt0, tAt1, tAt2, iT_im, bT_im, rT_sl, okT_i, okT_b, okT_s, Bool.and_true, cond_true, cond_false, lt_len', ofN]
  simp only [Option.elim_some, LRes.elim', tAt0, tAt1, tAt2, rT_sl, okT_i, okT_s, Bool.and_true, cond_true]
  rw [foldW, foldW, List.foldl_append]
theorem good60 : Good Go.Proofs.Try.prog md0 (fun _ => .own) TL60 := good_Cap (b_cap) good59
theorem good61 : Good Go.Proofs.Try.prog md0 (fun _ => .own) TL61 := good_Cap (b_sumOf) good60
theorem good62 : Good Go.Proofs.Try.prog md0 (fun _ => .own) TL62 := good_Sum (fun h1 h2 h3 h4 => b_sum h1 h2 h3 h4) good61
theorem good63 : Good Go.Proofs.Try.prog md0 (fun _ => .own) TL63 := good_Sum (fun h1 h2 h3 h4 => b_merged h1 h2 h3 h4) good62
theorem good64 : Good Go.Proofs.Try.prog md0 (fun _ => .own) TL64 := good_Put (fun h1 h2 => b_put h1 h2) good63
theorem good65 : Good Go.Proofs.Try.prog md0 (fun _ => .own) TL65 := good_Sort (by kernel_rfl) good64
theorem good66 : Good Go.Proofs.Try.prog md0 (fun _ => .own) TL66 := good_Fold (fun h => b_folded h) good65
theorem good67 : Good Go.Proofs.Try.prog md0 (fun _ => .own) TL67 := good_Win (b_win_spec) good66
theorem good68 : Good Go.Proofs.Try.prog md0 (fun _ => .own) TL68 := good_Win (b_win_impl) good67
theorem good69 : Good Go.Proofs.Try.prog md0 (fun _ => .own) TL69 := good_AggOf (b_aggOf) good68
theorem good70 : Good Go.Proofs.Try.prog md0 (fun _ => .own) TL70 := good_FA (fun h => b_fa_spec h) good69
theorem good71 : Good Go.Proofs.Try.prog md0 (fun _ => .own) TL71 := good_FA (fun h => b_fa_impl h) good70
theorem good72 : Good Go.Proofs.Try.prog md0 (fun _ => .own) TL72 := good_KT (fun h => b_kt_spec h) good71
theorem good73 : Good Go.Proofs.Try.prog md0 (fun _ => .own) TL73 := good_KT (fun h => b_kt_impl h) good72
theorem good74 : Good Go.Proofs.Try.prog md0 (fun _ => .own) TL74 := good_ML (fun h1 h2 => b_ml_spec h1 h2) good73
theorem good75 : Good Go.Proofs.Try.prog md0 (fun _ => .own) TL75 := good_GrowA (b_growA) good74
theorem good76 : Good Go.Proofs.Try.prog md0 (fun _ => .own) TL76 := good_ConcatA (b_concatA) good75
theorem good77 : Good Go.Proofs.Try.prog md0 (fun _ => .own) TL77 := good_ML (fun h1 h2 => b_ml_impl h1 h2) good76

end Go.Vm
