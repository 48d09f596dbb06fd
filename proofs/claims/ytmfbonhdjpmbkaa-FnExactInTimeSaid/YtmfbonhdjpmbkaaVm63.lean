/- the functions of InTime, each -/
import Derived.Test.YtmfbonhdjpmbkaaVm62
namespace Go.Vm
set_option linter.unusedVariables false
set_option linter.unusedSimpArgs false

theorem mIn_eq (a lo hi : Int) : mIn a lo hi = (decide (lo ≤ a) && decide (a ≤ hi)) := by rw [mIn, sld_eq]
theorem mAggOk_eq (a b c d e f : Int) : mAggOk a b c d e f = (mIn a 0 1000000 && mIn b 0 65535 && mIn c 1 1000000000 && mIn d (-1000000000) 1000000000 && mIn e (-1000000) 1000000 && mIn f (-1000000) 1000000 && decide (e ≤ f)) := by rw [mAggOk, sld_eq]
theorem mWinEnd_eq (w s : Int) : mWinEnd w s = if mIn w 0 1000000 && mIn s 1 1000000 then (w + 1) * s - 1 else -1 := by rw [mWinEnd, sld_eq]
theorem pAggs_eq (rs : List (List T)) : pAggs rs = (decide (rs.length ≤ 1048576) && rs.all (okRow kAgg)) := by rw [pAggs, sld_eq]
theorem mAllOk_eq (rs : List (List T)) : mAllOk rs = rs.all rAggOk := by rw [mAllOk, sld_eq]
theorem mLate_eq (s n a b c d e f : Int) : mLate s n a b c d e f = (!mAggOk a b c d e f || !mIn s 1 1000000 || decide (n < mWinEnd a s)) := by rw [mLate, sld_eq]
noncomputable def rLate (s n : Int) (r : List T) : Bool := mLate s n (cI r 0) (cI r 1) (cI r 2) (cI r 3) (cI r 4) (cI r 5)
theorem mLateAt_eq (rs : List (List T)) (s n : Int) : mLateAt rs s n = match rs.findIdx? (rLate s n) with | some i => (i : Int) | none => -1 := by rw [mLateAt, sld_eq]; rfl
theorem mInTime_eq (rs : List (List T)) (s n : Int) : mInTime rs s n = decide (mLateAt rs s n = -1) := by rw [mInTime, sld_eq]
theorem mSz_eq (rs : List (List T)) (n : Int) : mSz rs n = if n < rs.length then -1 else n - rs.length := by rw [mSz, sld_eq]
theorem pSz_eq (rs : List (List T)) (n : Int) : pSz rs n = (decide (rs.length ≤ 140737488355327) && decide (-1 ≤ n) && decide (n ≤ 1048576)) := by rw [pSz, sld_eq]
theorem mEqAgg_eq (a b c d e f a' b' c' d' e' f' : Int) : mEqAgg a b c d e f a' b' c' d' e' f' = (decide (a = a') && decide (b = b') && decide (c = c') && decide (d = d') && decide (e = e') && decide (f = f')) := by rw [mEqAgg, sld_eq]

theorem b_in (a b c : Int) : body lp0 ET0 51 [aI a, aI b, aI c] [] = some (.ret (oB (mIn a b c))) := by
  rw [nf_51, sLe_eq, sLe_eq, mIn_eq]
  cases decide (b ≤ a) <;> simp [vAt0, okVl_b, bV_b]
theorem b_in' (a b c : Int) : body lp0 ET1 54 [aI a, aI b, aI c] [] = some (.ret (oB (mIn a b c))) := by
  rw [nf_54, sLe_eq, sLe_eq, mIn_eq]
  cases decide (b ≤ a) <;> simp [vAt0, okVl_b, bV_b]
theorem b_time (a : Int) : body lp0 ET2 107 [aI a] [] = some (.ret (oB (mIn a 0 1000000))) := nf_107 _ _
theorem b_key (a : Int) : body lp0 ET3 105 [aI a] [] = some (.ret (oB (mIn a 0 65535))) := nf_105 _ _
theorem b_sum (a : Int) : body lp0 ET4 108 [aI a] [] = some (.ret (oB (mIn a (-1000000000) 1000000000))) := nf_108 _ _
theorem b_val (a : Int) : body lp0 ET5 109 [aI a] [] = some (.ret (oB (mIn a (-1000000) 1000000))) := nf_109 _ _
theorem b_val' (a : Int) : body lp0 ET6 106 [aI a] [] = some (.ret (oB (mIn a (-1000000) 1000000))) := nf_106 _ _
theorem b_size (a : Int) : body lp0 ET7 66 [aI a] [] = some (.ret (oB (mIn a 1 1000000))) := nf_66 _ _

theorem b_aggOk (a b c d e f : Int) : body lp0 ET8 59 [.ag [tI a, tI b, tI c, tI d, tI e, tI f]] [] = some (.ret (oB (mAggOk a b c d e f))) := by
  rw [nf_59, sLe_eq, mAggOk_eq]
  rw [show (-1000000000 : Int) = Int.negSucc 999999999 from rfl, show (-1000000 : Int) = Int.negSucc 999999 from rfl]
  cases mIn a 0 1000000 <;> cases mIn b 0 65535 <;> cases mIn c 1 1000000000 <;> cases mIn d (Int.negSucc 999999999) 1000000000 <;> cases mIn e (Int.negSucc 999999) 1000000 <;> cases mIn f (Int.negSucc 999999) 1000000 <;> simp [vAt0, okVl_b, bV_b]
theorem b_aggOk' (a b c d e f : Int) : body lp0 ET9 61 [.ag [tI a, tI b, tI c, tI d, tI e, tI f]] [] = some (.ret (oB (mAggOk a b c d e f))) := by
  rw [nf_61, sLe_eq, mAggOk_eq]
  rw [show (-1000000000 : Int) = Int.negSucc 999999999 from rfl, show (-1000000 : Int) = Int.negSucc 999999 from rfl]
  cases mIn a 0 1000000 <;> cases mIn b 0 65535 <;> cases mIn c 1 1000000000 <;> cases mIn d (Int.negSucc 999999999) 1000000000 <;> cases mIn e (Int.negSucc 999999) 1000000 <;> cases mIn f (Int.negSucc 999999) 1000000 <;> simp [vAt0, okVl_b, bV_b]

theorem winEnd_num {a b : Int} (h : (mIn a 0 1000000 && mIn b 1 1000000) = true) : sSub .i64 (sMul .i64 (sAdd .i64 a 1) b) 1 = (a + 1) * b - 1 := by
  rw [mIn_eq, mIn_eq] at h
  simp only [Bool.and_eq_true, decide_eq_true_eq] at h
  obtain ⟨⟨h1, h2⟩, h3, h4⟩ := h
  have h5 : (a + 1) * b ≤ 1000001 * 1000000 := Int.mul_le_mul (by omega) h4 (by omega) (by omega)
  have h6 : 0 ≤ (a + 1) * b := Int.mul_nonneg (by omega) (by omega)
  rw [sAdd_eq, wrap64 (by omega) (by omega), sMul_eq, wrap64 (by omega) (by omega), sSub_eq, wrap64 (by omega) (by omega)]
theorem b_winEnd (a b : Int) : body lp0 ET10 63 [aI a, aI b] [] = some (.ret (oI (mWinEnd a b))) := by
  rw [nf_63, mWinEnd_eq]
  cases h1 : mIn a 0 1000000 <;> cases h2 : mIn b 1 1000000 <;> simp [vAt0, okVl_b, bV_b]
  exact winEnd_num (by rw [h1, h2]; rfl)
theorem b_winEnd' (a b : Int) : body lp0 ET11 67 [aI a, aI b] [] = some (.ret (oI (mWinEnd a b))) := by
  rw [nf_67, mWinEnd_eq]
  cases h1 : mIn a 0 1000000 <;> cases h2 : mIn b 1 1000000 <;> simp [vAt0, okVl_b, bV_b]
  exact winEnd_num (by rw [h1, h2]; rfl)

theorem b_late (s n a b c d e f : Int) : body lp0 ET13 65 [.ag [tI a, tI b, tI c, tI d, tI e, tI f], .pt 20000 0 0 0, .pt 20001 0 0 0] [.box true [tI s], .box true [tI n]] =
    some (.ret ⟨[aB (mLate s n a b c d e f)], [], [.box true [], .box true []]⟩) := by
  rw [nf_65, mLate_eq, sLt_eq]
  cases mAggOk a b c d e f <;> cases mIn s 1 1000000 <;> simp [vAt0, okVl_b, bV_b]

theorem b_allOk {rs : List (List T)} (h : pAggs rs = true) : body lp0 ET12 62 [.c (.sl .ro 6 rs)] [] = some (.ret (oB (mAllOk rs))) := by
  rw [pAggs_eq, Bool.and_eq_true, decide_eq_true_eq] at h
  rw [nf_62]
  refine (congrArg (fun z : Option LRes => Option.elim z none _) (lp0_find (fun i => [tB false, tI i]) rs.length (fun i => bif rAggOk (rs.getD i []) then none else some (oB false)) (x := [tB false, tI rs.length]) (fun i hi => ?_) ?_)).trans ?_
  · have hg : rs.getD i [] = rs[i] := by simp [List.getD, hi]
    have hk : sOkC [.int .i64, .int .i64, .int .i64, .int .i64, .int .i64, .int .i64] rs ((i : Int).toNat + 0) 0 = true := okc_at hi h.2
    simp only [tAt0, tAt1, Nat.zero_add, iT_im, bT_im, okT_i, okT_b, cond_true, lt_len hi, le_0, hk, cell_at hi, add1 (i := i) (by omega), hg]
    show (bif (bif rAggOk rs[i] then false else true) then _ else _) = _
    cases rAggOk rs[i] <;> rfl
  · simp only [tAt0, tAt1, Nat.zero_add, iT_im, bT_im, okT_i, okT_b, cond_true, cond_false, lt_len']
  · rw [range_all rs rAggOk (oB false) _ fun i hi => by simp [List.getD, hi], mAllOk_eq]
    cases rs.all rAggOk with
    | false => rfl
    | true =>
      simp only [cond_true, Option.elim_some, LRes.elim', tAt0, tAt1, Nat.zero_add, okT_i, okT_b]

theorem b_lateAt {rs : List (List T)} (s n : Int) (h : pAggs rs = true) : body lp0 ET14 110 [.c (.sl .ro 6 rs), .fn 65 [.pt 20000 0 0 0, .pt 20001 0 0 0]] [.box true [tI s], .box true [tI n]] =
    some (.ret ⟨[aI (mLateAt rs s n)], [], [.box true [], .box true []]⟩) := by
  rw [pAggs_eq, Bool.and_eq_true, decide_eq_true_eq] at h
  rw [nf_110]
  refine (congrArg (fun z : Option LRes => Option.elim z none _) (lp0_find (fun i => [tI 0, tI i]) rs.length (fun i => bif rLate s n (rs.getD i []) then some ⟨[aI i], [], [.box true [], .box true []]⟩ else none) (x := [tI 0, tI rs.length]) (fun i hi => ?_) ?_)).trans ?_
  · have hg : rs.getD i [] = rs[i] := by simp [List.getD, hi]
    have hk : sOkC [.int .i64, .int .i64, .int .i64, .int .i64, .int .i64, .int .i64] rs ((i : Int).toNat + 0) 0 = true := okc_at hi h.2
    simp only [tAt0, tAt1, Nat.zero_add, iT_im, bT_im, okT_i, okT_b, cond_true, lt_len hi, le_0, hk, cell_at hi, add1 (i := i) (by omega), hg]
    show (bif rLate s n rs[i] then _ else _) = _
    cases rLate s n rs[i] <;> rfl
  · simp only [tAt0, tAt1, Nat.zero_add, iT_im, bT_im, okT_i, okT_b, cond_true, cond_false, lt_len']
  · rw [range_idx rs (rLate s n) (fun i => ⟨[aI i], [], [.box true [], .box true []]⟩) _ fun i hi => by simp [List.getD, hi], mLateAt_eq]
    cases rs.findIdx? (rLate s n) with
    | some i => rfl
    | none =>
      simp only [Option.map_none, Option.elim_some, LRes.elim', tAt0, tAt1, Nat.zero_add, okT_i, okT_b, cond_true]
      rfl

theorem b_lateIn {rs : List (List T)} (s n : Int) (h : pAggs rs = true) : body lp0 ET15 64 [.c (.sl .ro 6 rs), .fn 65 [.pt 20000 0 0 0, .pt 20001 0 0 0]] [.box true [tI s], .box true [tI n]] =
    some (.ret ⟨[aB (!mInTime rs s n)], [], [.box true [], .box true []]⟩) := by
  rw [nf_64, h, cond_true, mInTime_eq, sLe_eq, mLateAt_eq]
  cases rs.findIdx? (rLate s n) with
  | some i => have h1 : (0 : Int) ≤ i := by omega
              have h2 : ¬ (i : Int) = -1 := by omega
              simp [h1, h2]
  | none => simp

theorem b_inTime' {rs : List (List T)} (s n : Int) (h : pAggs rs = true) : body lp0 ET17 32 [.c (.sl .ro 6 rs), aI s, aI n] [] = some (.ret (oB (mInTime rs s n))) := by
  rw [nf_32, h, cond_true]
  cases mInTime rs s n <;> rfl

theorem b_inTime {rs : List (List T)} (s n : Int) (h : pAggs rs = true) : body lp0 ET16 31 [.c (.sl .ro 6 rs), aI s, aI n] [] = some (.ret (oB (mInTime rs s n))) := by
  rw [nf_31, h, cond_true]
  rw [pAggs_eq, Bool.and_eq_true, decide_eq_true_eq] at h
  have hall : mInTime rs s n = rs.all fun r => !rLate s n r := by
    rw [mInTime_eq, mLateAt_eq]
    cases hf : rs.findIdx? (rLate s n) with
    | none =>
      rw [List.findIdx?_eq_none_iff] at hf
      have : (rs.all fun r => !rLate s n r) = true := List.all_eq_true.2 fun r hr => by rw [hf r hr]; rfl
      rw [this]; rfl
    | some i =>
      obtain ⟨hi, h1, _⟩ := List.findIdx?_eq_some_iff_getElem.1 hf
      have : (rs.all fun r => !rLate s n r) = false := List.all_eq_false.2 ⟨rs[i], List.getElem_mem hi, by rw [h1]; simp⟩
      rw [this]
      show decide ((i : Int) = -1) = false
      exact decide_eq_false (by omega)
  cases ha : mAllOk rs with
  | false =>
    rw [mAllOk_eq, List.all_eq_false] at ha
    obtain ⟨r, hr, hk⟩ := ha
    have : mInTime rs s n = false := by
      rw [hall, List.all_eq_false]
      refine ⟨r, hr, ?_⟩
      have : mAggOk (cI r 0) (cI r 1) (cI r 2) (cI r 3) (cI r 4) (cI r 5) = false := by simpa [rAggOk] using hk
      rw [rLate, mLate_eq, this]; simp
    rw [this]; rfl
  | true =>
    rw [mAllOk_eq, List.all_eq_true] at ha
    refine (congrArg (fun z : Option LRes => Option.elim z none _) (lp0_find (fun i => [tB false, tI i]) rs.length (fun i => bif !rLate s n (rs.getD i []) then none else some (oB false)) (x := [tB false, tI rs.length]) (fun i hi => ?_) ?_)).trans ?_
    · have hg : rs.getD i [] = rs[i] := by simp [List.getD, hi]
      have hk : sOkC [.int .i64] rs ((i : Int).toNat + 0) (0 + 0) = true := by
        have hk : sOkC kAgg rs ((i : Int).toNat + 0) 0 = true := okc_at hi h.2
        rw [sOkC_eq] at hk ⊢
        simp only [okCells, Bool.and_eq_true] at hk ⊢
        exact ⟨hk.1, trivial⟩
      have hr := ha _ (List.getElem_mem hi)
      have hl : rLate s n rs[i] = (decide (mWinEnd (cI rs[i] 0) s < 0) || decide (n < mWinEnd (cI rs[i] 0) s)) := by
        have hr' : mAggOk (cI rs[i] 0) (cI rs[i] 1) (cI rs[i] 2) (cI rs[i] 3) (cI rs[i] 4) (cI rs[i] 5) = true := hr
        have h0 : mIn (cI rs[i] 0) 0 1000000 = true := by
          rw [mAggOk_eq] at hr'
          simp only [Bool.and_eq_true] at hr'
          exact hr'.1.1.1.1.1.1
        rw [rLate, mLate_eq, hr', mWinEnd_eq, h0]
        cases hs : mIn s 1 1000000 with
        | false => simp
        | true =>
          rw [mIn_eq] at h0 hs
          simp only [Bool.and_eq_true, decide_eq_true_eq] at h0 hs
          have h6 : 1 * 1 ≤ (cI rs[i] 0 + 1) * s := Int.mul_le_mul (by omega) hs.1 (by omega) (by omega)
          have : decide ((cI rs[i] 0 + 1) * s - 1 < 0) = false := decide_eq_false (by omega)
          simp [this]
      simp only [tAt0, tAt1, Nat.zero_add, iT_im, bT_im, okT_i, okT_b, cond_true, lt_len hi, le_0, hk, cell_at hi, add1 (i := i) (Nat.lt_of_lt_of_le hi (Nat.le_trans h.1 (by decide))), hg]
      show (Option.elim (bif sLt (mWinEnd (cI rs[i] 0) s) 0 then _ else some [Value.bool (sLt n (mWinEnd (cI rs[i] 0) s))]) none _) = _
      rw [hl, sLt_eq, sLt_eq]
      cases decide (mWinEnd (cI rs[i] 0) s < 0) <;> cases decide (n < mWinEnd (cI rs[i] 0) s) <;> simp [vAt0, okVl_b, bV_b]
    · simp only [tAt0, tAt1, Nat.zero_add, iT_im, bT_im, okT_i, okT_b, cond_true, cond_false, lt_len']
    · rw [range_all rs (fun r => !rLate s n r) (oB false) _ fun i hi => by simp [List.getD, hi], hall]
      cases rs.all (fun r => !rLate s n r) with
      | false => rfl
      | true =>
        simp only [cond_true, Option.elim_some, LRes.elim', tAt0, tAt1, Nat.zero_add, okT_i, okT_b]

theorem b_sz {rs : List (List T)} {n : Int} (h : pSz rs n = true) : body lp0 ET18 22 [.c (.sl .ro 6 rs), aI n] [] = some (.ret (oI (mSz rs n))) := by
  rw [nf_22, mSz_eq]
  rw [pSz_eq] at h
  simp only [Bool.and_eq_true, decide_eq_true_eq] at h
  have e : sSub .i64 n (Int.ofNat (sLen rs)) = n - rs.length := by
    rw [sSub_eq, sLen_eq]
    have : Int.ofNat rs.length = (rs.length : Int) := rfl
    rw [this, wrap64 (by omega) (by omega)]
  rw [e, sLt_eq]
  by_cases h1 : n < rs.length
  · rw [decide_eq_true (by omega : n - (rs.length : Int) < 0), if_pos h1]; rfl
  · rw [decide_eq_false (by omega : ¬ n - (rs.length : Int) < 0), if_neg h1]; rfl

theorem b_to (a b c d e f : Int) : body lp0 ET19 56 [.ag [tI a, tI b, tI c, tI d, tI e, tI f]] [] = some (.ret ⟨[.ag [tI a, tI b, tI c, tI d, tI e, tI f]], [], []⟩) := nf_56 _ _ _ _ _ _ _

theorem rowI {r : List T} (h : okRow kAgg r = true) : r = [tI (cI r 0), tI (cI r 1), tI (cI r 2), tI (cI r 3), tI (cI r 4), tI (cI r 5)] := by
  have one : ∀ {t : T}, T.okK .own (.int .i64) t = true → ∃ n, t = tI n := fun {t} h => by
    cases t with
    | im v =>
      cases v with
      | int k n => simp only [T.okK, Value.okK, decide_eq_true_eq] at h; subst h; exact ⟨n, rfl⟩
      | _ => cases h
    | _ => cases h
  match r, h with
  | [t0, t1, t2, t3, t4, t5], h =>
    simp only [okRow, Bool.and_eq_true] at h
    obtain ⟨h0, h1, h2, h3, h4, h5, _⟩ := h
    obtain ⟨_, rfl⟩ := one h0
    obtain ⟨_, rfl⟩ := one h1
    obtain ⟨_, rfl⟩ := one h2
    obtain ⟨_, rfl⟩ := one h3
    obtain ⟨_, rfl⟩ := one h4
    obtain ⟨_, rfl⟩ := one h5
    simp [cI, iT_im]
  | [], h => cases h
  | [_], h => simp [okRow] at h
  | [_, _], h => simp [okRow] at h
  | [_, _, _], h => simp [okRow] at h
  | [_, _, _, _], h => simp [okRow] at h
  | [_, _, _, _, _], h => simp [okRow] at h
  | _ :: _ :: _ :: _ :: _ :: _ :: _ :: _, h => simp [okRow] at h

theorem b_eq (a b c d e f a' b' c' d' e' f' : Int) : body lp0 ET21 58 [.ag [tI a, tI b, tI c, tI d, tI e, tI f], .ag [tI a', tI b', tI c', tI d', tI e', tI f']] [] = some (.ret (oB (mEqAgg a b c d e f a' b' c' d' e' f'))) := by
  rw [nf_58, mEqAgg_eq]
  simp only [sEq_eq]
  cases decide (a = a') <;> cases decide (b = b') <;> cases decide (c = c') <;> cases decide (d = d') <;> cases decide (e = e') <;> cases decide (f = f') <;> rfl

theorem b_tos {rs : List (List T)} (h : pAggs rs = true) : body lp0 ET20 24 [.c (.sl .ro 6 rs)] [] = some (.ret ⟨[.c (.sl .own 6 rs)], [], []⟩) := by
  rw [pAggs_eq, Bool.and_eq_true, decide_eq_true_eq] at h
  rw [nf_24]
  have e0 : sLt (Int.ofNat (sLen rs)) 4294967296 = true := by
    rw [sLt_eq, sLen_eq]; exact decide_eq_true (by have : Int.ofNat rs.length = (rs.length : Int) := rfl; omega)
  have e1 : sEq (Int.ofNat (sLen rs)) (Int.ofNat (sLen rs)) = true := by rw [sEq_eq]; simp
  have e2 : sLe 0 (Int.ofNat (sLen rs)) = true := by rw [sLe_eq]; exact decide_eq_true (Int.natCast_nonneg _)
  simp only [e0, e1, e2, cond_true]
  let z : List T := [tI 0, tI 0, tI 0, tI 0, tI 0, tI 0]
  let m : Nat → List (List T) := fun i => rs.take i ++ List.replicate (rs.length - i) z
  refine (congrArg (fun z : Option LRes => Option.elim z none _) (?_ : _ = some (.brk [.sl .own 6 rs, tI rs.length]))).trans ?_
  · have st : sRep (Int.ofNat (sLen rs)).toNat z = m 0 := by rw [sRep_eq, sLen_eq]; simp [m]
    have en : m rs.length = rs := by simp [m]
    refine lp0_for0 (fun i => [.sl .own 6 (m i), tI i]) rs.length (by show [T.sl .own 6 (sRep (Int.ofNat (sLen rs)).toNat z), tI 0] = _; rw [st]; rfl) (fun i hi => ?_) ?_
    · have hk : sOkC [.int .i64, .int .i64, .int .i64, .int .i64, .int .i64, .int .i64] rs ((i : Int).toNat + 0) 0 = true := okc_at hi h.2
      simp only [tAt0, tAt1, Nat.zero_add, iT_im, bT_im, rT_sl, okT_i, okT_s, cond_true, lt_len hi, le_0, hk, cell_at hi, add1 (i := i) (Nat.lt_of_lt_of_le hi (Nat.le_trans h.1 (by decide)))]
      have e3 : sLt (i : Int) (Int.ofNat (Int.ofNat (sLen rs)).toNat) = true := by rw [show (Int.ofNat (sLen rs)).toNat = sLen rs from rfl]; exact lt_len hi
      simp only [e3, cond_true, Nat.add_zero]
      have hrow := rowI (List.all_eq_true.1 h.2 _ (List.getElem_mem hi))
      have e4 : sSetRow (m i) ((i : Int).toNat) 0 [tI (cI rs[i] 0), tI (cI rs[i] 1), tI (cI rs[i] 2), tI (cI rs[i] 3), tI (cI rs[i] 4), tI (cI rs[i] 5)] = m (i + 1) := by
        rw [← hrow, sSetRow_eq]
        exact setRow_fill hi (by rw [hrow]; rfl)
      exact congrArg (fun y => some (LRes.next [.sl .own 6 y, tI ((i + 1 : Nat) : Int)])) e4
    · rw [en]
      simp only [tAt0, tAt1, Nat.zero_add, iT_im, bT_im, rT_sl, okT_i, okT_s, cond_true, cond_false, lt_len']
  · simp only [Option.elim_some, LRes.elim', tAt0, tAt1, Nat.zero_add, okT_i, okT_s, rT_sl, cond_true]

theorem noRo_ints : ∀ {rs : List (List T)}, rs.all (okRow kAgg) = true → noRoRs rs = true
  | [], _ => rfl
  | r :: rs, h => by
    rw [List.all_cons, Bool.and_eq_true] at h
    rw [noRoRs, noRo_ints h.2, rowI h.1]; rfl
theorem sNoRo_ints {rs : List (List T)} (h : rs.all (okRow kAgg) = true) : sNoRo (.sl .own 6 rs) = true := by
  rw [sNoRo_eq]
  exact noRo_ints h

theorem eqRow {r s : List T} (hr : okRow kAgg r = true) (hs : okRow kAgg s = true) : mEqAgg (cI r 0) (cI r 1) (cI r 2) (cI r 3) (cI r 4) (cI r 5) (cI s 0) (cI s 1) (cI s 2) (cI s 3) (cI s 4) (cI s 5) = true ↔ r = s := by
  constructor
  · intro h
    rw [mEqAgg_eq] at h
    simp only [Bool.and_eq_true, decide_eq_true_eq] at h
    obtain ⟨⟨⟨⟨⟨h0, h1⟩, h2⟩, h3⟩, h4⟩, h5⟩ := h
    rw [rowI hr, rowI hs, h0, h1, h2, h3, h4, h5]
  · rintro rfl
    rw [mEqAgg_eq]; simp

open Classical in
theorem mEqAggs_eq (r s : List (List T)) : mEqAggs r s = decide (r = s) := by rw [mEqAggs, sld_eq]

open Classical in
theorem b_eqs {rs ss : List (List T)} (h1 : pAggs rs = true) (h2 : pAggs ss = true) : body lp0 ET22 26 [.c (.sl .ro 6 rs), .c (.sl .ro 6 ss)] [] = some (.ret (oB (mEqAggs rs ss))) := by
  rw [pAggs_eq, Bool.and_eq_true, decide_eq_true_eq] at h1 h2
  rw [nf_26]
  have e1 : sEq (Int.ofNat (sLen rs)) (Int.ofNat (sLen ss)) = decide (rs.length = ss.length) := by
    rw [sEq_eq, sLen_eq, sLen_eq]
    by_cases h : rs.length = ss.length
    · rw [h]; simp
    · rw [decide_eq_false h]; exact decide_eq_false fun e => h (Int.ofNat.inj e)
  rw [e1, mEqAggs_eq]
  by_cases hl : rs.length = ss.length
  · rw [decide_eq_true hl]
    let q : List T × List T → Bool := fun p => mEqAgg (cI p.1 0) (cI p.1 1) (cI p.1 2) (cI p.1 3) (cI p.1 4) (cI p.1 5) (cI p.2 0) (cI p.2 1) (cI p.2 2) (cI p.2 3) (cI p.2 4) (cI p.2 5)
    have hz : (rs.zip ss).length = rs.length := by rw [List.length_zip]; omega
    refine (congrArg (fun z : Option LRes => Option.elim z none _) (lp0_find (fun i => [tB false, tI i]) (rs.zip ss).length (fun i => bif q (rs.getD i [], ss.getD i []) then none else some (oB false)) (x := [tB false, tI rs.length]) (fun i hi0 => ?_) ?_)).trans ?_
    · have hi : i < rs.length := by omega
      have hi' : i < ss.length := by omega
      have hg : rs.getD i [] = rs[i] := by simp [List.getD, hi]
      have hg' : ss.getD i [] = ss[i] := by simp [List.getD, hi']
      have hk : sOkC [.int .i64, .int .i64, .int .i64, .int .i64, .int .i64, .int .i64] rs ((i : Int).toNat + 0) 0 = true := okc_at hi h1.2
      have hk' : sOkC [.int .i64, .int .i64, .int .i64, .int .i64, .int .i64, .int .i64] ss ((i : Int).toNat + 0) 0 = true := okc_at hi' h2.2
      simp only [tAt0, tAt1, Nat.zero_add, iT_im, bT_im, okT_i, okT_b, cond_true, lt_len hi, lt_len hi', le_0, hk, hk', cell_at hi, cell_at hi', add1 (i := i) (Nat.lt_of_lt_of_le hi (Nat.le_trans h1.1 (by decide))), hg, hg']
      show (bif (bif q (rs[i], ss[i]) then false else true) then _ else _) = _
      cases q (rs[i], ss[i]) <;> rfl
    · rw [hz]
      simp only [tAt0, tAt1, Nat.zero_add, iT_im, bT_im, okT_i, okT_b, cond_true, cond_false, lt_len']
    · rw [range_all (rs.zip ss) q (oB false) _ fun i hi => by
        have h3 : i < rs.length := by omega
        have h4 : i < ss.length := by omega
        simp [List.getD, h3, h4]]
      have ha : (rs.zip ss).all q = decide (rs = ss) := by
        by_cases e : rs = ss
        · subst e
          rw [decide_eq_true rfl, List.all_eq_true]
          intro p hp
          obtain ⟨i, hi⟩ := List.mem_iff_getElem?.1 hp
          rw [List.getElem?_zip_eq_some] at hi
          have : p.1 = p.2 := Option.some.inj (hi.1.symm.trans hi.2)
          have hm := List.all_eq_true.1 h1.2 _ (List.mem_of_getElem? hi.1)
          exact (eqRow hm (by rw [← this]; exact hm)).2 this
        · rw [decide_eq_false e, Bool.eq_false_iff]
          intro ha
          refine e (List.ext_getElem hl fun i h3 h4 => ?_)
          have hm : (rs[i], ss[i]) ∈ rs.zip ss := List.mem_iff_getElem?.2 ⟨i, by rw [List.getElem?_zip_eq_some]; exact ⟨List.getElem?_eq_getElem h3, List.getElem?_eq_getElem h4⟩⟩
          exact (eqRow (List.all_eq_true.1 h1.2 _ (List.getElem_mem h3)) (List.all_eq_true.1 h2.2 _ (List.getElem_mem h4))).1 (List.all_eq_true.1 ha _ hm)
      rw [ha]
      cases decide (rs = ss) with
      | false => rfl
      | true =>
        simp only [cond_true, Option.elim_some, LRes.elim', tAt0, tAt1, Nat.zero_add, okT_i, okT_b]
  · rw [decide_eq_false hl, decide_eq_false fun e => hl (by rw [e])]
    rfl

/-- the law says true -/
theorem b_law {rs : List (List T)} (s n : Int) (h : rs.all (okRow kAgg) = true) (hl : rs.length ≤ 140737488355327) : body lp0 ET23 8 [.c (.sl .ro 6 rs), aI s, aI n] [] = some (.ret (oB true)) := by
  have h0 : pSz rs 1048576 = true := by rw [pSz_eq]; simp [hl]
  rw [nf_8, h0, mSz_eq, sLt_eq]
  by_cases h1 : (1048576 : Int) < rs.length
  · rw [if_pos h1]; rfl
  · have hp : pAggs rs = true := by
      rw [pAggs_eq, h, Bool.and_true]; exact decide_eq_true (by omega)
    have he : mEqAggs rs rs = true := by rw [mEqAggs_eq]; simp
    have hb : sBeq (mInTime rs s n) (mInTime rs s n) = true := by rw [sBeq_eq]; simp
    rw [if_neg h1, decide_eq_false (by omega : ¬ (1048576 : Int) - rs.length < 0), hp, sNoRo_ints h, he, hb]
    rfl

end Go.Vm
