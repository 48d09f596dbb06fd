/- AtRest: what the functions come to -/
import Derived.Test.YtopemdjgbaonmaaGreatARN
import Derived.Test.YtopemdjgbaonmaaGreatDBB
import Derived.Test.YtopemdjgbaonmaaGreatOkB
namespace Go.Vm
set_option linter.unusedVariables false
set_option linter.unusedSimpArgs false
theorem sWE_eq (a n : Int) : sWE a n = mWE a n := by rw [sWE, sld_eq]
theorem sCa_eq (m n : Int) (r : List T) : sCa m n r = mCa m n r := by rw [sCa, sld_eq]
theorem sCi_eq (m n : Int) (rs : List (List T)) : sCi m n rs = mIdx (fun r => !mCa m n r) rs := by rw [sCi, sld_eq]
theorem sFil_eq (m n : Int) (rs : List (List T)) : sFil m n rs = rs.filter (mCa m n) := by rw [sFil, sld_eq]; rfl
theorem sCo_eq (r : List T) (n : Int) : sCo r n = mCo r n := by rw [sCo, sld_eq]
theorem pCns_eq (rs : List (List T)) : pCns rs = (rs.all pCn && decide (rs.length ≤ 1048576)) := by rw [pCns, sld_eq]
section
variable {P : Program} {md : FuncId → Option (List Mode)} {fl : FuncId → Fl} {l : List (Nat × GFn)} {f : Nat}
theorem good_WE (hb : ∀ a n : Int, body lp0 (EE P md fl l) f [aI a, aI n] [] = some (.ret (oI (sWE a n)))) (hl : Good P md fl l) : Good P md fl ((f, gWE) :: l) := .cons (fun xs ps h => by
 unfold gWE at h ⊢
 split at h
 ·exact hb _ _
 ·cases h) hl
theorem good_Ca (hb : ∀ {r : List T} {a0 : List (List T)} {m c1 c2 n : Int}, sShR kAggT r = true → body lp0 (EE P md fl l) f [.pt (nPO 0) 0 0 0, .ag r, aI n] [.box true [.sl .ro 6 a0, tI m, tI c1, tI c2]] = some (.ret ⟨[aB (sCa m n r)], [], [.box true []]⟩)) (hl : Good P md fl l) : Good P md fl ((f, gCa) :: l) := .cons (fun xs ps h => by
 unfold gCa at h ⊢
 split at h
 ·simp only [Bool.and_eq_true] at h
  obtain ⟨⟨h1, h2⟩, h3⟩ := h
  obtain rfl := beq_eq h1
  obtain rfl := beq_eq h2
  exact hb h3
 ·cases h) hl
theorem good_Cc (hb : ∀ {r : List T} {a0 : List (List T)} {m c1 c2 n : Int}, sShR kAggT r = true → body lp0 (EE P md fl l) f [.ag r, .pt (nPO 0) 0 0 0, .pt (nPO 1) 0 0 0] [.box true [.sl .ro 6 a0, tI m, tI c1, tI c2], .box true [tI n]] = some (.ret ⟨[aB (!sCa m n r)], [], [.box true [], .box true []]⟩)) (hl : Good P md fl l) : Good P md fl ((f, gCc) :: l) := .cons (fun xs ps h => by
 unfold gCc at h ⊢
 split at h
 ·simp only [Bool.and_eq_true] at h
  obtain ⟨⟨⟨h1, h2⟩, h3, h4⟩, h5⟩ := h
  obtain rfl := beq_eq h1
  obtain rfl := beq_eq h2
  obtain rfl := beq_eq h3
  obtain rfl := beq_eq h4
  exact hb h5
 ·cases h) hl
theorem good_Ci {k : Nat} (hb : ∀ {rs : List (List T)} {a0 : List (List T)} {m c1 c2 n : Int}, pEq kAggT rs = true → body lp0 (EE P md fl l) f [.c (.sl .ro 6 rs), .fn k [.pt (nPO 0) 0 0 0, .pt (nPO 1) 0 0 0]] [.box true [.sl .ro 6 a0, tI m, tI c1, tI c2], .box true [tI n]] = some (.ret ⟨[aI (sCi m n rs)], [], [.box true [], .box true []]⟩)) (hl : Good P md fl l) : Good P md fl ((f, gCi k) :: l) := .cons (fun xs ps h => by
 unfold gCi at h ⊢
 split at h
 ·simp only [Bool.and_eq_true] at h
  obtain ⟨⟨⟨h0, h00⟩, ⟨h1, h2⟩, h3, h4⟩, h5⟩ := h
  obtain rfl := beq_eq h0
  obtain rfl := beq_eq h00
  obtain rfl := beq_eq h1
  obtain rfl := beq_eq h2
  obtain rfl := beq_eq h3
  obtain rfl := beq_eq h4
  exact hb h5
 ·cases h) hl
theorem good_Df {k : Nat} (hb : ∀ {rs : List (List T)} {a0 : List (List T)} {m c1 c2 n : Int}, pEq kAggT rs = true → body lp0 (EE P md fl l) f [.c (.sl .own 6 rs), .fn k [.pt (nPO 0) 0 0 0, .pt (nPO 1) 0 0 0]] [.box true [.sl .ro 6 a0, tI m, tI c1, tI c2], .box true [tI n]] = some (.ret ⟨[.c (.sl .own 6 (sFil m n rs))], [], [.box true [], .box true []]⟩)) (hl : Good P md fl l) : Good P md fl ((f, gDf k) :: l) := .cons (fun xs ps h => by
 unfold gDf at h ⊢
 split at h
 ·simp only [Bool.and_eq_true] at h
  obtain ⟨⟨⟨h0, h00⟩, ⟨h1, h2⟩, h3, h4⟩, h5⟩ := h
  obtain rfl := beq_eq h0
  obtain rfl := beq_eq h00
  obtain rfl := beq_eq h1
  obtain rfl := beq_eq h2
  obtain rfl := beq_eq h3
  obtain rfl := beq_eq h4
  exact hb h5
 ·cases h) hl
theorem good_Co (hb : ∀ {ts : List T} {n : Int}, ts.all roT = true → pEqR kShard ts = true → body lp0 (EE P md fl l) f [.ag ts, aI n] [] = some (.ret ⟨[.c (.sl .own 6 (sCo ts n))], [], []⟩)) (hl : Good P md fl l) : Good P md fl ((f, gCo) :: l) := .cons (fun xs ps h => by
 unfold gCo at h ⊢
 split at h
 ·simp only [Bool.and_eq_true] at h
  exact hb h.1 h.2
 ·cases h) hl
theorem good_Hc (hb : ∀ {ts : List T}, ts.all roT = true → pCn ts = true → body lp0 (EE P md fl l) f [.ag ts] [] = some (.ret (oB (sHas ts)))) (hl : Good P md fl l) : Good P md fl ((f, gHc) :: l) := .cons (fun xs ps h => by
 unfold gHc at h ⊢
 split at h
 ·simp only [Bool.and_eq_true] at h
  exact hb h.1 h.2
 ·cases h) hl
theorem good_Hi {k : Nat} (hb : ∀ {rs : List (List T)}, pCns rs = true → body lp0 (EE P md fl l) f [.c (.sl .ro 7 rs), .fn k []] [] = some (.ret (oI (sIdx sHas rs)))) (hl : Good P md fl l) : Good P md fl ((f, gHi k) :: l) := .cons (fun xs ps h => by
 unfold gHi at h ⊢
 split at h
 ·simp only [Bool.and_eq_true] at h
  obtain rfl := beq_eq h.1.1
  obtain rfl := beq_eq h.1.2
  exact hb h.2
 ·cases h) hl
theorem good_Ha {k : Nat} (hb : ∀ {rs : List (List T)}, pCns rs = true → body lp0 (EE P md fl l) f [.c (.sl .ro 7 rs), .fn k []] [] = some (.ret (oB (sAny sHas rs)))) (hl : Good P md fl l) : Good P md fl ((f, gHa k) :: l) := .cons (fun xs ps h => by
 unfold gHa at h ⊢
 split at h
 ·simp only [Bool.and_eq_true] at h
  obtain rfl := beq_eq h.1.1
  obtain rfl := beq_eq h.1.2
  exact hb h.2
 ·cases h) hl
theorem good_Dry (hb : ∀ {ts : List T}, ts.all roT = true → pToR kEngine ts = true → pWf ts = true → body lp0 (EE P md fl l) f [.pt (nPO 0) 0 0 0] [.box true ts] = some (.ret ⟨[aB (!sAny sHas (ts.getD 11 .no).rws)], [], [.box true []]⟩)) (hl : Good P md fl l) : Good P md fl ((f, gDry) :: l) := .cons (fun xs ps h => by
 unfold gDry at h ⊢
 split at h
 ·simp only [Bool.and_eq_true] at h
  obtain ⟨⟨⟨h1, h2⟩, h3⟩, h4, h5⟩ := h
  obtain rfl := beq_eq h1
  obtain rfl := beq_eq h2
  exact hb h3 h4 h5
 ·cases h) hl
end
theorem winEnd_num {a b : Int} (h : (mIn a 0 1000000 && mIn b 1 1000000) = true) : sSub .i64 (sMul .i64 (sAdd .i64 a 1) b) 1 = (a + 1) * b - 1 := by
 rw [mIn_eq, mIn_eq] at h
 simp only [Bool.and_eq_true, decide_eq_true_eq] at h
 obtain ⟨⟨h1, h2⟩, h3, h4⟩ := h
 have h5 : (a + 1) * b ≤ 1000001 * 1000000 := Int.mul_le_mul (by omega) h4 (by omega) (by omega)
 have h6 : 0 ≤ (a + 1) * b := Int.mul_nonneg (by omega) (by omega)
 rw [sAdd_eq, wrap64 (by omega) (by omega), sMul_eq, wrap64 (by omega) (by omega), sSub_eq, wrap64 (by omega) (by omega)]
theorem b_we_spec (a b : Int) : body lp0 ET130 95 [aI a, aI b] [] = some (.ret (oI (sWE a b))) := by
 rw [nf_95, sWE_eq]
 unfold mWE
 cases h1 : mIn a 0 1000000 <;> cases h2 : mIn b 1 1000000 <;> simp [vAt0, okVl_b, bV_b]
 exact winEnd_num (by rw [h1, h2]; rfl)
theorem b_we_impl (a b : Int) : body lp0 ET131 129 [aI a, aI b] [] = some (.ret (oI (sWE a b))) := by
 rw [nf_129, sWE_eq]
 unfold mWE
 cases h1 : mIn a 0 1000000 <;> cases h2 : mIn b 1 1000000 <;> simp [vAt0, okVl_b, bV_b]
 exact winEnd_num (by rw [h1, h2]; rfl)
theorem b_ca {r : List T} {a0 : List (List T)} {m c1 c2 n : Int} (h : sShR kAggT r = true) : body lp0 ET132 102 [.pt (nPO 0) 0 0 0, .ag r, aI n] [.box true [.sl .ro 6 a0, tI m, tI c1, tI c2]] = some (.ret ⟨[aB (sCa m n r)], [], [.box true []]⟩) := by
 rw [sShR_eq] at h
 obtain ⟨b0, b1, b2, b3, b4, b5, rfl, _⟩ := row_Agg h
 rw [nf_102, sCa_eq, sWE_eq, sLe_eq]
 unfold mCa
 rw [cI0]
theorem b_cc {r : List T} {a0 : List (List T)} {m c1 c2 n : Int} (h : sShR kAggT r = true) : body lp0 ET133 101 [.ag r, .pt (nPO 0) 0 0 0, .pt (nPO 1) 0 0 0] [.box true [.sl .ro 6 a0, tI m, tI c1, tI c2], .box true [tI n]] = some (.ret ⟨[aB (!sCa m n r)], [], [.box true [], .box true []]⟩) := by
 have h' := h
 rw [sShR_eq] at h'
 obtain ⟨b0, b1, b2, b3, b4, b5, rfl, _⟩ := row_Agg h'
 rw [nf_101, h, cond_true]
theorem idx_loopO {rs : List (List T)} {q : List T → Bool} {F : List T → Option LRes} (mk : Int → Out)
  (hF : ∀ (i : Nat) (hi : i < rs.length), F [tI 0, tI i] = some (bif q rs[i] then .ret (mk i) else .next [tI 0, tI ((i + 1 : Nat) : Int)])) (hE : F [tI 0, tI rs.length] = some (.brk [tI 0, tI rs.length])) :
  Option.elim (lp0 F [tI 0, tI 0]) none (fun val => val.elim' (fun ds => none) (fun ds => bif okT .own (.int .i64) (tAt ds 0) && (okT .own (.int .i64) (tAt ds 1) && true) then some (LRes.ret (mk (Int.negSucc 0))) else none) fun o => some (.ret o)) =
  some (.ret (mk (mIdx q rs))) := by
 rw [lp0_find0 (F := F) (ds0 := [tI 0, tI 0]) (fun i => [tI 0, tI i]) rs.length (fun i => bif q (rs.getD i []) then some (mk i) else none) (x := [tI 0, tI rs.length]) rfl (fun i hi => by
  rw [hF i hi, show rs.getD i [] = rs[i] by simp [List.getD, hi]]
  cases q rs[i] <;> rfl) hE]
 rw [range_idx rs q (fun i => mk i) _ fun i hi => by simp [List.getD, hi]]
 unfold mIdx
 cases rs.findIdx? q with
 | some i => rfl
 | none => simp only [Option.map_none, Option.elim_some, LRes.elim', tAt0, tAt1, okT_i, Bool.and_true, cond_true]; rfl
theorem agg_row {xs : List (List T)} {k : Nat} (hk : k < xs.length) (h : shR kAggT xs[k] = true) : [tI (iT (sCell xs (k : Int).toNat 0)), tI (iT (sCell xs (k : Int).toNat 1)), tI (iT (sCell xs (k : Int).toNat 2)), tI (iT (sCell xs (k : Int).toNat 3)), tI (iT (sCell xs (k : Int).toNat 4)), tI (iT (sCell xs (k : Int).toNat 5))] = xs[k] := by
 obtain ⟨b0, b1, b2, b3, b4, b5, e, _⟩ := row_Agg h
 simp only [cell_at' hk, e, iT_im, List.getD_cons_succ, List.getD_cons_zero]
theorem b_ci {rs : List (List T)} {a0 : List (List T)} {m c1 c2 n : Int} (h : pEq kAggT rs = true) : body lp0 ET134 128 [.c (.sl .ro 6 rs), .fn 101 [.pt (nPO 0) 0 0 0, .pt (nPO 1) 0 0 0]] [.box true [.sl .ro 6 a0, tI m, tI c1, tI c2], .box true [tI n]] = some (.ret ⟨[aI (sCi m n rs)], [], [.box true [], .box true []]⟩) := by
 obtain ⟨hs, hl, hn⟩ := pEq3 h
 rw [nf_128_2, sCi_eq]
 refine idx_loopO (q := fun r => !mCa m n r) (fun i => ⟨[aI i], [], [.box true [], .box true []]⟩) (fun i hi => ?_) ?_
 ·have h1 := shRs_get hs hi
  have hk : sOkC [.int .i64, .int .i64, .int .i64, .int .i64, .int .i64, .int .i64] rs (i : Int).toNat 0 = true := okc_sh' hs hi
  have h2 : sShR kAggT rs[i] = true := by rw [sShR_eq]; exact h1
  simp only [tAt0, tAt1, okT_i, iT_im, Bool.and_true, cond_true, lt_len hi, le_0, hk, agg_row hi h1, h2, sCa_eq, add1i (Nat.lt_of_lt_of_le hi hn)]
  cases mCa m n rs[i] <;> rfl
 ·simp only [tAt0, tAt1, okT_i, iT_im, Bool.and_true, cond_true, cond_false, lt_len']
theorem del_loop {F : List T → Option LRes} {rs : List (List T)} {p : List T → Bool}
  (hF : ∀ (xs : List (List T)) (i k : Nat) (hk : k < xs.length), i < k → xs.length = rs.length → (∀ r ∈ xs, shR kAggT r = true) →
   F [.sl .own 6 xs, tI i, tI k] = some (.next [.sl .own 6 (bif p xs[k] then xs.set i xs[k] else xs), tI ((bif p xs[k] then i + 1 else i : Nat) : Int), tI ((k + 1 : Nat) : Int)]))
  (hE : ∀ (xs : List (List T)) (i : Nat), F [.sl .own 6 xs, tI i, tI rs.length] = some (.brk [.sl .own 6 xs, tI i, tI rs.length])) :
  ∀ (m k i : Nat) (xs : List (List T)), rs.length - k < m → k ≤ rs.length → i < k → xs.length = rs.length → (∀ r ∈ xs, shR kAggT r = true) → xs.take i = (rs.take k).filter p → xs.drop k = rs.drop k →
   ∃ (xs' : List (List T)) (i' : Nat), lp0 F [.sl .own 6 xs, tI i, tI k] = some (.brk [.sl .own 6 xs', tI i', tI rs.length]) ∧ xs'.take i' = rs.filter p ∧ i' < rs.length ∧ xs'.length = rs.length
 | 0, k, i, xs, h1, _, _, _, _, _, _ => by omega
 | m + 1, k, i, xs, h1, h2, h3, h4, h5, h6, h7 => by
  rw [lp0_eq]
  by_cases hk : k = rs.length
  ·subst hk
   rw [hE]
   refine ⟨xs, i, rfl, ?_, h3, h4⟩
   rw [h6, List.take_length]
  ·have hk1 : k < rs.length := by omega
   have hk2 : k < xs.length := by omega
   have e : xs[k] = rs[k] := by
    have : xs[k]? = rs[k]? := by
     have := congrArg (fun l : List (List T) => l[0]?) h7
     simpa using this
    rw [List.getElem?_eq_getElem hk2, List.getElem?_eq_getElem hk1] at this
    exact Option.some.inj this
   have e2 : (rs.take (k + 1)).filter p = (rs.take k).filter p ++ bif p rs[k] then [rs[k]] else [] := by
    rw [List.take_succ_eq_append_getElem hk1, List.filter_append]
    cases hp : p rs[k] <;> simp [List.filter, hp]
   have e3 : xs.drop (k + 1) = rs.drop (k + 1) := by
    rw [← List.drop_drop (i := 1) (j := k) (l := xs), ← List.drop_drop (i := 1) (j := k) (l := rs), h7]
   rw [hF xs i k hk2 h3 h4 h5, Option.bind_some]
   cases hp : p xs[k] with
   | false =>
    rw [e] at hp
    exact del_loop hF hE m (k + 1) i xs (by omega) (by omega) (by omega) h4 h5 (by rw [e2, hp, cond_false, List.append_nil]; exact h6) e3
   | true =>
    refine del_loop hF hE m (k + 1) (i + 1) (xs.set i xs[k]) (by omega) (by omega) (by omega) (by rw [List.length_set]; exact h4) (fun r hr => ?_) ?_ ?_
    ·rcases List.mem_or_eq_of_mem_set hr with hr | rfl
     ·exact h5 _ hr
     ·exact h5 _ (List.getElem_mem hk2)
    ·have hi : i < (xs.set i xs[k]).length := by rw [List.length_set]; omega
     rw [List.take_succ_eq_append_getElem hi, List.getElem_set_self, e2, ← e, hp, cond_true, ← h6, List.take_set_of_le (by omega)]
    ·rw [List.drop_set_of_lt (by omega)]; exact e3
theorem del_elim {F G : List T → Option LRes} {K : Option LRes} {rs : List (List T)} {p : List T → Bool} {k i : Nat}
  (hF : ∀ (xs : List (List T)) (i k : Nat) (hk : k < xs.length), i < k → xs.length = rs.length → (∀ r ∈ xs, shR kAggT r = true) →
   F [.sl .own 6 xs, tI i, tI k] = some (.next [.sl .own 6 (bif p xs[k] then xs.set i xs[k] else xs), tI ((bif p xs[k] then i + 1 else i : Nat) : Int), tI ((k + 1 : Nat) : Int)]))
  (hE : ∀ (xs : List (List T)) (i : Nat), F [.sl .own 6 xs, tI i, tI rs.length] = some (.brk [.sl .own 6 xs, tI i, tI rs.length]))
  (h2 : k ≤ rs.length) (h3 : i < k) (h5 : ∀ r ∈ rs, shR kAggT r = true) (h6 : rs.take i = (rs.take k).filter p)
  (hG : ∀ (xs' : List (List T)) (i' : Nat), xs'.take i' = rs.filter p → i' < rs.length → xs'.length = rs.length → G [.sl .own 6 xs', tI i', tI rs.length] = K) :
  (Option.elim (lp0 F [.sl .own 6 rs, tI i, tI k]) none fun val => val.elim' (fun ds => none) G fun o => some (.ret o)) = K := by
 obtain ⟨xs', i', e1, e2, e3, e4⟩ := del_loop hF hE (rs.length + 1) k i rs (by omega) h2 h3 rfl h5 h6 rfl
 rw [e1]
 exact hG xs' i' e2 e3 e4
theorem mIdx_take {p : List T → Bool} : ∀ {rs : List (List T)} {i : Nat}, rs.findIdx? (fun r => !p r) = some i → ∃ hi : i < rs.length, (rs.take (i + 1)).filter p = rs.take i := by
 intro rs i h
 rw [List.findIdx?_eq_some_iff_getElem] at h
 obtain ⟨hi, h1, h2⟩ := h
 refine ⟨hi, ?_⟩
 have h1 : p rs[i] = false := by simpa using h1
 rw [List.take_succ_eq_append_getElem hi, List.filter_append, List.filter_cons_of_neg (by rw [h1]; simp), List.filter_nil, List.append_nil, List.filter_eq_self]
 intro r hr
 obtain ⟨j, hj, rfl⟩ := List.mem_iff_getElem.1 hr
 rw [List.length_take] at hj
 have := h2 j (by omega)
 rw [List.getElem_take]
 simpa using this
theorem b_df {rs : List (List T)} {a0 : List (List T)} {m c1 c2 n : Int} (h : pEq kAggT rs = true) : body lp0 ET135 99 [.c (.sl .own 6 rs), .fn 101 [.pt (nPO 0) 0 0 0, .pt (nPO 1) 0 0 0]] [.box true [.sl .ro 6 a0, tI m, tI c1, tI c2], .box true [tI n]] = some (.ret ⟨[.c (.sl .own 6 (sFil m n rs))], [], [.box true [], .box true []]⟩) := by
 obtain ⟨hs, hl, hn⟩ := pEq3 h
 rw [nf_99, h, cond_true, sCi_eq, sFil_eq]
 unfold mIdx
 cases hi : rs.findIdx? (fun r => !mCa m n r) with
 | none =>
  rw [List.findIdx?_eq_none_iff] at hi
  have : rs.filter (mCa m n) = rs := List.filter_eq_self.2 fun r hr => by simpa using hi r hr
  rw [this]
  have q : sEq (-1 : Int) (Int.negSucc 0) = true := by rw [sEq_eq]; rfl
  show (bif sEq (-1 : Int) (Int.negSucc 0) then _ else _) = _
  rw [q]; rfl
 | some i =>
  obtain ⟨hlt, ht⟩ := mIdx_take hi
  have q : sEq (i : Int) (Int.negSucc 0) = false := by rw [sEq_eq]; exact decide_eq_false (by omega)
  have ea := add1i (show i < reachBytes from Nat.lt_of_lt_of_le hlt hn)
  dsimp only
  rw [q, cond_false, ea]
  refine del_elim (p := mCa m n) (fun xs i k hk hik hxl hx => ?_) (fun xs i => ?_) (by omega) (by omega) (fun r hr => shRs_mem hs hr) ht.symm (fun xs' i' e2 e3 e4 => ?_)
  rotate_left 2
  ·have l1 : sLe (i' : Int) (Int.ofNat (sLen rs)) = true := by rw [sLen_eq, natI, sLeN]; exact decide_eq_true (by omega)
   obtain ⟨d, hd⟩ : ∃ d, sLen rs - (i' : Int).toNat = d + 1 := ⟨rs.length - i' - 1, by rw [sLen_eq, Int.toNat_natCast]; omega⟩
   simp only [LRes.elim', Option.elim_some, tAt0, tAt1, tAt2, iT_im, rT_sl, okT_i, okT_s, Bool.and_true, Bool.true_and, cond_true, le_0', l1, hd, le00]
   have z : sCut false (Int.toNat 0) ((i' : Int).toNat - Int.toNat 0) (sZap (i' : Int).toNat (d + 1) [tI 0, tI 0, tI 0, tI 0, tI 0, tI 0] xs') = rs.filter (mCa m n) := by
    rw [sCut_eq, sZap_eq, ← e2, Int.toNat_natCast]
    unfold cut zap
    show List.take (i' - 0) (List.drop 0 _) = _
    rw [Nat.sub_zero, List.drop_zero, List.append_assoc, List.take_append_of_le_length (by rw [List.length_take]; omega), List.take_take, Nat.min_self]
   rw [z]
  ·have h1 := hx _ (List.getElem_mem hk)
   have hxs : shRs kAggT xs = true := shRs_of hx
   have hk3 : k < rs.length := by omega
   have hk' : sOkC [.int .i64, .int .i64, .int .i64, .int .i64, .int .i64, .int .i64] xs (k : Int).toNat 0 = true := okc_sh' hxs hk
   have h2 : sShR kAggT xs[k] = true := by rw [sShR_eq]; exact h1
   have li : sLt (i : Int) (Int.ofNat (sLen rs)) = true := by rw [sLen_eq, natI, sLtN]; exact decide_eq_true (by omega)
   simp only [tAt0, tAt1, tAt2, iT_im, rT_sl, okT_i, okT_s, Bool.and_true, Bool.true_and, cond_true, lt_len hk3, li, le_0, le_0', hk', agg_row hk h1, h2, sCa_eq, add1i (show k < reachBytes from Nat.lt_of_lt_of_le hk3 hn), add1i (show i < reachBytes from Nat.lt_of_lt_of_le (by omega) hn), Bool.not_not]
   cases mCa m n xs[k] with
   | false => rfl
   | true =>
    rw [cond_true, cond_true, sSetRow_eq]
    have : setRow xs (i : Int).toNat 0 xs[k] = xs.set i xs[k] := by
     have hil : i < xs.length := by omega
     have l0 : ∀ {r : List T}, shR kAggT r = true → r.length = 6 := fun {r} h => by obtain ⟨b0, b1, b2, b3, b4, b5, e, _⟩ := row_Agg h; rw [e]; rfl
     have l1 := l0 (hx _ (List.getElem_mem hil))
     have l2 := l0 h1
     rw [Int.toNat_natCast, setRow]
     congr 1
     rw [List.getD_eq_getElem?_getD, List.getElem?_eq_getElem hil, Option.getD_some, splice, List.take_zero, List.nil_append, List.drop_of_length_le (by omega), List.append_nil]
    rw [this]; rfl
  ·simp only [tAt0, tAt1, tAt2, iT_im, rT_sl, okT_i, okT_s, Bool.and_true, Bool.true_and, cond_true, cond_false, lt_len']
theorem co_fl (f f' : Fl) (a : List (List T)) (ts : List T) (n : Int) : mCo (.sl f 6 a :: ts) n = mCo (.sl f' 6 a :: ts) n := by
 unfold mCo; rw [shardOk_fl f f']; rfl
theorem shard40 {f : Fl} {a : List (List T)} {ts : List T} (h : mShardOk (.sl f 6 a :: ts) = true) : a.length ≤ 40 := by
 rw [mShardOk_eq] at h
 simp only [Bool.and_eq_true, decide_eq_true_eq] at h
 exact h.1.1.1.1.1
theorem shard_pEq {a : List (List T)} {b c d : Int} (h : pEqR kShard [.sl .ro 6 a, tI b, tI c, tI d] = true) : pEq kAggT a = true ∧ shRs kAggT a = true := by
 rw [pEqR_eq, Bool.and_eq_true] at h
 obtain ⟨fa, g, m, u, v, e, g0⟩ := row_Shard h.1
 obtain ⟨rfl, rfl⟩ : Fl.ro = fa ∧ a = g := by
  have := congrArg (fun l : List T => l.getD 0 .no) e
  simp only [List.getD_cons_zero] at this
  injection this with h1 h2 h3
  exact ⟨h1, h3⟩
 have hl := h.2
 simp only [lenR, lenT, Bool.and_eq_true, decide_eq_true_eq] at hl
 exact ⟨by rw [pEq_eq]; simp [g0, hl], g0⟩
theorem noRo_agg {a : List (List T)} (g : shRs kAggT a = true) : sNoRo (.sl .own 6 a) = true := noRo_flt (row := kAggT) rfl g 6
theorem fil_sh {a : List (List T)} (p : List T → Bool) (g : shRs kAggT a = true) : shRs kAggT (a.filter p) = true := shRs_of fun r hr => shRs_mem g (List.mem_filter.1 hr).1
theorem co_sh {ts : List T} {n : Int} (g : shRs kAggT (ts.getD 0 .no).rws = true) : shRs kAggT (mCo ts n) = true := by
 unfold mCo
 cases (mShardOk ts && mIn n 1 1000000) with
 | true => exact fil_sh _ g
 | false => rfl
theorem b_co_impl {ts : List T} {n : Int} (hr : ts.all roT = true) (h : pEqR kShard ts = true) : body lp0 ET137 62 [.ag ts, aI n] [] = some (.ret ⟨[.c (.sl .own 6 (sCo ts n))], [], []⟩) := by
 have h' := h
 rw [pEqR_eq, Bool.and_eq_true] at h'
 obtain ⟨a0, a1, a2, a3, rfl, g0⟩ := rowr_Shard h'.1 hr
 obtain ⟨he, -⟩ := shard_pEq h
 rw [nf_62, h, sCo_eq, sFil_eq]
 unfold mCo
 rw [cond_true]
 cases hm : mShardOk [.sl .ro 6 a0, tI a1, tI a2, tI a3] with
 | false => simp only [Bool.not_false, Bool.not_true, cond_true, cond_false, Option.elim_some, vAt0, okVl_b, bV_b, Bool.and_true, Bool.false_and, Bool.true_and, Bool.and_false]
 | true =>
  cases hn : mIn n 1 1000000 with
  | false => simp only [Bool.not_false, Bool.not_true, cond_true, cond_false, Option.elim_some, vAt0, okVl_b, bV_b, Bool.and_true, Bool.false_and, Bool.true_and, Bool.and_false]
  | true =>
   have hf : pFl kAggT a0 = true := by rw [pFl_eq, g0, decide_eq_true (Nat.le_trans (shard40 hm) (by decide))]; rfl
   simp only [Bool.not_true, cond_false, cond_true, Option.elim_some, vAt0, okVl_b, bV_b, Bool.and_true, hf, he, noRo_agg g0, noRo_agg (fil_sh _ g0)]
   rw [cI1]; rfl
theorem fil_fold (p : List T → Bool) : ∀ (cs o : List (List T)), cs.foldl (fun o r => bif p r then o ++ [r] else o) o = o ++ cs.filter p
 | [], o => by simp
 | r :: cs, o => by
  rw [List.foldl_cons, fil_fold p cs]
  cases hp : p r <;> simp [List.filter, hp]
theorem b_co_spec {ts : List T} {n : Int} (hr : ts.all roT = true) (h : pEqR kShard ts = true) : body lp0 ET136 60 [.ag ts, aI n] [] = some (.ret ⟨[.c (.sl .own 6 (sCo ts n))], [], []⟩) := by
 have h' := h
 rw [pEqR_eq, Bool.and_eq_true] at h'
 obtain ⟨a0, a1, a2, a3, rfl, g0⟩ := rowr_Shard h'.1 hr
 rw [nf_60, h, sCo_eq]
 unfold mCo
 rw [cond_true]
 cases hm : mShardOk [.sl .ro 6 a0, tI a1, tI a2, tI a3] with
 | false => simp only [Bool.not_false, Bool.not_true, cond_true, cond_false, Option.elim_some, vAt0, okVl_b, bV_b, Bool.and_true, Bool.false_and, Bool.true_and, Bool.and_false]
 | true =>
  cases hn : mIn n 1 1000000 with
  | false => simp only [Bool.not_false, Bool.not_true, cond_true, cond_false, Option.elim_some, vAt0, okVl_b, bV_b, Bool.and_true, Bool.false_and, Bool.true_and, Bool.and_false]
  | true =>
   have h40 := shard40 hm
   simp only [Bool.not_true, cond_false, cond_true, Option.elim_some, vAt0, okVl_b, bV_b, Bool.and_true]
   have tn : ∀ k : Nat, Int.ofNat ((Int.ofNat k)).toNat = Int.ofNat k := fun k => rfl
   have key := fun F h1 h2 => lp0_foldl (F := F) (ds0 := [.sl .own 6 [], tI (Int.ofNat 0), tI 0]) a0 (fun i (out : List (List T)) => [.sl .own 6 out, tI (Int.ofNat (sLen out)), tI i]) (fun o r => bif mCa a1 n r then o ++ [r] else o) (fun i out => out.length ≤ i) (fun out => [.sl .own 6 out, tI (Int.ofNat (sLen out)), tI a0.length]) [] (by rw [sLen_eq]; rfl) (Nat.le_refl _) h1 h2
   rw [(key _ (fun i out hi hI => ?_) (fun out hI => ?_)).2]
   ·rw [fil_fold, List.nil_append]
    simp only [LRes.elim', Option.elim_some, tAt0, tAt1, tAt2, iT_im, rT_sl, okT_i, okT_s, Bool.and_true, cond_true]
    rw [cI1]; rfl
   ·have h1 := shRs_get g0 hi
    obtain ⟨b0, b1, b2, b3, b4, b5, hrr, _⟩ := row_Agg h1
    have hc0 : sCell a0 (i : Int).toNat 0 = tI b0 := by rw [cell_at' hi, hrr]; rfl
    have k1 : sOkC [.int .i64] a0 (i : Int).toNat 0 = true := by rw [sOkC_eq]; simp only [okCells, ← sCell_eq, hc0]; rfl
    have k2 : sOkC [.int .i64, .int .i64, .int .i64, .int .i64, .int .i64, .int .i64] a0 (i : Int).toNat 0 = true := okc_sh' g0 hi
    have hca : sLe (sWE (iT (sCell a0 (i : Int).toNat 0)) n) a1 = mCa a1 n a0[i] := by rw [sLe_eq, sWE_eq, cI_at hi]; rfl
    have hfl : sFlat [a0[i]] = true := by rw [sFlat_eq, hrr]; rfl
    have hfit : sFit (sLen out + sLen [a0[i]]) = true := by rw [sFit_eq, sLen_eq, sLen_eq, Nat.blt_eq]; simp; omega
    have ea := add1i (show i < reachBytes from Nat.lt_of_lt_of_le hi (Nat.le_trans h40 (by decide)))
    refine ⟨?_, ?_⟩
    ·simp only [tAt0, tAt1, tAt2, iT_im, rT_sl, okT_i, okT_s, Bool.and_true, Bool.true_and, cond_true, lt_t hi, le_0', k1, k2, hca, agg_row hi h1, hfl, hfit, ea, tn, sApp_eq]
     cases mCa a1 n a0[i] <;> rfl
    ·cases mCa a1 n a0[i] with
     | false => exact Nat.le_succ_of_le hI
     | true => show (out ++ [a0[i]]).length ≤ i + 1; rw [List.length_append]; exact Nat.succ_le_succ hI
   ·simp only [tAt0, tAt1, tAt2, iT_im, rT_sl, okT_i, okT_s, Bool.and_true, Bool.true_and, cond_true, cond_false, lt_f, tn]
theorem b_hc {ts : List T} (hr : ts.all roT = true) (h : pCn ts = true) : body lp0 ET138 96 [.ag ts] [] = some (.ret (oB (sHas ts))) := by
 have h' := h
 rw [pCn_eq] at h'
 simp only [Bool.and_eq_true] at h'
 obtain ⟨a0, a1, a2, a3, a4, a5, a6, rfl, _⟩ := rowr_Conn h'.1.1 hr
 rw [nf_96, h, cond_true]
theorem b_hi {rs : List (List T)} (h : pCns rs = true) : body lp0 ET139 118 [.c (.sl .ro 7 rs), .fn 96 []] [] = some (.ret (oI (sIdx sHas rs))) := by
 rw [pCns_eq, Bool.and_eq_true, decide_eq_true_eq, List.all_eq_true] at h
 have hs : shRs kConn rs = true := shRs_of fun r hr => by
  have := h.1 r hr
  rw [pCn_eq] at this
  simp only [Bool.and_eq_true] at this
  exact this.1.1
 rw [nf_118_2, sIdx_eq]
 refine idx_loop (fun i hi => ?_) ?_
 ·obtain ⟨fa0, a0, a1, a2, a3, a4, a5, a6, hrr, g0⟩ := row_Conn (shRs_get hs hi)
  have hp := h.1 _ (List.getElem_mem hi)
  rw [hrr, pCn_eq] at hp
  have hk : sOkC [.sl 1, .bool, .int .i64, .int .i64, .int .i64, .bool, .bool] rs (i : Int).toNat 0 = true := okc_sh' hs hi
  have c0 : sCell rs (i : Int).toNat 0 = .sl fa0 1 a0 := by rw [cell_at' hi, hrr]; rfl
  have c1 : sCell rs (i : Int).toNat 1 = tB a1 := by rw [cell_at' hi, hrr]; rfl
  have c2 : sCell rs (i : Int).toNat 2 = tI a2 := by rw [cell_at' hi, hrr]; rfl
  have c3 : sCell rs (i : Int).toNat 3 = tI a3 := by rw [cell_at' hi, hrr]; rfl
  have c4 : sCell rs (i : Int).toNat 4 = tI a4 := by rw [cell_at' hi, hrr]; rfl
  have c5 : sCell rs (i : Int).toNat 5 = tB a5 := by rw [cell_at' hi, hrr]; rfl
  have c6 : sCell rs (i : Int).toNat 6 = tB a6 := by rw [cell_at' hi, hrr]; rfl
  have hp2 : pCn [.sl .ro 1 a0, tB a1, tI a2, tI a3, tI a4, tB a5, tB a6] = true := by
   rw [pCn_eq]
   simp only [Bool.and_eq_true] at hp ⊢
   refine ⟨⟨?_, hp.1.2⟩, hp.2⟩
   simp [shR, shT, g0]
  simp only [tAt0, tAt1, okT_i, iT_im, bT_im, rT_sl, slT_sl, Bool.and_true, cond_true, lt_len hi, le_0, hk, c0, c1, c2, c3, c4, c5, c6, hp2, add1i (Nat.lt_of_lt_of_le hi (Nat.le_trans h.2 (by decide)))]
  rw [hrr, sHas_eq, sHas_eq, mHas_row, mHas_row]
  cases (mDecOk [.sl .ro 1 a0, tB a1] && !a1 && decide ((mTF a0).2 ≠ 0)) <;> rfl
 ·simp only [tAt0, tAt1, okT_i, iT_im, Bool.and_true, cond_true, cond_false, lt_len']
theorem b_ha {rs : List (List T)} (h : pCns rs = true) : body lp0 ET140 83 [.c (.sl .ro 7 rs), .fn 96 []] [] = some (.ret (oB (sAny sHas rs))) := by
 rw [nf_83_2, h, any_idx]; rfl
theorem eng_cns {ts : List T} (h : pToR kEngine ts = true) (w : pWf ts = true) (hr : ts.all roT = true) : pCns (ts.getD 11 .no).rws = true := by
 rw [pToR_eq, Bool.and_eq_true] at h
 rw [pWf_eq] at w
 obtain ⟨a0, a1, a2, a3, a4, a5, a6, a7, a8, a9, a10, a11, a12, a13, a14, a15, a16, a17, a18, a19, a20, a21, a22, a23, rfl, g11, g12, g13, g14, g15, g17⟩ := rowr_Engine h.1 hr
 have hl := h.2
 simp only [lenR, lenT, Bool.and_eq_true, decide_eq_true_eq] at hl
 simp only [wfR, wfT, Bool.and_eq_true] at w
 show pCns a11 = true
 rw [pCns_eq, Bool.and_eq_true, List.all_eq_true, decide_eq_true_eq]
 exact ⟨conn_cn g11 (by simp [w]) (by simp [hl]), by simp [hl]⟩
theorem b_dry {ts : List T} (hr : ts.all roT = true) (h : pToR kEngine ts = true) (w : pWf ts = true) : body lp0 ET141 61 [.pt (nPO 0) 0 0 0] [.box true ts] = some (.ret ⟨[aB (!sAny sHas (ts.getD 11 .no).rws)], [], [.box true []]⟩) := by
 have hc := eng_cns h w hr
 rw [pToR_eq, Bool.and_eq_true] at h
 obtain ⟨a0, a1, a2, a3, a4, a5, a6, a7, a8, a9, a10, a11, a12, a13, a14, a15, a16, a17, a18, a19, a20, a21, a22, a23, rfl, g11, g12, g13, g14, g15, g17⟩ := rowr_Engine h.1 hr
 have hc : pCns a11 = true := hc
 rw [nf_61, hc]; rfl
theorem mQuiet_at (ts : List T) : mQuiet ts = (!((ts.getD 11 .no).rws.any mHas) && decide ((ts.getD 12 .no).rws.length = 0)) := by rw [mQuiet, sld_eq]
theorem b_quiet {ts : List T} (hr : ts.all roT = true) (hh : (pToR kEngine ts && pWf ts) = true) : body lp0 ET142 59 [.ag ts] [] = some (.ret (oB (mQuiet ts))) := by
 have hh' := hh
 rw [Bool.and_eq_true] at hh'
 have h := hh'.1
 rw [pToR_eq, Bool.and_eq_true] at h
 obtain ⟨a0, a1, a2, a3, a4, a5, a6, a7, a8, a9, a10, a11, a12, a13, a14, a15, a16, a17, a18, a19, a20, a21, a22, a23, rfl, g11, g12, g13, g14, g15, g17⟩ := rowr_Engine h.1 hr
 have hl := h.2
 simp only [lenR, lenT, Bool.and_eq_true, decide_eq_true_eq] at hl
 have n11 : a11.length ≤ 1048576 := by simp [hl]
 rw [nf_59, mQuiet_at, hh]
 rw [all_loopD (ds0 := [tB false, tI 0]) (fun i => [tB false, tI i]) a11.length (fun i => !mHas (a11.getD i [])) (o := oB false) rfl (fun i hi => ?_) ?_]
 ·rw [range_all_rows (fun r => !mHas r), ← List.not_any_eq_all_not]
  show _ = some (LRes.ret (oB (!(a11.any mHas) && decide (a12.length = 0))))
  cases a11.any mHas with
  | true => rfl
  | false =>
   simp only [Bool.not_false, cond_true, LRes.elim', Option.elim_some, tAt0, tAt1, iT_im, bT_im, okT_i, okT_b, Bool.and_true, Bool.true_and, sEq_eq, sLen_eq, natI]
   have : decide ((a12.length : Int) = 0) = decide (a12.length = 0) := by rw [Bool.eq_iff_iff]; simp only [decide_eq_true_eq]; omega
   rw [this]
 ·simp only [tAt0, tAt1, iT_im, bT_im, okT_i, okT_b, Bool.and_true, cond_true, cond_false, lt_f]
 ·have e : sRb [tI a0, tI a1, tI a2, tI a3, tI a4, tI a5, tI a6, tI a7, tI a8, tI a9, tI a10, .sl .ro 7 a11, .sl .ro 5 a12, .sl .ro 1 a13, .sl .ro 4 a14, .sl .ro 6 a15, tI a16, .sl .ro 1 a17, tI a18, tI a19, tI a20, tI a21, tI a22, tI a23] i = mHas (a11.getD i []) := by
   rw [sRb_eq]
   show (decide (0 ≤ (i : Int)) && decide ((i : Int) < (a11.length : Int)) && mHas (a11.getD (i : Int).toNat [])) = _
   rw [decide_eq_true (by omega), decide_eq_true (by omega), Int.toNat_natCast]; rfl
  simp only [tAt0, tAt1, iT_im, bT_im, okT_i, okT_b, Bool.and_true, cond_true, lt_t hi, e, add1i (show i < reachBytes from Nat.lt_of_lt_of_le hi (Nat.le_trans n11 (by decide)))]
  cases mHas (a11.getD i []) <;> rfl
theorem mRest_at (ts : List T) : mRest ts = (mSafe ts && mQuiet ts && decide (mLens (ts.getD 13 .no).rws = 0) && decide ((ts.getD 15 .no).rws.length = 0) && (List.range (ts.getD 14 .no).rws.length).all (mRest1 ts)) := by rw [mRest, sld_eq]
theorem gt_dec (n : Nat) : sLt 0 (n : Int) = !decide (n = 0) := by
 rw [sLt_eq, Bool.eq_iff_iff]; simp only [decide_eq_true_eq, Bool.not_eq_true', decide_eq_false_iff_not]; omega
theorem safe_lens {a0 a1 a2 a3 a4 a5 a6 a7 a8 a9 a10 a16 a18 a19 a20 a21 a22 a23 : Int} {a11 a12 a13 a14 a15 a17 : List (List T)} (h : mSafe [tI a0, tI a1, tI a2, tI a3, tI a4, tI a5, tI a6, tI a7, tI a8, tI a9, tI a10, .sl .ro 7 a11, .sl .ro 5 a12, .sl .ro 1 a13, .sl .ro 4 a14, .sl .ro 6 a15, tI a16, .sl .ro 1 a17, tI a18, tI a19, tI a20, tI a21, tI a22, tI a23] = true) : a17.length = a14.length := by
 rw [mSafe_at, mHead_at] at h
 simp only [Bool.and_eq_true, decide_eq_true_eq] at h
 obtain ⟨⟨⟨⟨⟨⟨⟨⟨⟨-, -⟩, -⟩, q14⟩, q17⟩, -⟩, -⟩, -⟩, -⟩, -⟩ := h
 omega
theorem bor4 (a b c d : Bool) : (bif !a then some [Value.bool true] else bif !b then some [.bool true] else bif !c then some [.bool true] else some [.bool !d]) = some [.bool !(a && b && c && d)] := by cases a <;> cases b <;> cases c <;> cases d <;> rfl
theorem b_ar_spec {ts : List T} (hr : ts.all roT = true) (hh : (pToR kEngine ts && pWf ts) = true) : body lp0 ET143 17 [.ag ts] [] = some (.ret (oB (mRest ts))) := by
 have hh' := hh
 rw [Bool.and_eq_true] at hh'
 have h0 := hh'.1
 have h := h0
 rw [pToR_eq, Bool.and_eq_true] at h
 have h2 : pEqR kEngine ts = true := by rw [pEqR_eq, h.1, lenR_mono (by decide) h.2]; rfl
 rw [mRest_at]
 obtain ⟨a0, a1, a2, a3, a4, a5, a6, a7, a8, a9, a10, a11, a12, a13, a14, a15, a16, a17, a18, a19, a20, a21, a22, a23, rfl, g11, g12, g13, g14, g15, g17⟩ := rowr_Engine h.1 hr
 have hl := h.2
 simp only [lenR, lenT, Bool.and_eq_true, decide_eq_true_eq] at hl
 have n14 : a14.length ≤ 1048576 := by simp [hl]
 have l14 : lenRs 1048576 a14 = true := by simp [hl]
 rw [nf_17, h2, hh, h0]
 simp only [cond_true, sLens_eq, gt_dec, sLen_eq, natI]
 rw [bor4]
 show _ = some (LRes.ret (oB (mSafe [tI a0, tI a1, tI a2, tI a3, tI a4, tI a5, tI a6, tI a7, tI a8, tI a9, tI a10, .sl .ro 7 a11, .sl .ro 5 a12, .sl .ro 1 a13, .sl .ro 4 a14, .sl .ro 6 a15, tI a16, .sl .ro 1 a17, tI a18, tI a19, tI a20, tI a21, tI a22, tI a23] && mQuiet [tI a0, tI a1, tI a2, tI a3, tI a4, tI a5, tI a6, tI a7, tI a8, tI a9, tI a10, .sl .ro 7 a11, .sl .ro 5 a12, .sl .ro 1 a13, .sl .ro 4 a14, .sl .ro 6 a15, tI a16, .sl .ro 1 a17, tI a18, tI a19, tI a20, tI a21, tI a22, tI a23] && decide (mLens a13 = 0) && decide (a15.length = 0) && (List.range a14.length).all (mRest1 [tI a0, tI a1, tI a2, tI a3, tI a4, tI a5, tI a6, tI a7, tI a8, tI a9, tI a10, .sl .ro 7 a11, .sl .ro 5 a12, .sl .ro 1 a13, .sl .ro 4 a14, .sl .ro 6 a15, tI a16, .sl .ro 1 a17, tI a18, tI a19, tI a20, tI a21, tI a22, tI a23]))))
 generalize hB : (mSafe [tI a0, tI a1, tI a2, tI a3, tI a4, tI a5, tI a6, tI a7, tI a8, tI a9, tI a10, .sl .ro 7 a11, .sl .ro 5 a12, .sl .ro 1 a13, .sl .ro 4 a14, .sl .ro 6 a15, tI a16, .sl .ro 1 a17, tI a18, tI a19, tI a20, tI a21, tI a22, tI a23] && mQuiet [tI a0, tI a1, tI a2, tI a3, tI a4, tI a5, tI a6, tI a7, tI a8, tI a9, tI a10, .sl .ro 7 a11, .sl .ro 5 a12, .sl .ro 1 a13, .sl .ro 4 a14, .sl .ro 6 a15, tI a16, .sl .ro 1 a17, tI a18, tI a19, tI a20, tI a21, tI a22, tI a23] && decide (mLens a13 = 0) && decide (a15.length = 0)) = B
 cases B with
 | false => simp only [Bool.not_false, Bool.not_true, cond_true, cond_false, Option.elim_some, vAt0, okVl_b, bV_b, Bool.and_true, Bool.false_and, Bool.true_and, Bool.and_false]
 | true =>
  have hsafe : mSafe [tI a0, tI a1, tI a2, tI a3, tI a4, tI a5, tI a6, tI a7, tI a8, tI a9, tI a10, .sl .ro 7 a11, .sl .ro 5 a12, .sl .ro 1 a13, .sl .ro 4 a14, .sl .ro 6 a15, tI a16, .sl .ro 1 a17, tI a18, tI a19, tI a20, tI a21, tI a22, tI a23] = true := by
   simp only [Bool.and_eq_true] at hB
   exact hB.1.1.1
  have e17 := safe_lens hsafe
  simp only [Bool.not_true, Bool.true_and, cond_false, cond_true, Option.elim_some, vAt0, okVl_b, bV_b, Bool.and_true]
  rw [all_loopD (ds0 := [tB false, tI 0]) (fun i => [tB false, tI i]) a14.length (mRest1 [tI a0, tI a1, tI a2, tI a3, tI a4, tI a5, tI a6, tI a7, tI a8, tI a9, tI a10, .sl .ro 7 a11, .sl .ro 5 a12, .sl .ro 1 a13, .sl .ro 4 a14, .sl .ro 6 a15, tI a16, .sl .ro 1 a17, tI a18, tI a19, tI a20, tI a21, tI a22, tI a23]) (o := oB false) rfl (fun i hi => ?_) ?_]
  ·cases (List.range a14.length).all (mRest1 [tI a0, tI a1, tI a2, tI a3, tI a4, tI a5, tI a6, tI a7, tI a8, tI a9, tI a10, .sl .ro 7 a11, .sl .ro 5 a12, .sl .ro 1 a13, .sl .ro 4 a14, .sl .ro 6 a15, tI a16, .sl .ro 1 a17, tI a18, tI a19, tI a20, tI a21, tI a22, tI a23]) with
   | false => rfl
   | true => simp only [cond_true, LRes.elim', Option.elim_some, tAt0, tAt1, tAt2, iT_im, bT_im, rT_sl, okT_i, okT_b, okT_s, Bool.and_true]
  ·have lt14 : sLt (a14.length : Int) (a14.length : Int) = false := by rw [sLtN]; exact decide_eq_false (by omega)
   simp only [tAt0, tAt1, tAt2, iT_im, bT_im, rT_sl, okT_i, okT_b, okT_s, Bool.and_true, cond_true, cond_false, lt14]
  ·have hi17 : i < a17.length := by omega
   obtain ⟨fg, g, m, u, v, hg, gg⟩ := row_Shard (shRs_get g14 hi)
   obtain ⟨s, hsn, _⟩ := row_Int (shRs_get g17 hi17)
   have lg := lenRs_get l14 hi
   rw [hg] at lg
   simp only [lenR, lenT, Bool.and_eq_true, decide_eq_true_eq] at lg
   have kg : sOkC [.sl 6, .int .i64, .int .i64, .int .i64] a14 (i : Int).toNat 0 = true := okc_sh' g14 hi
   have ks : sOkC [.int .i64] a17 (i : Int).toNat 0 = true := okc_sh' g17 hi17
   have c0 : sCell a14 (i : Int).toNat 0 = .sl fg 6 g := by rw [cell_at' hi, hg]; rfl
   have c1 : sCell a14 (i : Int).toNat 1 = tI m := by rw [cell_at' hi, hg]; rfl
   have c2 : sCell a14 (i : Int).toNat 2 = tI u := by rw [cell_at' hi, hg]; rfl
   have c3 : sCell a14 (i : Int).toNat 3 = tI v := by rw [cell_at' hi, hg]; rfl
   have cs : sCell a17 (i : Int).toNat 0 = tI s := by rw [cell_at' hi17, hsn]; rfl
   have pg : pEqR kShard [.sl .ro 6 g, tI m, tI u, tI v] = true := by
    rw [pEqR_eq, Bool.and_eq_true]
    refine ⟨by simp [shR, shT, gg], ?_⟩
    simp only [lenR, lenT, Bool.and_eq_true, decide_eq_true_eq]
    exact ⟨⟨Nat.le_trans lg.1.1 (by decide), lenRs_mono (by decide) lg.1.2⟩, trivial, trivial, trivial, trivial⟩
   have hno : sNoRo (.sl .own 6 (mCo [.sl .ro 6 g, tI m, tI u, tI v] a2)) = true := noRo_agg (co_sh gg)
   have hR : mRest1 [tI a0, tI a1, tI a2, tI a3, tI a4, tI a5, tI a6, tI a7, tI a8, tI a9, tI a10, .sl .ro 7 a11, .sl .ro 5 a12, .sl .ro 1 a13, .sl .ro 4 a14, .sl .ro 6 a15, tI a16, .sl .ro 1 a17, tI a18, tI a19, tI a20, tI a21, tI a22, tI a23] i = (decide ((mCo [.sl .ro 6 g, tI m, tI u, tI v] a2).length = 0) && decide (s = a16)) := by
    show (decide ((mCo (a14.getD i []) (iT (tI a2))).length = 0) && decide (iT ((a17.getD i []).getD 0 .no) = iT (tI a16))) = _
    rw [getD_at hi, getD_at hi17, hg, hsn, iT_im, iT_im, co_fl fg .ro]
    rw [List.getD_cons_zero, iT_im]
   have lt17 : sLt (i : Int) (a17.length : Int) = true := by rw [sLtN]; exact decide_eq_true hi17
   have lt14 : sLt (i : Int) (a14.length : Int) = true := by rw [sLtN]; exact decide_eq_true hi
   simp only [tAt0, tAt1, tAt2, iT_im, bT_im, rT_sl, slT_sl, okT_i, okT_b, okT_s, Bool.and_true, Bool.true_and, cond_true, lt14, lt17, le_0', kg, ks, c0, c1, c2, c3, cs, pg, hno, sCo_eq, gt_dec, sEq_eq, hR, add1i (show i < reachBytes from Nat.lt_of_lt_of_le hi (Nat.le_trans n14 (by decide)))]
   cases decide ((mCo [.sl .ro 6 g, tI m, tI u, tI v] a2).length = 0) <;> cases decide (s = a16) <;> simp only [Bool.not_false, Bool.not_true, cond_true, cond_false, Option.elim_some, vAt0, okVl_b, bV_b, Bool.and_true, Bool.false_and, Bool.true_and, Bool.and_false]
theorem b_ar_impl {ts : List T} (hr : ts.all roT = true) (hh : (pToR kEngine ts && pWf ts) = true) : body lp0 ET144 18 [.ag ts] [] = some (.ret (oB (mRest ts))) := by
 have hh' := hh
 rw [Bool.and_eq_true] at hh'
 have h0 := hh'.1
 have h := h0
 rw [pToR_eq, Bool.and_eq_true] at h
 have h2 : pEqR kEngine ts = true := by rw [pEqR_eq, h.1, lenR_mono (by decide) h.2]; rfl
 rw [mRest_at]
 obtain ⟨a0, a1, a2, a3, a4, a5, a6, a7, a8, a9, a10, a11, a12, a13, a14, a15, a16, a17, a18, a19, a20, a21, a22, a23, rfl, g11, g12, g13, g14, g15, g17⟩ := rowr_Engine h.1 hr
 have hl := h.2
 simp only [lenR, lenT, Bool.and_eq_true, decide_eq_true_eq] at hl
 have n14 : a14.length ≤ 1048576 := by simp [hl]
 have l14 : lenRs 1048576 a14 = true := by simp [hl]
 rw [nf_18, h2, hh, h0]
 simp only [cond_true, sLens_eq, gt_dec, sLen_eq, natI]
 have e5 : (bif !!sAny sHas a11 then some [Value.bool true] else bif !decide (a12.length = 0) then some [.bool true] else bif !decide (mLens a13 = 0) then some [.bool true] else some [.bool !decide (a15.length = 0)]) = (bif !mQuiet [tI a0, tI a1, tI a2, tI a3, tI a4, tI a5, tI a6, tI a7, tI a8, tI a9, tI a10, .sl .ro 7 a11, .sl .ro 5 a12, .sl .ro 1 a13, .sl .ro 4 a14, .sl .ro 6 a15, tI a16, .sl .ro 1 a17, tI a18, tI a19, tI a20, tI a21, tI a22, tI a23] then some [.bool true] else bif !decide (mLens a13 = 0) then some [.bool true] else some [.bool !decide (a15.length = 0)]) := by
  rw [mQuiet_at, sAny_eq, show sHas = mHas from funext sHas_eq]
  show _ = (bif !(!(a11.any mHas) && decide (a12.length = 0)) then _ else _)
  cases a11.any mHas <;> cases decide (a12.length = 0) <;> rfl
 rw [e5]
 rw [bor4]
 show _ = some (LRes.ret (oB (mSafe [tI a0, tI a1, tI a2, tI a3, tI a4, tI a5, tI a6, tI a7, tI a8, tI a9, tI a10, .sl .ro 7 a11, .sl .ro 5 a12, .sl .ro 1 a13, .sl .ro 4 a14, .sl .ro 6 a15, tI a16, .sl .ro 1 a17, tI a18, tI a19, tI a20, tI a21, tI a22, tI a23] && mQuiet [tI a0, tI a1, tI a2, tI a3, tI a4, tI a5, tI a6, tI a7, tI a8, tI a9, tI a10, .sl .ro 7 a11, .sl .ro 5 a12, .sl .ro 1 a13, .sl .ro 4 a14, .sl .ro 6 a15, tI a16, .sl .ro 1 a17, tI a18, tI a19, tI a20, tI a21, tI a22, tI a23] && decide (mLens a13 = 0) && decide (a15.length = 0) && (List.range a14.length).all (mRest1 [tI a0, tI a1, tI a2, tI a3, tI a4, tI a5, tI a6, tI a7, tI a8, tI a9, tI a10, .sl .ro 7 a11, .sl .ro 5 a12, .sl .ro 1 a13, .sl .ro 4 a14, .sl .ro 6 a15, tI a16, .sl .ro 1 a17, tI a18, tI a19, tI a20, tI a21, tI a22, tI a23]))))
 generalize hB : (mSafe [tI a0, tI a1, tI a2, tI a3, tI a4, tI a5, tI a6, tI a7, tI a8, tI a9, tI a10, .sl .ro 7 a11, .sl .ro 5 a12, .sl .ro 1 a13, .sl .ro 4 a14, .sl .ro 6 a15, tI a16, .sl .ro 1 a17, tI a18, tI a19, tI a20, tI a21, tI a22, tI a23] && mQuiet [tI a0, tI a1, tI a2, tI a3, tI a4, tI a5, tI a6, tI a7, tI a8, tI a9, tI a10, .sl .ro 7 a11, .sl .ro 5 a12, .sl .ro 1 a13, .sl .ro 4 a14, .sl .ro 6 a15, tI a16, .sl .ro 1 a17, tI a18, tI a19, tI a20, tI a21, tI a22, tI a23] && decide (mLens a13 = 0) && decide (a15.length = 0)) = B
 cases B with
 | false => simp only [Bool.not_false, Bool.not_true, cond_true, cond_false, Option.elim_some, vAt0, okVl_b, bV_b, Bool.and_true, Bool.false_and, Bool.true_and, Bool.and_false]
 | true =>
  have hsafe : mSafe [tI a0, tI a1, tI a2, tI a3, tI a4, tI a5, tI a6, tI a7, tI a8, tI a9, tI a10, .sl .ro 7 a11, .sl .ro 5 a12, .sl .ro 1 a13, .sl .ro 4 a14, .sl .ro 6 a15, tI a16, .sl .ro 1 a17, tI a18, tI a19, tI a20, tI a21, tI a22, tI a23] = true := by
   simp only [Bool.and_eq_true] at hB
   exact hB.1.1.1
  have e17 := safe_lens hsafe
  simp only [Bool.not_true, Bool.true_and, cond_false, cond_true, Option.elim_some, vAt0, okVl_b, bV_b, Bool.and_true]
  rw [all_loopD (ds0 := [.sl .ro 4 a14, tB false, tI 0]) (fun i => [.sl .ro 4 a14, tB false, tI i]) a14.length (mRest1 [tI a0, tI a1, tI a2, tI a3, tI a4, tI a5, tI a6, tI a7, tI a8, tI a9, tI a10, .sl .ro 7 a11, .sl .ro 5 a12, .sl .ro 1 a13, .sl .ro 4 a14, .sl .ro 6 a15, tI a16, .sl .ro 1 a17, tI a18, tI a19, tI a20, tI a21, tI a22, tI a23]) (o := oB false) rfl (fun i hi => ?_) ?_]
  ·cases (List.range a14.length).all (mRest1 [tI a0, tI a1, tI a2, tI a3, tI a4, tI a5, tI a6, tI a7, tI a8, tI a9, tI a10, .sl .ro 7 a11, .sl .ro 5 a12, .sl .ro 1 a13, .sl .ro 4 a14, .sl .ro 6 a15, tI a16, .sl .ro 1 a17, tI a18, tI a19, tI a20, tI a21, tI a22, tI a23]) with
   | false => rfl
   | true => simp only [cond_true, LRes.elim', Option.elim_some, tAt0, tAt1, tAt2, iT_im, bT_im, rT_sl, okT_i, okT_b, okT_s, Bool.and_true]
  ·have lt14 : sLt (a14.length : Int) (a14.length : Int) = false := by rw [sLtN]; exact decide_eq_false (by omega)
   simp only [tAt0, tAt1, tAt2, iT_im, bT_im, rT_sl, okT_i, okT_b, okT_s, Bool.and_true, cond_true, cond_false, lt14]
  ·have hi17 : i < a17.length := by omega
   obtain ⟨fg, g, m, u, v, hg, gg⟩ := row_Shard (shRs_get g14 hi)
   obtain ⟨s, hsn, _⟩ := row_Int (shRs_get g17 hi17)
   have lg := lenRs_get l14 hi
   rw [hg] at lg
   simp only [lenR, lenT, Bool.and_eq_true, decide_eq_true_eq] at lg
   have kg : sOkC [.sl 6, .int .i64, .int .i64, .int .i64] a14 (i : Int).toNat 0 = true := okc_sh' g14 hi
   have ks : sOkC [.int .i64] a17 (i : Int).toNat 0 = true := okc_sh' g17 hi17
   have c0 : sCell a14 (i : Int).toNat 0 = .sl fg 6 g := by rw [cell_at' hi, hg]; rfl
   have c1 : sCell a14 (i : Int).toNat 1 = tI m := by rw [cell_at' hi, hg]; rfl
   have c2 : sCell a14 (i : Int).toNat 2 = tI u := by rw [cell_at' hi, hg]; rfl
   have c3 : sCell a14 (i : Int).toNat 3 = tI v := by rw [cell_at' hi, hg]; rfl
   have cs : sCell a17 (i : Int).toNat 0 = tI s := by rw [cell_at' hi17, hsn]; rfl
   have pg : pEqR kShard [.sl .ro 6 g, tI m, tI u, tI v] = true := by
    rw [pEqR_eq, Bool.and_eq_true]
    refine ⟨by simp [shR, shT, gg], ?_⟩
    simp only [lenR, lenT, Bool.and_eq_true, decide_eq_true_eq]
    exact ⟨⟨Nat.le_trans lg.1.1 (by decide), lenRs_mono (by decide) lg.1.2⟩, trivial, trivial, trivial, trivial⟩
   have hno : sNoRo (.sl .own 6 (mCo [.sl .ro 6 g, tI m, tI u, tI v] a2)) = true := noRo_agg (co_sh gg)
   have hR : mRest1 [tI a0, tI a1, tI a2, tI a3, tI a4, tI a5, tI a6, tI a7, tI a8, tI a9, tI a10, .sl .ro 7 a11, .sl .ro 5 a12, .sl .ro 1 a13, .sl .ro 4 a14, .sl .ro 6 a15, tI a16, .sl .ro 1 a17, tI a18, tI a19, tI a20, tI a21, tI a22, tI a23] i = (decide ((mCo [.sl .ro 6 g, tI m, tI u, tI v] a2).length = 0) && decide (s = a16)) := by
    show (decide ((mCo (a14.getD i []) (iT (tI a2))).length = 0) && decide (iT ((a17.getD i []).getD 0 .no) = iT (tI a16))) = _
    rw [getD_at hi, getD_at hi17, hg, hsn, iT_im, iT_im, co_fl fg .ro]
    rw [List.getD_cons_zero, iT_im]
   have lt17 : sLt (i : Int) (a17.length : Int) = true := by rw [sLtN]; exact decide_eq_true hi17
   have lt14 : sLt (i : Int) (a14.length : Int) = true := by rw [sLtN]; exact decide_eq_true hi
   simp only [tAt0, tAt1, tAt2, iT_im, bT_im, rT_sl, slT_sl, okT_i, okT_b, okT_s, Bool.and_true, Bool.true_and, cond_true, lt14, lt17, le_0', kg, ks, c0, c1, c2, c3, cs, pg, hno, sCo_eq, gt_dec, sEq_eq, hR, add1i (show i < reachBytes from Nat.lt_of_lt_of_le hi (Nat.le_trans n14 (by decide)))]
   cases decide ((mCo [.sl .ro 6 g, tI m, tI u, tI v] a2).length = 0) <;> cases decide (s = a16) <;> simp only [Bool.not_false, Bool.not_true, cond_true, cond_false, Option.elim_some, vAt0, okVl_b, bV_b, Bool.and_true, Bool.false_and, Bool.true_and, Bool.and_false]
theorem good131 : Good Go.Proofs.Tryz.prog md0 (fun _ => .own) TL131 := good_WE (fun a b => b_we_spec a b) good130
theorem good132 : Good Go.Proofs.Tryz.prog md0 (fun _ => .own) TL132 := good_WE (fun a b => b_we_impl a b) good131
theorem good133 : Good Go.Proofs.Tryz.prog md0 (fun _ => .own) TL133 := good_Ca (b_ca) good132
theorem good134 : Good Go.Proofs.Tryz.prog md0 (fun _ => .own) TL134 := good_Cc (b_cc) good133
theorem good135 : Good Go.Proofs.Tryz.prog md0 (fun _ => .own) TL135 := good_Ci (b_ci) good134
theorem good136 : Good Go.Proofs.Tryz.prog md0 (fun _ => .own) TL136 := good_Df (b_df) good135
theorem good137 : Good Go.Proofs.Tryz.prog md0 (fun _ => .own) TL137 := good_Co (b_co_spec) good136
theorem good138 : Good Go.Proofs.Tryz.prog md0 (fun _ => .own) TL138 := good_Co (b_co_impl) good137
theorem good139 : Good Go.Proofs.Tryz.prog md0 (fun _ => .own) TL139 := good_Hc (fun hr h => b_hc hr h) good138
theorem good140 : Good Go.Proofs.Tryz.prog md0 (fun _ => .own) TL140 := good_Hi (fun h => b_hi h) good139
theorem good141 : Good Go.Proofs.Tryz.prog md0 (fun _ => .own) TL141 := good_Ha (fun h => b_ha h) good140
theorem good142 : Good Go.Proofs.Tryz.prog md0 (fun _ => .own) TL142 := good_Dry (fun hr h w => b_dry hr h w) good141
theorem good143 : Good Go.Proofs.Tryz.prog md0 (fun _ => .own) TL143 := good_R (fun hr h => b_quiet hr h) good142
theorem good144 : Good Go.Proofs.Tryz.prog md0 (fun _ => .own) TL144 := good_R (fun hr h => b_ar_spec hr h) good143
theorem good145 : Good Go.Proofs.Tryz.prog md0 (fun _ => .own) TL145 := good_R (fun hr h => b_ar_impl hr h) good144

end Go.Vm
