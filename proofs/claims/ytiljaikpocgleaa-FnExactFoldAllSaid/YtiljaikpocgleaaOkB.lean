/- what is right: each function -/
import Derived.Test.YtiljaikpocgleaaOkN
import Derived.Test.YtiljaikpocgleaaEngB
import Derived.Test.YtiljaikpocgleaaDa3
namespace Go.Vm
set_option linter.unusedVariables false
set_option linter.unusedSimpArgs false
theorem mIn_eq (a lo hi : Int) : mIn a lo hi = (decide (lo ≤ a) && decide (a ≤ hi)) := by rw [mIn, sld_eq]
theorem mAggOk_eq (r : List T) : mAggOk r = (mIn (cI r 0) 0 1000000 && mIn (cI r 1) 0 65535 && mIn (cI r 2) 1 1000000000 && mIn (cI r 3) (-1000000000) 1000000000 && mIn (cI r 4) (-1000000) 1000000 && mIn (cI r 5) (-1000000) 1000000 && decide (cI r 4 ≤ cI r 5)) := by rw [mAggOk, sld_eq]
theorem mSetupOk_eq (r : List T) : mSetupOk r = (mIn (cI r 0) 1 6 && mIn (cI r 1) 1 4 && mIn (cI r 2) 1 1000 && mIn (cI r 3) 0 1000 && mIn (cI r 4) 0 1000 && mIn (cI r 5) 1 20 && mIn (cI r 6) 1 20 && mIn (cI r 7) 1 20 && mIn (cI r 8) 1 40) := by rw [mSetupOk, sld_eq]
theorem mFrameOk_eq (r : List T) : mFrameOk r = ((decide (cI r 0 = 1) && mIn (cI r 1) 0 65535 && mIn (cI r 2) 0 1000000 && mIn (cI r 3) (-1000000) 1000000) || (decide (cI r 0 = 2) && decide (cI r 1 = 0) && mIn (cI r 2) 0 1000000 && decide (cI r 3 = 0)) || (decide (cI r 0 = 3) && decide (cI r 1 = 0) && decide (cI r 2 = 0) && decide (cI r 3 = 0))) := by rw [mFrameOk, sld_eq]
theorem mIsEvent_eq (r : List T) : mIsEvent r = (decide (cI r 0 = 1) && mFrameOk r) := by rw [mIsEvent, sld_eq]
theorem mMsgOk_eq (r : List T) (al : Bool) : mMsgOk r al = (mIn (cI r 4) (-1) 1000000 && (mIsEvent r || (al && decide (cI r 0 = 0) && decide (cI r 1 = 0) && decide (cI r 2 = 0) && decide (cI r 3 = 0)))) := by rw [mMsgOk, sld_eq]
theorem mSrcOk_eq (r : List T) : mSrcOk r = (mIn (cI r 0) (-1) 1000000 && mIn (cI r 1) (-1) 1000000 && mIn (cI r 2) 0 1000000000) := by rw [mSrcOk, sld_eq]
theorem mDecOk_eq (r : List T) : mDecOk r = (decide ((r.getD 0 .no).rws.length ≤ 400) && (!(Value.asB (r.getD 1 .no).val) || decide ((r.getD 0 .no).rws.length = 0))) := by rw [mDecOk, sld_eq]
theorem mAhead_eq (a b : List T) : mAhead a b = (decide (cI a 0 < cI b 0) || (decide (cI a 0 = cI b 0) && decide (cI a 1 < cI b 1))) := by rw [mAhead, sld_eq]
theorem mCmp_eq (a b : Int) : mCmp a b = if a < b then -1 else if b < a then 1 else 0 := by rw [mCmp, sld_eq]
theorem mOr_eq (a b : Int) : mOr a b = if a = 0 then b else a := by rw [mOr, sld_eq]
theorem mOrder_eq (a b : List T) : mOrder a b = mOr (mCmp (cI a 0) (cI b 0)) (mCmp (cI a 1) (cI b 1)) := by rw [mOrder, sld_eq]
theorem mNotAggOk_eq (r : List T) : mNotAggOk r = !mAggOk r := by rw [mNotAggOk, sld_eq]
theorem mAreAggs_eq (rs : List (List T)) : mAreAggs rs = rs.all mAggOk := by rw [mAreAggs, sld_eq]
theorem mSorted_eq (rs : List (List T)) : mSorted rs = (List.range rs.length).all fun i => decide (i = 0) || mAhead (rs.getD (i - 1) []) (rs.getD i []) := by rw [mSorted, sld_eq]
theorem mShardOk_eq (r : List T) : mShardOk r = (decide ((r.getD 0 .no).rws.length ≤ 40) && mAreAggs (r.getD 0 .no).rws && mSorted (r.getD 0 .no).rws && mIn (cI r 1) (-1) 1000000 && mIn (cI r 2) 0 1000000000 && mIn (cI r 3) 0 1000000000) := by rw [mShardOk, sld_eq]
theorem mBadIn_eq (r : List T) : mBadIn r = !mMsgOk r false := by rw [mBadIn, sld_eq]
theorem mBadQ_eq (r : List T) : mBadQ r = !mMsgOk r true := by rw [mBadQ, sld_eq]
theorem mBadConn_eq (r : List T) : mBadConn r = !(mSrcOk (r.drop 2) && mDecOk (r.take 2)) := by rw [mBadConn, sld_eq]
theorem sIdx_eq (q : List T → Bool) (rs : List (List T)) : sIdx q rs = match rs.findIdx? q with | some i => (i : Int) | none => -1 := by rw [sIdx, sld_eq]; rfl
theorem sAny_eq (q : List T → Bool) (rs : List (List T)) : sAny q rs = rs.any q := by rw [sAny, sld_eq]
theorem sShR_eq (row : List KT) (r : List T) : sShR row r = shR row r := by rw [sShR, sld_eq]
theorem negS (n : Nat) : Int.negSucc n = -((n : Int) + 1) := by omega

section
variable {P : Program} {md : FuncId → Option (List Mode)} {fl : FuncId → Fl} {l : List (Nat × GFn)} {f : Nat}
theorem good_In (hb : ∀ a b c : Int, body lp0 (EE P md fl l) f [aI a, aI b, aI c] [] = some (.ret (oB (mIn a b c)))) (hl : Good P md fl l) : Good P md fl ((f, gIn) :: l) := .cons (fun xs ps h => by
 unfold gIn at h ⊢
 split at h
 ·exact hb _ _ _
 ·cases h) hl
theorem good_In1 {lo hi : Int} (hb : ∀ a : Int, body lp0 (EE P md fl l) f [aI a] [] = some (.ret (oB (mIn a lo hi)))) (hl : Good P md fl l) : Good P md fl ((f, gIn1 lo hi) :: l) := .cons (fun xs ps h => by
 unfold gIn1 at h ⊢
 split at h
 ·exact hb _
 ·cases h) hl
theorem good_R {m p : List T → Bool} (hb : ∀ {ts}, ts.all roT = true → p ts = true → body lp0 (EE P md fl l) f [.ag ts] [] = some (.ret (oB (m ts)))) (hl : Good P md fl l) : Good P md fl ((f, gR m p) :: l) := .cons (fun xs ps h => by
 unfold gR at h ⊢
 split at h
 ·rw [Bool.and_eq_true] at h; exact hb h.1 h.2
 ·cases h) hl
theorem good_MsgOk (hb : ∀ {ts c}, sShR kMsg ts = true → body lp0 (EE P md fl l) f [.ag ts, aB c] [] = some (.ret (oB (mMsgOk ts c)))) (hl : Good P md fl l) : Good P md fl ((f, gMsgOk) :: l) := .cons (fun xs ps h => by
 unfold gMsgOk at h ⊢
 split at h
 ·rw [Bool.and_eq_true] at h; exact hb h.2
 ·cases h) hl
theorem good_RR (hb : ∀ {a b}, sShR kAggT a = true → sShR kAggT b = true → body lp0 (EE P md fl l) f [.ag a, .ag b] [] = some (.ret (oB (mAhead a b)))) (hl : Good P md fl l) : Good P md fl ((f, gAhead) :: l) := .cons (fun xs ps h => by
 unfold gAhead at h ⊢
 split at h
 ·simp only [Bool.and_eq_true] at h; exact hb h.1.2 h.2
 ·cases h) hl
theorem good_NaN (hb : ∀ a : Int, body lp0 (EE P md fl l) f [aI a] [] = some (.ret (oB false))) (hl : Good P md fl l) : Good P md fl ((f, gNaN) :: l) := .cons (fun xs ps h => by
 unfold gNaN at h ⊢
 split at h
 ·exact hb _
 ·cases h) hl
theorem good_Cmp (hb : ∀ a b : Int, body lp0 (EE P md fl l) f [aI a, aI b] [] = some (.ret (oI (mCmp a b)))) (hl : Good P md fl l) : Good P md fl ((f, gCmp) :: l) := .cons (fun xs ps h => by
 unfold gCmp at h ⊢
 split at h
 ·exact hb _ _
 ·cases h) hl
theorem good_Or (hb : ∀ a b : Int, body lp0 (EE P md fl l) f [.c (.sl .ro 1 [[tI a], [tI b]])] [] = some (.ret (oI (mOr a b)))) (hl : Good P md fl l) : Good P md fl ((f, gOr) :: l) := .cons (fun xs ps h => by
 unfold gOr at h ⊢
 split at h
 ·exact hb _ _
 ·cases h) hl
theorem good_Order (hb : ∀ {a b}, sShR kAggT a = true → sShR kAggT b = true → body lp0 (EE P md fl l) f [.ag a, .ag b] [] = some (.ret (oI (mOrder a b)))) (hl : Good P md fl l) : Good P md fl ((f, gOrder) :: l) := .cons (fun xs ps h => by
 unfold gOrder at h ⊢
 split at h
 ·simp only [Bool.and_eq_true] at h; exact hb h.1.2 h.2
 ·cases h) hl
theorem good_Idx {row : List KT} {L : List (Nat × (List T → Bool))} (hb : ∀ x ∈ L, ∀ {rs}, pEq row rs = true → body lp0 (EE P md fl l) f [.c (.sl .ro row.length rs), .fn x.1 []] [] = some (.ret (oI (sIdx x.2 rs)))) (hl : Good P md fl l) : Good P md fl ((f, gIdx row L) :: l) := .cons (fun xs ps h => by
 unfold gIdx at h ⊢
 split at h
 ·split at h
  ·rename_i x hx
   rw [Bool.and_eq_true] at h
   obtain rfl := beq_eq h.1
   have hm := List.mem_of_find?_eq_some hx
   have he := beq_eq (List.find?_eq_some_iff_append.1 hx).1
   have := hb x hm h.2
   rw [he] at this
   exact this
  ·cases h
 ·cases h) hl
theorem good_Cont {row : List KT} {L : List (Nat × (List T → Bool))} (hb : ∀ x ∈ L, ∀ {rs}, pEq row rs = true → body lp0 (EE P md fl l) f [.c (.sl .ro row.length rs), .fn x.1 []] [] = some (.ret (oB (sAny x.2 rs)))) (hl : Good P md fl l) : Good P md fl ((f, gCont row L) :: l) := .cons (fun xs ps h => by
 unfold gCont at h ⊢
 split at h
 ·split at h
  ·rename_i x hx
   rw [Bool.and_eq_true] at h
   obtain rfl := beq_eq h.1
   have hm := List.mem_of_find?_eq_some hx
   have he := beq_eq (List.find?_eq_some_iff_append.1 hx).1
   have := hb x hm h.2
   rw [he] at this
   exact this
  ·cases h
 ·cases h) hl
theorem good_Idx1 {row : List KT} {k : Nat} {q : List T → Bool} (hb : ∀ {rs}, pEq row rs = true → body lp0 (EE P md fl l) f [.c (.sl .ro row.length rs), .fn k []] [] = some (.ret (oI (sIdx q rs)))) (hl : Good P md fl l) : Good P md fl ((f, gIdx row [(k, q)]) :: l) :=
 good_Idx (fun x hx => by obtain rfl := List.mem_singleton.1 hx; exact hb) hl
theorem good_Cont1 {row : List KT} {k : Nat} {q : List T → Bool} (hb : ∀ {rs}, pEq row rs = true → body lp0 (EE P md fl l) f [.c (.sl .ro row.length rs), .fn k []] [] = some (.ret (oB (sAny q rs)))) (hl : Good P md fl l) : Good P md fl ((f, gCont row [(k, q)]) :: l) :=
 good_Cont (fun x hx => by obtain rfl := List.mem_singleton.1 hx; exact hb) hl
theorem good_Idx2 {row : List KT} {k k' : Nat} {q q' : List T → Bool} (hb : ∀ {rs}, pEq row rs = true → body lp0 (EE P md fl l) f [.c (.sl .ro row.length rs), .fn k []] [] = some (.ret (oI (sIdx q rs))))
  (hb' : ∀ {rs}, pEq row rs = true → body lp0 (EE P md fl l) f [.c (.sl .ro row.length rs), .fn k' []] [] = some (.ret (oI (sIdx q' rs)))) (hl : Good P md fl l) : Good P md fl ((f, gIdx row [(k, q), (k', q')]) :: l) :=
 good_Idx (fun x hx => by
  rcases List.mem_cons.1 hx with rfl | hx
  ·exact hb
  ·obtain rfl := List.mem_singleton.1 hx; exact hb') hl
theorem good_Cont2 {row : List KT} {k k' : Nat} {q q' : List T → Bool} (hb : ∀ {rs}, pEq row rs = true → body lp0 (EE P md fl l) f [.c (.sl .ro row.length rs), .fn k []] [] = some (.ret (oB (sAny q rs))))
  (hb' : ∀ {rs}, pEq row rs = true → body lp0 (EE P md fl l) f [.c (.sl .ro row.length rs), .fn k' []] [] = some (.ret (oB (sAny q' rs)))) (hl : Good P md fl l) : Good P md fl ((f, gCont row [(k, q), (k', q')]) :: l) :=
 good_Cont (fun x hx => by
  rcases List.mem_cons.1 hx with rfl | hx
  ·exact hb
  ·obtain rfl := List.mem_singleton.1 hx; exact hb') hl
theorem good_Aggs {m : List (List T) → Bool} (hb : ∀ {rs}, pEq kAggT rs = true → body lp0 (EE P md fl l) f [.c (.sl .ro 6 rs)] [] = some (.ret (oB (m rs)))) (hl : Good P md fl l) : Good P md fl ((f, gAggs m) :: l) := .cons (fun xs ps h => by
 unfold gAggs at h ⊢
 split at h
 ·rw [Bool.and_eq_true] at h; obtain rfl := beq_eq h.1; exact hb h.2
 ·cases h) hl
end

theorem b_in_l01In (a b c : Int) : body lp0 ET19 67 [aI a, aI b, aI c] [] = some (.ret (oB (mIn a b c))) := by
 rw [nf_67]
 simp only [bifV, Option.elim_some, vAt0, okVl_b, bV_b, Bool.and_true, cond_true, cB1, sLe_eq, mIn_eq]
theorem b_in_within (a b c : Int) : body lp0 ET20 53 [aI a, aI b, aI c] [] = some (.ret (oB (mIn a b c))) := by
 rw [nf_53]
 simp only [bifV, Option.elim_some, vAt0, okVl_b, bV_b, Bool.and_true, cond_true, cB1, sLe_eq, mIn_eq]

theorem b_aggOk_spec {ts : List T} (hr : ts.all roT = true) (h : sShR kAggT ts = true) : body lp0 ET31 97 [.ag ts] [] = some (.ret (oB (mAggOk ts))) := by
 rw [sShR_eq] at h
 obtain ⟨a0, a1, a2, a3, a4, a5, rfl, _⟩ := row_Agg h
 rw [nf_97]
 simp only [bifV, Option.elim_some, vAt0, okVl_b, bV_b, Bool.and_true, cond_true, cB1, sLe_eq, mAggOk_eq, cI0, cI1, cI2, cI3, cI4, cI5, Bool.and_assoc]; rfl
theorem b_aggOk_impl {ts : List T} (hr : ts.all roT = true) (h : sShR kAggT ts = true) : body lp0 ET32 60 [.ag ts] [] = some (.ret (oB (mAggOk ts))) := by
 rw [sShR_eq] at h
 obtain ⟨a0, a1, a2, a3, a4, a5, rfl, _⟩ := row_Agg h
 rw [nf_60]
 simp only [bifV, Option.elim_some, vAt0, okVl_b, bV_b, Bool.and_true, cond_true, cB1, sLe_eq, mAggOk_eq, cI0, cI1, cI2, cI3, cI4, cI5, Bool.and_assoc]; rfl
theorem frame_bool (a b c d : Int) : (bif decide (a = 1) then mIn b 0 65535 && (mIn c 0 1000000 && mIn d (-1000000) 1000000) else bif decide (a = 2) then decide (b = 0) && (mIn c 0 1000000 && decide (d = 0)) else decide (a = 3) && (decide (b = 0) && (decide (c = 0) && decide (d = 0)))) = mFrameOk [tI a, tI b, tI c, tI d] := by
 rw [mFrameOk_eq]
 simp only [cI0, cI1, cI2, cI3]
 by_cases h1 : a = 1
 ·subst h1; simp [Bool.and_assoc]
 ·by_cases h2 : a = 2
  ·subst h2; simp [Bool.and_assoc]
  ·simp [h1, h2, Bool.and_assoc]
theorem b_frameOk_spec {ts : List T} (hr : ts.all roT = true) (h : sShR kFrame ts = true) : body lp0 ET33 68 [.ag ts] [] = some (.ret (oB (mFrameOk ts))) := by
 rw [sShR_eq] at h
 obtain ⟨a0, a1, a2, a3, rfl, _⟩ := row_Frame h
 rw [nf_68, ← frame_bool]
 simp only [bifV, bifB, Option.elim_some, vAt0, okVl_b, bV_b, Bool.and_true, cond_true, cB1, sEq_eq]; rfl
theorem b_frameOk_impl {ts : List T} (hr : ts.all roT = true) (h : sShR kFrame ts = true) : body lp0 ET34 119 [.ag ts] [] = some (.ret (oB (mFrameOk ts))) := by
 rw [sShR_eq] at h
 obtain ⟨a0, a1, a2, a3, rfl, _⟩ := row_Frame h
 rw [nf_119, ← frame_bool]
 simp only [bifV, bifB, Option.elim_some, vAt0, okVl_b, bV_b, Bool.and_true, cond_true, cB1, sEq_eq]; rfl
theorem b_isEvent {ts : List T} (hr : ts.all roT = true) (h : sShR kFrame ts = true) : body lp0 ET35 72 [.ag ts] [] = some (.ret (oB (mIsEvent ts))) := by
 have h' := h
 rw [sShR_eq] at h
 obtain ⟨a0, a1, a2, a3, rfl, _⟩ := row_Frame h
 rw [nf_72, mIsEvent_eq, h']
 simp only [cond_true, bifV, bifB, Option.elim_some, vAt0, okVl_b, bV_b, Bool.and_true, cB1, sEq_eq, cI0]
theorem isEvent_msg (a b c d e : Int) : mIsEvent [tI a, tI b, tI c, tI d, tI e] = mIsEvent [tI a, tI b, tI c, tI d] := by
 rw [mIsEvent_eq, mIsEvent_eq, mFrameOk_eq, mFrameOk_eq]; rfl
theorem dec_bool (a : List (List T)) (b : Bool) : (sLe (Int.ofNat (sLen a)) 400 && (!b || sEq (Int.ofNat (sLen a)) 0)) = mDecOk [.sl .ro 1 a, tB b] := by
 have e : Value.asB (([T.sl .ro 1 a, tB b] : List T).getD 1 .no).val = b := rfl
 have e2 : (([T.sl .ro 1 a, tB b] : List T).getD 0 .no).rws = a := rfl
 rw [mDecOk_eq, e, e2, sLe_eq, sEq_eq, sLen_eq, natI]
 congr 1
 ·rw [Bool.eq_iff_iff, decide_eq_true_eq, decide_eq_true_eq]; omega
 ·congr 1
  rw [Bool.eq_iff_iff, decide_eq_true_eq, decide_eq_true_eq]; omega
theorem b_ahead {a b : List T} (h1 : sShR kAggT a = true) (h2 : sShR kAggT b = true) : body lp0 ET36 98 [.ag a, .ag b] [] = some (.ret (oB (mAhead a b))) := by
 rw [sShR_eq] at h1 h2
 obtain ⟨a0, a1, a2, a3, a4, a5, rfl, _⟩ := row_Agg h1
 obtain ⟨b0, b1, b2, b3, b4, b5, rfl, _⟩ := row_Agg h2
 rw [nf_98, mAhead_eq]
 simp only [bifV, Option.elim_some, vAt0, okVl_b, bV_b, Bool.and_true, cond_true, cB1, cB2, sLt_eq, sEq_eq, cI0, cI1]
theorem b_nan (a : Int) : body lp0 ET37 138 [aI a] [] = some (.ret (oB false)) := by
 rw [nf_138, sEq_rfl]; rfl
theorem b_cmp (a b : Int) : body lp0 ET38 124 [aI a, aI b] [] = some (.ret (oI (mCmp a b))) := by
 rw [nf_124, mCmp_eq, sLt_eq, sLt_eq]
 by_cases h1 : a < b
 ·rw [decide_eq_true h1, if_pos h1]; rfl
 ·rw [decide_eq_false h1, if_neg h1]
  by_cases h2 : b < a
  ·rw [decide_eq_true h2, if_pos h2]; rfl
  ·rw [decide_eq_false h2, if_neg h2]; rfl
theorem b_or (a b : Int) : body lp0 ET39 123 [.c (.sl .ro 1 [[tI a], [tI b]])] [] = some (.ret (oI (mOr a b))) := by
 rw [nf_123, mOr_eq]
 have k0 : sOkC [.int .i64] [[tI a], [tI b]] (0 : Int).toNat 0 = true := by rw [sOkC_eq]; rfl
 have k1 : sOkC [.int .i64] [[tI a], [tI b]] (1 : Int).toNat 0 = true := by rw [sOkC_eq]; rfl
 have c0 : sCell [[tI a], [tI b]] (0 : Int).toNat 0 = tI a := by rw [sCell_eq]; rfl
 have c1 : sCell [[tI a], [tI b]] (1 : Int).toNat 0 = tI b := by rw [sCell_eq]; rfl
 have l0 : sLt 0 (Int.ofNat (sLen [[tI a], [tI b]])) = true := by rw [sLt_eq, sLen_eq]; rfl
 have l1 : sLt 1 (Int.ofNat (sLen [[tI a], [tI b]])) = true := by rw [sLt_eq, sLen_eq]; rfl
 have l2 : sLt 2 (Int.ofNat (sLen [[tI a], [tI b]])) = false := by rw [sLt_eq, sLen_eq]; rfl
 have e0 : sLe 0 0 = true := by rw [sLe_eq]; rfl
 have e1 : sLe 0 1 = true := by rw [sLe_eq]; rfl
 have a0 : sAdd .i64 0 1 = 1 := by rw [sAdd_eq]; rfl
 have a1 : sAdd .i64 1 1 = 2 := by rw [sAdd_eq]; rfl
 rw [lp0_eq]
 simp only [tAt0, tAt1, okT_i, iT_im, Bool.and_true, Bool.true_and, cond_true, l0, e0, k0, c0, a0, sEq_eq]
 by_cases h1 : a = 0
 ·rw [decide_eq_true h1, if_pos h1]
  simp only [Bool.not_true, cond_false, Option.bind_some]
  rw [lp0_eq]
  simp only [tAt0, tAt1, okT_i, iT_im, Bool.and_true, Bool.true_and, cond_true, l1, e1, k1, c1, a1, sEq_eq]
  by_cases h2 : b = 0
  ·rw [decide_eq_true h2]
   simp only [Bool.not_true, cond_false, Option.bind_some]
   rw [lp0_eq]
   simp only [tAt0, tAt1, okT_i, iT_im, Bool.and_true, Bool.true_and, cond_true, l2, cond_false, Option.bind_some, Option.elim_some, LRes.elim']
   rw [h2]
  ·rw [decide_eq_false h2]
   simp only [Bool.not_false, cond_true, Option.bind_some, Option.elim_some, LRes.elim']
 ·rw [decide_eq_false h1, if_neg h1]
  simp only [Bool.not_false, cond_true, Option.bind_some, Option.elim_some, LRes.elim']
theorem b_order {a b : List T} (h1 : sShR kAggT a = true) (h2 : sShR kAggT b = true) : body lp0 ET40 93 [.ag a, .ag b] [] = some (.ret (oI (mOrder a b))) := by
 rw [sShR_eq] at h1 h2
 obtain ⟨a0, a1, a2, a3, a4, a5, rfl, _⟩ := row_Agg h1
 obtain ⟨b0, b1, b2, b3, b4, b5, rfl, _⟩ := row_Agg h2
 rw [nf_93, mOrder_eq]
 simp only [cI0, cI1]
theorem order_ahead (a b : List T) : sLe 0 (mOrder a b) = !mAhead a b := by
 rw [sLe_eq, mOrder_eq, mAhead_eq, mOr_eq, mCmp_eq, mCmp_eq]
 by_cases h1 : cI a 0 < cI b 0
 ·simp [h1]
 ·by_cases h2 : cI b 0 < cI a 0
  ·have : ¬ cI a 0 = cI b 0 := by omega
   simp [h1, h2, this]
  ·have h3 : cI a 0 = cI b 0 := by omega
   rw [if_neg h1, if_neg h2, if_pos rfl, decide_eq_false h1, decide_eq_true h3]
   by_cases h4 : cI a 1 < cI b 1
   ·simp [h4]
   ·by_cases h5 : cI b 1 < cI a 1
    ·simp [h4, h5]
    ·simp [h4, h5]
theorem b_areAggs1 {ts : List T} (hr : ts.all roT = true) (h : sShR kAggT ts = true) : body lp0 ET41 115 [.ag ts] [] = some (.ret (oB (mNotAggOk ts))) := by
 have h' := h
 rw [sShR_eq] at h
 obtain ⟨a0, a1, a2, a3, a4, a5, rfl, _⟩ := row_Agg h
 rw [nf_115, h', mNotAggOk_eq]; rfl

theorem row6 {rs : List (List T)} {i : Nat} (hs : shRs kAggT rs = true) (hi : i < rs.length) : [tI (cI rs[i] 0), tI (cI rs[i] 1), tI (cI rs[i] 2), tI (cI rs[i] 3), tI (cI rs[i] 4), tI (cI rs[i] 5)] = rs[i] := by
 obtain ⟨a0, a1, a2, a3, a4, a5, e, _⟩ := row_Agg (shRs_get hs hi)
 rw [e]; simp only [cI0, cI1, cI2, cI3, cI4, cI5]
theorem row5 {rs : List (List T)} {i : Nat} (hs : shRs kMsg rs = true) (hi : i < rs.length) : [tI (cI rs[i] 0), tI (cI rs[i] 1), tI (cI rs[i] 2), tI (cI rs[i] 3), tI (cI rs[i] 4)] = rs[i] := by
 obtain ⟨a0, a1, a2, a3, a4, e, _⟩ := row_Msg (shRs_get hs hi)
 rw [e]; simp only [cI0, cI1, cI2, cI3, cI4]
theorem agg_okc {rs : List (List T)} {i : Nat} (hs : shRs kAggT rs = true) (hi : i < rs.length) : sOkC [.int .i64, .int .i64, .int .i64, .int .i64, .int .i64, .int .i64] rs (i : Int).toNat 0 = true := okc_sh' hs hi
theorem msg_okc5 {rs : List (List T)} {i : Nat} (hs : shRs kMsg rs = true) (hi : i < rs.length) : sOkC [.int .i64, .int .i64, .int .i64, .int .i64, .int .i64] rs (i : Int).toNat 0 = true := okc_sh' hs hi
theorem sh_get {row : List KT} {rs : List (List T)} {i : Nat} (hs : shRs row rs = true) (hi : i < rs.length) : sShR row rs[i] = true := by rw [sShR_eq]; exact shRs_get hs hi
theorem pEq3 {row : List KT} {rs : List (List T)} (h : pEq row rs = true) : shRs row rs = true ∧ lenRs reachBytes rs = true ∧ rs.length ≤ reachBytes := by
 rw [pEq_eq] at h; simp only [Bool.and_eq_true, decide_eq_true_eq] at h; exact ⟨h.1.1, h.1.2, h.2⟩
theorem any_idx (q : List T → Bool) (rs : List (List T)) : sLe 0 (sIdx q rs) = sAny q rs := by
 rw [sLe_eq, sIdx_eq, sAny_eq]
 cases hf : rs.findIdx? q with
 | none =>
  rw [List.findIdx?_eq_none_iff] at hf
  have : rs.any q = false := List.any_eq_false.2 fun x hx => by rw [hf x hx]; simp
  rw [this]; rfl
 | some i =>
  obtain ⟨hi, h1, _⟩ := List.findIdx?_eq_some_iff_getElem.1 hf
  have : rs.any q = true := List.any_eq_true.2 ⟨_, List.getElem_mem hi, h1⟩
  rw [this]; exact decide_eq_true (by show (0 : Int) ≤ i; omega)

theorem b_idxAgg {rs : List (List T)} (h : pEq kAggT rs = true) : body lp0 ET42 85 [.c (.sl .ro 6 rs), .fn 115 []] [] = some (.ret (oI (sIdx mNotAggOk rs))) := by
 obtain ⟨hs, _, hn⟩ := pEq3 h
 rw [nf_85, sIdx_eq]
 refine idx_loop (fun i hi => ?_) ?_
 ·simp only [tAt0, tAt1, okT_i, iT_im, Bool.and_true, cond_true, lt_len hi, le_0, agg_okc hs hi, cI_at hi, row6 hs hi, sh_get hs hi, add1i (Nat.lt_of_lt_of_le hi hn)]
  cases mNotAggOk rs[i] <;> rfl
 ·simp only [tAt0, tAt1, okT_i, iT_im, Bool.and_true, cond_true, cond_false, lt_len']
theorem b_contAgg {rs : List (List T)} (h : pEq kAggT rs = true) : body lp0 ET43 114 [.c (.sl .ro 6 rs), .fn 115 []] [] = some (.ret (oB (sAny mNotAggOk rs))) := by
 rw [nf_114, h, any_idx]; rfl
theorem b_areAggs {rs : List (List T)} (h : pEq kAggT rs = true) : body lp0 ET44 63 [.c (.sl .ro 6 rs)] [] = some (.ret (oB (mAreAggs rs))) := by
 rw [nf_63, h, cond_true, mAreAggs_eq, sAny_eq]
 have : (!rs.any mNotAggOk) = rs.all mAggOk := by
  rw [show mNotAggOk = fun r => !mAggOk r from funext mNotAggOk_eq]
  simp [List.not_any_eq_all_not]
 rw [this]
theorem sub1 {i : Nat} (h : i + 1 < reachBytes) : sSub .i64 ((i + 1 : Nat) : Int) 1 = (i : Int) := by
 have : reachBytes = 140737488351232 := rfl
 rw [sSub_eq, wrap64 (by omega) (by omega)]; omega
theorem b_areSorted {rs : List (List T)} (h : pEq kAggT rs = true) : body lp0 ET45 103 [.c (.sl .ro 6 rs)] [] = some (.ret (oB (mSorted rs))) := by
 obtain ⟨hs, _, hn⟩ := pEq3 h
 rw [nf_103, mSorted_eq]
 cases hrs : rs with
 | nil =>
  rw [lp0_eq]
  have : sLt 1 (Int.ofNat (sLen [])) = false := by rw [sLt_eq, sLen_eq]; rfl
  simp only [tAt0, tAt1, okT_i, okT_b, iT_im, bT_im, Bool.and_true, cond_true, cond_false, this, Option.bind_some, Option.elim_some, LRes.elim']
  rfl
 | cons r0 rest =>
  rw [← hrs]
  have hp : rs.length = rest.length + 1 := by rw [hrs]; rfl
  refine (congrArg (fun z => Option.elim z none _) (all_loopD (ds0 := [tB false, tI 1]) (fun i => [tB false, tI ((i + 1 : Nat) : Int)]) rest.length (fun i => mAhead (rs.getD i []) (rs.getD (i + 1) [])) (o := oB false) rfl (fun i hi => ?_) ?_)).trans ?_
  ·have h1 : i < rs.length := by omega
   have h2 : i + 1 < rs.length := by omega
   simp only [tAt0, tAt1, okT_i, okT_b, iT_im, bT_im, Bool.and_true, Bool.true_and, cond_true, sub1 (show i + 1 < reachBytes by omega), lt_len h1, lt_len h2, le_0, agg_okc hs h1, agg_okc hs h2, cI_at h1, cI_at h2, row6 hs h1, row6 hs h2, sh_get hs h1, sh_get hs h2, order_ahead, add1i (show i + 1 < reachBytes by omega), getD_at h1, getD_at h2]
   cases mAhead rs[i] rs[i + 1] <;> rfl
  ·have : sLt ((rest.length + 1 : Nat) : Int) (Int.ofNat (sLen rs)) = false := by rw [← hp]; exact lt_len'
   simp only [tAt0, tAt1, okT_i, okT_b, iT_im, bT_im, Bool.and_true, cond_true, cond_false, this]
  ·have e : ((List.range rs.length).all fun i => decide (i = 0) || mAhead (rs.getD (i - 1) []) (rs.getD i [])) = (List.range rest.length).all fun i => mAhead (rs.getD i []) (rs.getD (i + 1) []) := by
    rw [hp, Bool.eq_iff_iff, List.all_eq_true, List.all_eq_true]
    constructor
    ·intro h i hi
     have := h (i + 1) (List.mem_range.2 (by have := List.mem_range.1 hi; omega))
     simpa using this
    ·intro h i hi
     have hi := List.mem_range.1 hi
     cases i with
     | zero => simp
     | succ i =>
      have := h i (List.mem_range.2 (by omega))
      simpa using this
   rw [e]
   cases (List.range rest.length).all fun i => mAhead (rs.getD i []) (rs.getD (i + 1) []) with
   | false => rfl
   | true => simp only [cond_true, Option.elim_some, LRes.elim', tAt0, tAt1, okT_i, okT_b, Bool.and_true]

-- PART2
theorem b_shardOk_impl {ts : List T} (hr : ts.all roT = true) (h : pEqR kShard ts = true) : body lp0 ET47 83 [.ag ts] [] = some (.ret (oB (mShardOk ts))) := by
 rw [pEqR_eq, Bool.and_eq_true] at h
 obtain ⟨hs, hl⟩ := h
 obtain ⟨a0, a1, a2, a3, rfl, g0⟩ := rowr_Shard hs hr
 simp only [lenR, lenT, Bool.and_eq_true, decide_eq_true_eq] at hl
 have hp : pEq kAggT a0 = true := by rw [pEq_eq]; simp [g0, hl]
 rw [nf_83, hp, mShardOk_eq]
 have e : (([T.sl .ro 6 a0, tI a1, tI a2, tI a3] : List T).getD 0 .no).rws = a0 := rfl
 have el : sLe (Int.ofNat (sLen a0)) 40 = decide (a0.length ≤ 40) := by
  rw [sLe_eq, sLen_eq, natI, Bool.eq_iff_iff, decide_eq_true_eq, decide_eq_true_eq]; omega
 simp only [e, el, cond_true, bifV, Option.elim_some, vAt0, okVl_b, bV_b, Bool.and_true, cB1, cI1, cI2, cI3, Bool.and_assoc, show Int.negSucc 0 = -1 from rfl]
theorem b_shardOk_spec {ts : List T} (hr : ts.all roT = true) (h : pEqR kShard ts = true) : body lp0 ET46 47 [.ag ts] [] = some (.ret (oB (mShardOk ts))) := by
 rw [pEqR_eq, Bool.and_eq_true] at h
 obtain ⟨hs, hl⟩ := h
 obtain ⟨a0, a1, a2, a3, rfl, g0⟩ := rowr_Shard hs hr
 simp only [lenR, lenT, Bool.and_eq_true, decide_eq_true_eq] at hl
 have hn : a0.length ≤ reachBytes := hl.1.1
 rw [nf_47, mShardOk_eq, mAreAggs_eq, mSorted_eq]
 have e : (([T.sl .ro 6 a0, tI a1, tI a2, tI a3] : List T).getD 0 .no).rws = a0 := rfl
 have el : sLt 40 (Int.ofNat (sLen a0)) = !decide (a0.length ≤ 40) := by
  rw [sLt_eq, sLen_eq, natI, Bool.eq_iff_iff]; simp only [decide_eq_true_eq, Bool.not_eq_true', decide_eq_false_iff_not]; omega
 simp only [e, el, bifV, Option.elim_some, vAt0, okVl_b, bV_b, Bool.and_true, cond_true, cB2, cI1, cI2, cI3, show Int.negSucc 0 = -1 from rfl]
 refine (congrArg (fun z => bif (!decide (a0.length ≤ 40) || (!mIn a1 (-1) 1000000 || (!mIn a2 0 1000000000 || !mIn a3 0 1000000000))) then some (LRes.ret (oB false)) else Option.elim z none _) (all_loopD (ds0 := [tB false, tI 0]) (fun i => [tB false, tI (i : Int)]) a0.length (fun i => mAggOk (a0.getD i []) && (decide (i = 0) || mAhead (a0.getD (i - 1) []) (a0.getD i []))) (o := oB false) rfl (fun i hi => ?_) ?_)).trans ?_
 ·simp only [tAt0, tAt1, okT_i, okT_b, iT_im, bT_im, Bool.and_true, Bool.true_and, cond_true, lt_len hi, le_0, agg_okc g0 hi, cI_at hi, row6 g0 hi, sh_get g0 hi, getD_at hi, add1i (Nat.lt_of_lt_of_le hi hn)]
  cases i with
  | zero =>
   have h0 : sLt 0 ((0 : Nat) : Int) = false := by rw [sLt_eq]; rfl
   simp only [h0, cond_false, bifV, Option.elim_some, vAt0, okVl_b, bV_b, Bool.and_true, cond_true, cB2, decide_true, Bool.true_or, Bool.or_false]
   cases mAggOk a0[0] <;> rfl
  | succ i =>
   have h0 : sLt 0 ((i + 1 : Nat) : Int) = true := by rw [sLt_eq]; exact decide_eq_true (by omega)
   have hi' : i < a0.length := by omega
   simp only [h0, cond_true, sub1 (show i + 1 < reachBytes by omega), lt_len hi', le_0, agg_okc g0 hi', cI_at hi', row6 g0 hi', sh_get g0 hi', Bool.and_true, Bool.true_and, bifV, Option.elim_some, vAt0, okVl_b, bV_b, cB2, Nat.add_sub_cancel, getD_at hi']
   cases mAggOk a0[i + 1] <;> cases mAhead a0[i] a0[i + 1] <;> rfl
 ·simp only [tAt0, tAt1, okT_i, okT_b, iT_im, bT_im, Bool.and_true, cond_true, cond_false, lt_len']
 ·have : ((List.range a0.length).all fun i => mAggOk (a0.getD i []) && (decide (i = 0) || mAhead (a0.getD (i - 1) []) (a0.getD i []))) = (a0.all mAggOk && (List.range a0.length).all fun i => decide (i = 0) || mAhead (a0.getD (i - 1) []) (a0.getD i [])) := by
   rw [range_all_and, range_all_rows]
  rw [this]
  cases decide (a0.length ≤ 40) <;> cases mIn a1 (-1) 1000000 <;> cases mIn a2 0 1000000000 <;> cases mIn a3 0 1000000000 <;> cases a0.all mAggOk <;> cases ((List.range a0.length).all fun i => decide (i = 0) || mAhead (a0.getD (i - 1) []) (a0.getD i [])) <;>
   simp only [Bool.not_true, Bool.not_false, Bool.true_or, Bool.false_or, Bool.and_true, Bool.true_and, Bool.and_false, Bool.false_and, cond_true, cond_false, Option.elim_some, LRes.elim', tAt0, tAt1, okT_i, okT_b]

theorem badConn_fl (f f' : Fl) (a : List (List T)) (ts : List T) : mBadConn (.sl f 1 a :: ts) = mBadConn (.sl f' 1 a :: ts) := by
 rw [mBadConn_eq, mBadConn_eq]
 congr 1; congr 1
 show mDecOk (.sl f 1 a :: ts.take 1) = mDecOk (.sl f' 1 a :: ts.take 1)
 rw [mDecOk_eq, mDecOk_eq]; rfl
theorem lt_nat {i n : Nat} (h : i < n) : sLt (i : Int) (n : Int) = true := by rw [sLt_eq]; exact decide_eq_true (by omega)
theorem lt_nat' {n : Nat} : sLt (n : Int) (n : Int) = false := by rw [sLt_eq]; exact decide_eq_false (by omega)
theorem shardOk_fl (f f' : Fl) (a : List (List T)) (ts : List T) : mShardOk (.sl f 6 a :: ts) = mShardOk (.sl f' 6 a :: ts) := by
 rw [mShardOk_eq, mShardOk_eq]; rfl
theorem mHead_at (a0 a1 a2 a3 a4 a5 a6 a7 a8 a9 a10 a16 a18 a19 a20 a21 a22 a23 : Int) (a11 a12 a13 a14 a15 a17 : List (List T)) : mHead [tI a0, tI a1, tI a2, tI a3, tI a4, tI a5, tI a6, tI a7, tI a8, tI a9, tI a10, .sl .ro 7 a11, .sl .ro 5 a12, .sl .ro 1 a13, .sl .ro 4 a14, .sl .ro 6 a15, tI a16, .sl .ro 1 a17, tI a18, tI a19, tI a20, tI a21, tI a22, tI a23] = (mSetupOk [tI a0, tI a1, tI a2, tI a3, tI a4, tI a5, tI a6, tI a7, tI a8] && mIn a10 0 2 && decide ((a13.length : Int) = a1) && decide ((a14.length : Int) = a1) && decide ((a17.length : Int) = a1) && decide ((a12.length : Int) ≤ a5) && decide ((a15.length : Int) ≤ a7)) := by
 have h : mHead [tI a0, tI a1, tI a2, tI a3, tI a4, tI a5, tI a6, tI a7, tI a8, tI a9, tI a10, .sl .ro 7 a11, .sl .ro 5 a12, .sl .ro 1 a13, .sl .ro 4 a14, .sl .ro 6 a15, tI a16, .sl .ro 1 a17, tI a18, tI a19, tI a20, tI a21, tI a22, tI a23] = (mSetupOk [tI a0, tI a1, tI a2, tI a3, tI a4, tI a5, tI a6, tI a7, tI a8] && mIn (iT (tI a10)) 0 2 && decide ((a13.length : Int) = iT (tI a1)) && decide ((a14.length : Int) = iT (tI a1)) && decide ((a17.length : Int) = iT (tI a1)) && decide ((a12.length : Int) ≤ iT (tI a5)) && decide ((a15.length : Int) ≤ iT (tI a7))) := by rw [mHead, sld_eq]; rfl
 rw [h]; simp only [iT_im]
theorem head_e1 (a0 a1 a2 a3 a4 a5 a6 a7 a8 a9 a10 a16 a18 a19 a20 a21 a22 a23 : Int) (a11 a12 a13 a14 a15 a17 : List (List T)) : (!mSetupOk [tI a0, tI a1, tI a2, tI a3, tI a4, tI a5, tI a6, tI a7, tI a8] || (!mIn a10 0 2 || (!sEq (Int.ofNat (sLen a13)) a1 || (!sEq (Int.ofNat (sLen a14)) a1 || (!sEq (Int.ofNat (sLen a17)) a1 || (sLt a5 (Int.ofNat (sLen a12)) || sLt a7 (Int.ofNat (sLen a15)))))))) = !mHead [tI a0, tI a1, tI a2, tI a3, tI a4, tI a5, tI a6, tI a7, tI a8, tI a9, tI a10, .sl .ro 7 a11, .sl .ro 5 a12, .sl .ro 1 a13, .sl .ro 4 a14, .sl .ro 6 a15, tI a16, .sl .ro 1 a17, tI a18, tI a19, tI a20, tI a21, tI a22, tI a23] := by
 rw [mHead_at]
 have e1 : ∀ (a : List (List T)) (b : Int), sLt b (Int.ofNat (sLen a)) = !decide ((a.length : Int) ≤ b) := fun a b => by
  rw [sLt_eq, sLen_eq, natI, Bool.eq_iff_iff]; simp only [decide_eq_true_eq, Bool.not_eq_true', decide_eq_false_iff_not]; omega
 simp only [e1]
 simp only [sEq_eq, sLen_eq, natI, Bool.not_and, Bool.or_assoc]
theorem mQue_eq (ts : List T) (k : Nat) : mQue ts k = (mQs ts k).all fun r => mMsgOk r true := by rw [mQue, sld_eq]
theorem mShd_at (a0 a1 a2 a3 a4 a5 a6 a7 a8 a9 a10 a16 a18 a19 a20 a21 a22 a23 : Int) (a11 a12 a13 a14 a15 a17 : List (List T)) (k : Nat) : mShd [tI a0, tI a1, tI a2, tI a3, tI a4, tI a5, tI a6, tI a7, tI a8, tI a9, tI a10, .sl .ro 7 a11, .sl .ro 5 a12, .sl .ro 1 a13, .sl .ro 4 a14, .sl .ro 6 a15, tI a16, .sl .ro 1 a17, tI a18, tI a19, tI a20, tI a21, tI a22, tI a23] k = (mShardOk (a14.getD k []) && decide (((((a14.getD k []).getD 0 .no).rws.length : Nat) : Int) ≤ a8) && decide (cI (a14.getD k []) 1 ≤ cI (a17.getD k []) 0) && decide (cI (a17.getD k []) 0 ≤ a16)) := by
 have h : mShd [tI a0, tI a1, tI a2, tI a3, tI a4, tI a5, tI a6, tI a7, tI a8, tI a9, tI a10, .sl .ro 7 a11, .sl .ro 5 a12, .sl .ro 1 a13, .sl .ro 4 a14, .sl .ro 6 a15, tI a16, .sl .ro 1 a17, tI a18, tI a19, tI a20, tI a21, tI a22, tI a23] k = (mShardOk (a14.getD k []) && decide (((((a14.getD k []).getD 0 .no).rws.length : Nat) : Int) ≤ iT (tI a8)) && decide (cI (a14.getD k []) 1 ≤ cI (a17.getD k []) 0) && decide (cI (a17.getD k []) 0 ≤ iT (tI a16))) := by rw [mShd, sld_eq]; rfl
 rw [h]; simp only [iT_im]
theorem mSafe_at (a0 a1 a2 a3 a4 a5 a6 a7 a8 a9 a10 a16 a18 a19 a20 a21 a22 a23 : Int) (a11 a12 a13 a14 a15 a17 : List (List T)) : mSafe [tI a0, tI a1, tI a2, tI a3, tI a4, tI a5, tI a6, tI a7, tI a8, tI a9, tI a10, .sl .ro 7 a11, .sl .ro 5 a12, .sl .ro 1 a13, .sl .ro 4 a14, .sl .ro 6 a15, tI a16, .sl .ro 1 a17, tI a18, tI a19, tI a20, tI a21, tI a22, tI a23] = (mHead [tI a0, tI a1, tI a2, tI a3, tI a4, tI a5, tI a6, tI a7, tI a8, tI a9, tI a10, .sl .ro 7 a11, .sl .ro 5 a12, .sl .ro 1 a13, .sl .ro 4 a14, .sl .ro 6 a15, tI a16, .sl .ro 1 a17, tI a18, tI a19, tI a20, tI a21, tI a22, tI a23] && (a12.all fun r => mMsgOk r false) && ((List.range a13.length).all fun k => decide ((((((a13.getD k []).getD 0 .no).rws).length : Nat) : Int) ≤ a6) && (mQue [tI a0, tI a1, tI a2, tI a3, tI a4, tI a5, tI a6, tI a7, tI a8, tI a9, tI a10, .sl .ro 7 a11, .sl .ro 5 a12, .sl .ro 1 a13, .sl .ro 4 a14, .sl .ro 6 a15, tI a16, .sl .ro 1 a17, tI a18, tI a19, tI a20, tI a21, tI a22, tI a23] k && mShd [tI a0, tI a1, tI a2, tI a3, tI a4, tI a5, tI a6, tI a7, tI a8, tI a9, tI a10, .sl .ro 7 a11, .sl .ro 5 a12, .sl .ro 1 a13, .sl .ro 4 a14, .sl .ro 6 a15, tI a16, .sl .ro 1 a17, tI a18, tI a19, tI a20, tI a21, tI a22, tI a23] k)) && a11.all (fun r => !mBadConn r)) := by
 have h : mSafe [tI a0, tI a1, tI a2, tI a3, tI a4, tI a5, tI a6, tI a7, tI a8, tI a9, tI a10, .sl .ro 7 a11, .sl .ro 5 a12, .sl .ro 1 a13, .sl .ro 4 a14, .sl .ro 6 a15, tI a16, .sl .ro 1 a17, tI a18, tI a19, tI a20, tI a21, tI a22, tI a23] = (mHead [tI a0, tI a1, tI a2, tI a3, tI a4, tI a5, tI a6, tI a7, tI a8, tI a9, tI a10, .sl .ro 7 a11, .sl .ro 5 a12, .sl .ro 1 a13, .sl .ro 4 a14, .sl .ro 6 a15, tI a16, .sl .ro 1 a17, tI a18, tI a19, tI a20, tI a21, tI a22, tI a23] && (a12.all fun r => mMsgOk r false) && ((List.range a13.length).all fun k => decide ((((((a13.getD k []).getD 0 .no).rws).length : Nat) : Int) ≤ iT (tI a6)) && (mQue [tI a0, tI a1, tI a2, tI a3, tI a4, tI a5, tI a6, tI a7, tI a8, tI a9, tI a10, .sl .ro 7 a11, .sl .ro 5 a12, .sl .ro 1 a13, .sl .ro 4 a14, .sl .ro 6 a15, tI a16, .sl .ro 1 a17, tI a18, tI a19, tI a20, tI a21, tI a22, tI a23] k && mShd [tI a0, tI a1, tI a2, tI a3, tI a4, tI a5, tI a6, tI a7, tI a8, tI a9, tI a10, .sl .ro 7 a11, .sl .ro 5 a12, .sl .ro 1 a13, .sl .ro 4 a14, .sl .ro 6 a15, tI a16, .sl .ro 1 a17, tI a18, tI a19, tI a20, tI a21, tI a22, tI a23] k)) && a11.all (fun r => !mBadConn r)) := by rw [mSafe, sld_eq]; rfl
 rw [h]; simp only [iT_im]
theorem any_bad (q : List T → Bool) (p : List T → Bool) (h : ∀ r, q r = !p r) (rs : List (List T)) : sAny q rs = !rs.all p := by
 rw [sAny_eq, show q = fun r => !p r from funext h]; simp [List.not_all_eq_any_not]

/-- the k-th rows of an engine's queues, shards, marks -/
theorem good20 : Good Go.Proofs.Try.prog md0 (fun _ => .own) TL20 := good_In (fun a b c => b_in_l01In a b c) good19
theorem good21 : Good Go.Proofs.Try.prog md0 (fun _ => .own) TL21 := good_In (fun a b c => b_in_within a b c) good20
theorem good22 : Good Go.Proofs.Try.prog md0 (fun _ => .own) TL22 := good_In1 (nf_91 lp0) good21
theorem good23 : Good Go.Proofs.Try.prog md0 (fun _ => .own) TL23 := good_In1 (nf_110 lp0) good22
theorem good24 : Good Go.Proofs.Try.prog md0 (fun _ => .own) TL24 := good_In1 (nf_111 lp0) good23
theorem good25 : Good Go.Proofs.Try.prog md0 (fun _ => .own) TL25 := good_In1 (nf_112 lp0) good24
theorem good26 : Good Go.Proofs.Try.prog md0 (fun _ => .own) TL26 := good_In1 (nf_126 lp0) good25
theorem good27 : Good Go.Proofs.Try.prog md0 (fun _ => .own) TL27 := good_In1 (nf_71 lp0) good26
theorem good28 : Good Go.Proofs.Try.prog md0 (fun _ => .own) TL28 := good_In1 (nf_84 lp0) good27
theorem good29 : Good Go.Proofs.Try.prog md0 (fun _ => .own) TL29 := good_In1 (nf_96 lp0) good28
theorem good30 : Good Go.Proofs.Try.prog md0 (fun _ => .own) TL30 := good_In1 (nf_122 lp0) good29
theorem good31 : Good Go.Proofs.Try.prog md0 (fun _ => .own) TL31 := good_In1 (nf_99 lp0) good30
theorem good32 : Good Go.Proofs.Try.prog md0 (fun _ => .own) TL32 := good_R (fun hr h => b_aggOk_spec hr h) good31
theorem good33 : Good Go.Proofs.Try.prog md0 (fun _ => .own) TL33 := good_R (fun hr h => b_aggOk_impl hr h) good32
theorem good34 : Good Go.Proofs.Try.prog md0 (fun _ => .own) TL34 := good_R (fun hr h => b_frameOk_spec hr h) good33
theorem good35 : Good Go.Proofs.Try.prog md0 (fun _ => .own) TL35 := good_R (fun hr h => b_frameOk_impl hr h) good34
theorem good36 : Good Go.Proofs.Try.prog md0 (fun _ => .own) TL36 := good_R (fun hr h => b_isEvent hr h) good35
theorem good37 : Good Go.Proofs.Try.prog md0 (fun _ => .own) TL37 := good_RR (fun h1 h2 => b_ahead h1 h2) good36
theorem good38 : Good Go.Proofs.Try.prog md0 (fun _ => .own) TL38 := good_NaN (fun a => b_nan a) good37
theorem good39 : Good Go.Proofs.Try.prog md0 (fun _ => .own) TL39 := good_Cmp (fun a b => b_cmp a b) good38
theorem good40 : Good Go.Proofs.Try.prog md0 (fun _ => .own) TL40 := good_Or (fun a b => b_or a b) good39
theorem good41 : Good Go.Proofs.Try.prog md0 (fun _ => .own) TL41 := good_Order (fun h1 h2 => b_order h1 h2) good40
theorem good42 : Good Go.Proofs.Try.prog md0 (fun _ => .own) TL42 := good_R (fun hr h => b_areAggs1 hr h) good41
theorem good43 : Good Go.Proofs.Try.prog md0 (fun _ => .own) TL43 := good_Idx1 (fun h => b_idxAgg h) good42
theorem good44 : Good Go.Proofs.Try.prog md0 (fun _ => .own) TL44 := good_Cont1 (fun h => b_contAgg h) good43
theorem good45 : Good Go.Proofs.Try.prog md0 (fun _ => .own) TL45 := good_Aggs (fun h => b_areAggs h) good44
theorem good46 : Good Go.Proofs.Try.prog md0 (fun _ => .own) TL46 := good_Aggs (fun h => b_areSorted h) good45
theorem good47 : Good Go.Proofs.Try.prog md0 (fun _ => .own) TL47 := good_R (fun hr h => b_shardOk_spec hr h) good46
theorem good48 : Good Go.Proofs.Try.prog md0 (fun _ => .own) TL48 := good_R (fun hr h => b_shardOk_impl hr h) good47

end Go.Vm
