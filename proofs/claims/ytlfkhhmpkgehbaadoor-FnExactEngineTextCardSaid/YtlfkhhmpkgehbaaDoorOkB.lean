/- what is right: each function -/
import Derived.Test.YtlfkhhmpkgehbaaDoorOkN
import Derived.Test.YtlfkhhmpkgehbaaDoorEngB
import Derived.Test.YtlfkhhmpkgehbaaDoorDa3
namespace Go.Vm
set_option linter.unusedVariables false
set_option linter.unusedSimpArgs false
theorem mIn_eq (a lo hi : Int) : mIn a lo hi = (decide (lo ≤ a) && decide (a ≤ hi)) := by rw [mIn, sld_eq]
theorem mAggOk_eq (r : List T) : mAggOk r = (mIn (cI r 0) 0 1000000 && mIn (cI r 1) 0 65535 && mIn (cI r 2) 1 1000000000 && mIn (cI r 3) (-1000000000) 1000000000 && mIn (cI r 4) (-1000000) 1000000 && mIn (cI r 5) (-1000000) 1000000 && decide (cI r 4 ≤ cI r 5)) := by rw [mAggOk, sld_eq]
theorem mSetupOk_eq (r : List T) : mSetupOk r = (mIn (cI r 0) 1 6 && mIn (cI r 1) 1 4 && mIn (cI r 2) 1 1000 && mIn (cI r 3) 0 1000 && mIn (cI r 4) 0 1000 && mIn (cI r 5) 1 20 && mIn (cI r 6) 1 20 && mIn (cI r 7) 1 20 && mIn (cI r 8) 1 40) := by rw [mSetupOk, sld_eq]
theorem mFrameOk_eq (r : List T) : mFrameOk r = ((decide (cI r 0 = 1) && mIn (cI r 1) 0 65535 && mIn (cI r 2) 0 1000000 && mIn (cI r 3) (-1000000) 1000000) || (decide (cI r 0 = 2) && decide (cI r 1 = 0) && mIn (cI r 2) 0 1000000 && decide (cI r 3 = 0)) || (decide (cI r 0 = 3) && decide (cI r 1 = 0) && decide (cI r 2 = 0) && decide (cI r 3 = 0))) := by rw [mFrameOk, sld_eq]
theorem mIsEvent_eq (r : List T) : mIsEvent r = (decide (cI r 0 = 1) && mFrameOk r) := by rw [mIsEvent, sld_eq]
theorem mMsgOk_eq (r : List T) (al : Bool) : mMsgOk r al = (mIn (cI r 4) (-1) 1000000 && (mIsEvent r || (al && decide (cI r 0 = 0) && decide (cI r 1 = 0) && decide (cI r 2 = 0) && decide (cI r 3 = 0)))) := by rw [mMsgOk, sld_eq]
theorem mSrcOk_eq (r : List T) : mSrcOk r = (mIn (cI r 0) (-1) 1000000 && mIn (cI r 1) (-1) 1000000 && mIn (cI r 2) 0 1000000000) := by rw [mSrcOk, sld_eq]
theorem mDecOk_eq (r : List T) : mDecOk r = (decide ((r.getD 0 .no).rws.length ≤ 400) && (!(Value.asB (r.getD 1 .no).val) || decide ((r.getD 0 .no).rws.length = 0))) := by rw [mDecOk, sld_eq]
theorem mAhead_eq (a b : List T) : mAhead a b = (decide (cI a 0 < cI b 0) || (decide (cI a 0 = cI b 0) && decide (cI a 1 < cI b 1))) := by rw [mAhead, sld_eq]
theorem mCmp_eq (a b : Int) : mCmp a b = if a < b then -1 else if b < a then 1 else 0 := by rw [mCmp, sld_eq]
theorem mOr_eq (a b : Int) : mOr a b = if a = 0 then b else a := by rw [mOr, sld_eq]
theorem mOrder_eq (a b : List T) : mOrder a b = mOr (mCmp (cI a 0) (cI b 0)) (mCmp (cI a 1) (cI b 1)) := by rw [mOrder, sld_eq]
theorem mNotAggOk_eq (r : List T) : mNotAggOk r = !mAggOk r := by rw [mNotAggOk, sld_eq]
theorem mAreAggs_eq (rs : List (List T)) : mAreAggs rs = rs.all mAggOk := by rw [mAreAggs, sld_eq]
theorem mSorted_eq (rs : List (List T)) : mSorted rs = (List.range rs.length).all fun i => decide (i = 0) || mAhead (rs.getD (i - 1) []) (rs.getD i []) := by rw [mSorted, sld_eq]
theorem mShardOk_eq (r : List T) : mShardOk r = (decide ((r.getD 0 .no).rws.length ≤ 40) && mAreAggs (r.getD 0 .no).rws && mSorted (r.getD 0 .no).rws && mIn (cI r 1) (-1) 1000000 && mIn (cI r 2) 0 1000000000 && mIn (cI r 3) 0 1000000000) := by rw [mShardOk, sld_eq]
theorem mBadIn_eq (r : List T) : mBadIn r = !mMsgOk r false := by rw [mBadIn, sld_eq]
theorem mBadQ_eq (r : List T) : mBadQ r = !mMsgOk r true := by rw [mBadQ, sld_eq]
theorem mBadConn_eq (r : List T) : mBadConn r = !(mSrcOk (r.drop 2) && mDecOk (r.take 2)) := by rw [mBadConn, sld_eq]
theorem sIdx_eq (q : List T → Bool) (rs : List (List T)) : sIdx q rs = match rs.findIdx? q with | some i => (i : Int) | none => -1 := by rw [sIdx, sld_eq]; rfl
theorem sAny_eq (q : List T → Bool) (rs : List (List T)) : sAny q rs = rs.any q := by rw [sAny, sld_eq]
theorem sShR_eq (row : List KT) (r : List T) : sShR row r = shR row r := by rw [sShR, sld_eq]
theorem negS (n : Nat) : Int.negSucc n = -((n : Int) + 1) := by omega

section
variable {P : Program} {md : FuncId → Option (List Mode)} {fl : FuncId → Fl} {l : List (Nat × GFn)} {f : Nat}
theorem good_In (hb : ∀ a b c : Int, body lp0 (EE P md fl l) f [aI a, aI b, aI c] [] = some (.ret (oB (mIn a b c)))) (hl : Good P md fl l) : Good P md fl ((f, gIn) :: l) := .cons (fun xs ps h => by
 unfold gIn at h ⊢
 split at h
 ·exact hb _ _ _
 ·cases h) hl
theorem good_In1 {lo hi : Int} (hb : ∀ a : Int, body lp0 (EE P md fl l) f [aI a] [] = some (.ret (oB (mIn a lo hi)))) (hl : Good P md fl l) : Good P md fl ((f, gIn1 lo hi) :: l) := .cons (fun xs ps h => by
 unfold gIn1 at h ⊢
 split at h
 ·exact hb _
 ·cases h) hl
theorem good_R {m p : List T → Bool} (hb : ∀ {ts}, ts.all roT = true → p ts = true → body lp0 (EE P md fl l) f [.ag ts] [] = some (.ret (oB (m ts)))) (hl : Good P md fl l) : Good P md fl ((f, gR m p) :: l) := .cons (fun xs ps h => by
 unfold gR at h ⊢
 split at h
 ·rw [Bool.and_eq_true] at h; exact hb h.1 h.2
 ·cases h) hl
theorem good_MsgOk (hb : ∀ {ts c}, sShR kMsg ts = true → body lp0 (EE P md fl l) f [.ag ts, aB c] [] = some (.ret (oB (mMsgOk ts c)))) (hl : Good P md fl l) : Good P md fl ((f, gMsgOk) :: l) := .cons (fun xs ps h => by
 unfold gMsgOk at h ⊢
 split at h
 ·rw [Bool.and_eq_true] at h; exact hb h.2
 ·cases h) hl
theorem good_RR (hb : ∀ {a b}, sShR kAggT a = true → sShR kAggT b = true → body lp0 (EE P md fl l) f [.ag a, .ag b] [] = some (.ret (oB (mAhead a b)))) (hl : Good P md fl l) : Good P md fl ((f, gAhead) :: l) := .cons (fun xs ps h => by
 unfold gAhead at h ⊢
 split at h
 ·simp only [Bool.and_eq_true] at h; exact hb h.1.2 h.2
 ·cases h) hl
theorem good_NaN (hb : ∀ a : Int, body lp0 (EE P md fl l) f [aI a] [] = some (.ret (oB false))) (hl : Good P md fl l) : Good P md fl ((f, gNaN) :: l) := .cons (fun xs ps h => by
 unfold gNaN at h ⊢
 split at h
 ·exact hb _
 ·cases h) hl
theorem good_Cmp (hb : ∀ a b : Int, body lp0 (EE P md fl l) f [aI a, aI b] [] = some (.ret (oI (mCmp a b)))) (hl : Good P md fl l) : Good P md fl ((f, gCmp) :: l) := .cons (fun xs ps h => by
 unfold gCmp at h ⊢
 split at h
 ·exact hb _ _
 ·cases h) hl
theorem good_Or (hb : ∀ a b : Int, body lp0 (EE P md fl l) f [.c (.sl .ro 1 [[tI a], [tI b]])] [] = some (.ret (oI (mOr a b)))) (hl : Good P md fl l) : Good P md fl ((f, gOr) :: l) := .cons (fun xs ps h => by
 unfold gOr at h ⊢
 split at h
 ·exact hb _ _
 ·cases h) hl
theorem good_Order (hb : ∀ {a b}, sShR kAggT a = true → sShR kAggT b = true → body lp0 (EE P md fl l) f [.ag a, .ag b] [] = some (.ret (oI (mOrder a b)))) (hl : Good P md fl l) : Good P md fl ((f, gOrder) :: l) := .cons (fun xs ps h => by
 unfold gOrder at h ⊢
 split at h
 ·simp only [Bool.and_eq_true] at h; exact hb h.1.2 h.2
 ·cases h) hl
theorem good_Idx {row : List KT} {L : List (Nat × (List T → Bool))} (hb : ∀ x ∈ L, ∀ {rs}, pEq row rs = true → body lp0 (EE P md fl l) f [.c (.sl .ro row.length rs), .fn x.1 []] [] = some (.ret (oI (sIdx x.2 rs)))) (hl : Good P md fl l) : Good P md fl ((f, gIdx row L) :: l) := .cons (fun xs ps h => by
 unfold gIdx at h ⊢
 split at h
 ·split at h
  ·rename_i x hx
   rw [Bool.and_eq_true] at h
   obtain rfl := beq_eq h.1
   have hm := List.mem_of_find?_eq_some hx
   have he := beq_eq (List.find?_eq_some_iff_append.1 hx).1
   have := hb x hm h.2
   rw [he] at this
   exact this
  ·cases h
 ·cases h) hl
theorem good_Cont {row : List KT} {L : List (Nat × (List T → Bool))} (hb : ∀ x ∈ L, ∀ {rs}, pEq row rs = true → body lp0 (EE P md fl l) f [.c (.sl .ro row.length rs), .fn x.1 []] [] = some (.ret (oB (sAny x.2 rs)))) (hl : Good P md fl l) : Good P md fl ((f, gCont row L) :: l) := .cons (fun xs ps h => by
 unfold gCont at h ⊢
 split at h
 ·split at h
  ·rename_i x hx
   rw [Bool.and_eq_true] at h
   obtain rfl := beq_eq h.1
   have hm := List.mem_of_find?_eq_some hx
   have he := beq_eq (List.find?_eq_some_iff_append.1 hx).1
   have := hb x hm h.2
   rw [he] at this
   exact this
  ·cases h
 ·cases h) hl
theorem good_Idx1 {row : List KT} {k : Nat} {q : List T → Bool} (hb : ∀ {rs}, pEq row rs = true → body lp0 (EE P md fl l) f [.c (.sl .ro row.length rs), .fn k []] [] = some (.ret (oI (sIdx q rs)))) (hl : Good P md fl l) : Good P md fl ((f, gIdx row [(k, q)]) :: l) :=
 good_Idx (fun x hx => by obtain rfl := List.mem_singleton.1 hx; exact hb) hl
theorem good_Cont1 {row : List KT} {k : Nat} {q : List T → Bool} (hb : ∀ {rs}, pEq row rs = true → body lp0 (EE P md fl l) f [.c (.sl .ro row.length rs), .fn k []] [] = some (.ret (oB (sAny q rs)))) (hl : Good P md fl l) : Good P md fl ((f, gCont row [(k, q)]) :: l) :=
 good_Cont (fun x hx => by obtain rfl := List.mem_singleton.1 hx; exact hb) hl
theorem good_Idx2 {row : List KT} {k k' : Nat} {q q' : List T → Bool} (hb : ∀ {rs}, pEq row rs = true → body lp0 (EE P md fl l) f [.c (.sl .ro row.length rs), .fn k []] [] = some (.ret (oI (sIdx q rs))))
  (hb' : ∀ {rs}, pEq row rs = true → body lp0 (EE P md fl l) f [.c (.sl .ro row.length rs), .fn k' []] [] = some (.ret (oI (sIdx q' rs)))) (hl : Good P md fl l) : Good P md fl ((f, gIdx row [(k, q), (k', q')]) :: l) :=
 good_Idx (fun x hx => by
  rcases List.mem_cons.1 hx with rfl | hx
  ·exact hb
  ·obtain rfl := List.mem_singleton.1 hx; exact hb') hl
theorem good_Cont2 {row : List KT} {k k' : Nat} {q q' : List T → Bool} (hb : ∀ {rs}, pEq row rs = true → body lp0 (EE P md fl l) f [.c (.sl .ro row.length rs), .fn k []] [] = some (.ret (oB (sAny q rs))))
  (hb' : ∀ {rs}, pEq row rs = true → body lp0 (EE P md fl l) f [.c (.sl .ro row.length rs), .fn k' []] [] = some (.ret (oB (sAny q' rs)))) (hl : Good P md fl l) : Good P md fl ((f, gCont row [(k, q), (k', q')]) :: l) :=
 good_Cont (fun x hx => by
  rcases List.mem_cons.1 hx with rfl | hx
  ·exact hb
  ·obtain rfl := List.mem_singleton.1 hx; exact hb') hl
theorem good_Aggs {m : List (List T) → Bool} (hb : ∀ {rs}, pEq kAggT rs = true → body lp0 (EE P md fl l) f [.c (.sl .ro 6 rs)] [] = some (.ret (oB (m rs)))) (hl : Good P md fl l) : Good P md fl ((f, gAggs m) :: l) := .cons (fun xs ps h => by
 unfold gAggs at h ⊢
 split at h
 ·rw [Bool.and_eq_true] at h; obtain rfl := beq_eq h.1; exact hb h.2
 ·cases h) hl
end

theorem b_in_l01In (a b c : Int) : body lp0 ET45 37 [aI a, aI b, aI c] [] = some (.ret (oB (mIn a b c))) := by
 rw [nf_37]
 simp only [bifV, Option.elim_some, vAt0, okVl_b, bV_b, Bool.and_true, cond_true, cB1, sLe_eq, mIn_eq]
theorem b_in_within (a b c : Int) : body lp0 ET46 47 [aI a, aI b, aI c] [] = some (.ret (oB (mIn a b c))) := by
 rw [nf_47]
 simp only [bifV, Option.elim_some, vAt0, okVl_b, bV_b, Bool.and_true, cond_true, cB1, sLe_eq, mIn_eq]

theorem b_setupOk_spec {ts : List T} (hr : ts.all roT = true) (h : sShR kSetup ts = true) : body lp0 ET49 20 [.ag ts] [] = some (.ret (oB (mSetupOk ts))) := by
 rw [sShR_eq] at h
 obtain ⟨a0, a1, a2, a3, a4, a5, a6, a7, a8, rfl, _⟩ := row_Setup h
 rw [nf_20]
 simp only [bifV, Option.elim_some, vAt0, okVl_b, bV_b, Bool.and_true, cond_true, cB1, sLe_eq, mSetupOk_eq, cI0, cI1, cI2, cI3, cI4, cI5, cI6, cI7, cI8, Bool.and_assoc]
theorem b_setupOk_impl {ts : List T} (hr : ts.all roT = true) (h : sShR kSetup ts = true) : body lp0 ET50 27 [.ag ts] [] = some (.ret (oB (mSetupOk ts))) := by
 rw [sShR_eq] at h
 obtain ⟨a0, a1, a2, a3, a4, a5, a6, a7, a8, rfl, _⟩ := row_Setup h
 rw [nf_27]
 simp only [bifV, Option.elim_some, vAt0, okVl_b, bV_b, Bool.and_true, cond_true, cB1, sLe_eq, mSetupOk_eq, cI0, cI1, cI2, cI3, cI4, cI5, cI6, cI7, cI8, Bool.and_assoc]

theorem frame_bool (a b c d : Int) : (bif decide (a = 1) then mIn b 0 65535 && (mIn c 0 1000000 && mIn d (-1000000) 1000000) else bif decide (a = 2) then decide (b = 0) && (mIn c 0 1000000 && decide (d = 0)) else decide (a = 3) && (decide (b = 0) && (decide (c = 0) && decide (d = 0)))) = mFrameOk [tI a, tI b, tI c, tI d] := by
 rw [mFrameOk_eq]
 simp only [cI0, cI1, cI2, cI3]
 by_cases h1 : a = 1
 ·subst h1; simp [Bool.and_assoc]
 ·by_cases h2 : a = 2
  ·subst h2; simp [Bool.and_assoc]
  ·simp [h1, h2, Bool.and_assoc]
theorem isEvent_msg (a b c d e : Int) : mIsEvent [tI a, tI b, tI c, tI d, tI e] = mIsEvent [tI a, tI b, tI c, tI d] := by
 rw [mIsEvent_eq, mIsEvent_eq, mFrameOk_eq, mFrameOk_eq]; rfl
theorem dec_bool (a : List (List T)) (b : Bool) : (sLe (Int.ofNat (sLen a)) 400 && (!b || sEq (Int.ofNat (sLen a)) 0)) = mDecOk [.sl .ro 1 a, tB b] := by
 have e : Value.asB (([T.sl .ro 1 a, tB b] : List T).getD 1 .no).val = b := rfl
 have e2 : (([T.sl .ro 1 a, tB b] : List T).getD 0 .no).rws = a := rfl
 rw [mDecOk_eq, e, e2, sLe_eq, sEq_eq, sLen_eq, natI]
 congr 1
 ·rw [Bool.eq_iff_iff, decide_eq_true_eq, decide_eq_true_eq]; omega
 ·congr 1
  rw [Bool.eq_iff_iff, decide_eq_true_eq, decide_eq_true_eq]; omega
theorem order_ahead (a b : List T) : sLe 0 (mOrder a b) = !mAhead a b := by
 rw [sLe_eq, mOrder_eq, mAhead_eq, mOr_eq, mCmp_eq, mCmp_eq]
 by_cases h1 : cI a 0 < cI b 0
 ·simp [h1]
 ·by_cases h2 : cI b 0 < cI a 0
  ·have : ¬ cI a 0 = cI b 0 := by omega
   simp [h1, h2, this]
  ·have h3 : cI a 0 = cI b 0 := by omega
   rw [if_neg h1, if_neg h2, if_pos rfl, decide_eq_false h1, decide_eq_true h3]
   by_cases h4 : cI a 1 < cI b 1
   ·simp [h4]
   ·by_cases h5 : cI b 1 < cI a 1
    ·simp [h4, h5]
    ·simp [h4, h5]
theorem row6 {rs : List (List T)} {i : Nat} (hs : shRs kAggT rs = true) (hi : i < rs.length) : [tI (cI rs[i] 0), tI (cI rs[i] 1), tI (cI rs[i] 2), tI (cI rs[i] 3), tI (cI rs[i] 4), tI (cI rs[i] 5)] = rs[i] := by
 obtain ⟨a0, a1, a2, a3, a4, a5, e, _⟩ := row_Agg (shRs_get hs hi)
 rw [e]; simp only [cI0, cI1, cI2, cI3, cI4, cI5]
theorem row5 {rs : List (List T)} {i : Nat} (hs : shRs kMsg rs = true) (hi : i < rs.length) : [tI (cI rs[i] 0), tI (cI rs[i] 1), tI (cI rs[i] 2), tI (cI rs[i] 3), tI (cI rs[i] 4)] = rs[i] := by
 obtain ⟨a0, a1, a2, a3, a4, e, _⟩ := row_Msg (shRs_get hs hi)
 rw [e]; simp only [cI0, cI1, cI2, cI3, cI4]
theorem agg_okc {rs : List (List T)} {i : Nat} (hs : shRs kAggT rs = true) (hi : i < rs.length) : sOkC [.int .i64, .int .i64, .int .i64, .int .i64, .int .i64, .int .i64] rs (i : Int).toNat 0 = true := okc_sh' hs hi
theorem msg_okc5 {rs : List (List T)} {i : Nat} (hs : shRs kMsg rs = true) (hi : i < rs.length) : sOkC [.int .i64, .int .i64, .int .i64, .int .i64, .int .i64] rs (i : Int).toNat 0 = true := okc_sh' hs hi
theorem sh_get {row : List KT} {rs : List (List T)} {i : Nat} (hs : shRs row rs = true) (hi : i < rs.length) : sShR row rs[i] = true := by rw [sShR_eq]; exact shRs_get hs hi
theorem pEq3 {row : List KT} {rs : List (List T)} (h : pEq row rs = true) : shRs row rs = true ∧ lenRs reachBytes rs = true ∧ rs.length ≤ reachBytes := by
 rw [pEq_eq] at h; simp only [Bool.and_eq_true, decide_eq_true_eq] at h; exact ⟨h.1.1, h.1.2, h.2⟩
theorem any_idx (q : List T → Bool) (rs : List (List T)) : sLe 0 (sIdx q rs) = sAny q rs := by
 rw [sLe_eq, sIdx_eq, sAny_eq]
 cases hf : rs.findIdx? q with
 | none =>
  rw [List.findIdx?_eq_none_iff] at hf
  have : rs.any q = false := List.any_eq_false.2 fun x hx => by rw [hf x hx]; simp
  rw [this]; rfl
 | some i =>
  obtain ⟨hi, h1, _⟩ := List.findIdx?_eq_some_iff_getElem.1 hf
  have : rs.any q = true := List.any_eq_true.2 ⟨_, List.getElem_mem hi, h1⟩
  rw [this]; exact decide_eq_true (by show (0 : Int) ≤ i; omega)

theorem sub1 {i : Nat} (h : i + 1 < reachBytes) : sSub .i64 ((i + 1 : Nat) : Int) 1 = (i : Int) := by
 have : reachBytes = 140737488351232 := rfl
 rw [sSub_eq, wrap64 (by omega) (by omega)]; omega
theorem badConn_fl (f f' : Fl) (a : List (List T)) (ts : List T) : mBadConn (.sl f 1 a :: ts) = mBadConn (.sl f' 1 a :: ts) := by
 rw [mBadConn_eq, mBadConn_eq]
 congr 1; congr 1
 show mDecOk (.sl f 1 a :: ts.take 1) = mDecOk (.sl f' 1 a :: ts.take 1)
 rw [mDecOk_eq, mDecOk_eq]; rfl
theorem lt_nat {i n : Nat} (h : i < n) : sLt (i : Int) (n : Int) = true := by rw [sLt_eq]; exact decide_eq_true (by omega)
theorem lt_nat' {n : Nat} : sLt (n : Int) (n : Int) = false := by rw [sLt_eq]; exact decide_eq_false (by omega)
theorem shardOk_fl (f f' : Fl) (a : List (List T)) (ts : List T) : mShardOk (.sl f 6 a :: ts) = mShardOk (.sl f' 6 a :: ts) := by
 rw [mShardOk_eq, mShardOk_eq]; rfl
theorem mHead_at (a0 a1 a2 a3 a4 a5 a6 a7 a8 a9 a10 a16 a18 a19 a20 a21 a22 a23 : Int) (a11 a12 a13 a14 a15 a17 : List (List T)) : mHead [tI a0, tI a1, tI a2, tI a3, tI a4, tI a5, tI a6, tI a7, tI a8, tI a9, tI a10, .sl .ro 7 a11, .sl .ro 5 a12, .sl .ro 1 a13, .sl .ro 4 a14, .sl .ro 6 a15, tI a16, .sl .ro 1 a17, tI a18, tI a19, tI a20, tI a21, tI a22, tI a23] = (mSetupOk [tI a0, tI a1, tI a2, tI a3, tI a4, tI a5, tI a6, tI a7, tI a8] && mIn a10 0 2 && decide ((a13.length : Int) = a1) && decide ((a14.length : Int) = a1) && decide ((a17.length : Int) = a1) && decide ((a12.length : Int) ≤ a5) && decide ((a15.length : Int) ≤ a7)) := by
 have h : mHead [tI a0, tI a1, tI a2, tI a3, tI a4, tI a5, tI a6, tI a7, tI a8, tI a9, tI a10, .sl .ro 7 a11, .sl .ro 5 a12, .sl .ro 1 a13, .sl .ro 4 a14, .sl .ro 6 a15, tI a16, .sl .ro 1 a17, tI a18, tI a19, tI a20, tI a21, tI a22, tI a23] = (mSetupOk [tI a0, tI a1, tI a2, tI a3, tI a4, tI a5, tI a6, tI a7, tI a8] && mIn (iT (tI a10)) 0 2 && decide ((a13.length : Int) = iT (tI a1)) && decide ((a14.length : Int) = iT (tI a1)) && decide ((a17.length : Int) = iT (tI a1)) && decide ((a12.length : Int) ≤ iT (tI a5)) && decide ((a15.length : Int) ≤ iT (tI a7))) := by rw [mHead, sld_eq]; rfl
 rw [h]; simp only [iT_im]
theorem head_e1 (a0 a1 a2 a3 a4 a5 a6 a7 a8 a9 a10 a16 a18 a19 a20 a21 a22 a23 : Int) (a11 a12 a13 a14 a15 a17 : List (List T)) : (!mSetupOk [tI a0, tI a1, tI a2, tI a3, tI a4, tI a5, tI a6, tI a7, tI a8] || (!mIn a10 0 2 || (!sEq (Int.ofNat (sLen a13)) a1 || (!sEq (Int.ofNat (sLen a14)) a1 || (!sEq (Int.ofNat (sLen a17)) a1 || (sLt a5 (Int.ofNat (sLen a12)) || sLt a7 (Int.ofNat (sLen a15)))))))) = !mHead [tI a0, tI a1, tI a2, tI a3, tI a4, tI a5, tI a6, tI a7, tI a8, tI a9, tI a10, .sl .ro 7 a11, .sl .ro 5 a12, .sl .ro 1 a13, .sl .ro 4 a14, .sl .ro 6 a15, tI a16, .sl .ro 1 a17, tI a18, tI a19, tI a20, tI a21, tI a22, tI a23] := by
 rw [mHead_at]
 have e1 : ∀ (a : List (List T)) (b : Int), sLt b (Int.ofNat (sLen a)) = !decide ((a.length : Int) ≤ b) := fun a b => by
  rw [sLt_eq, sLen_eq, natI, Bool.eq_iff_iff]; simp only [decide_eq_true_eq, Bool.not_eq_true', decide_eq_false_iff_not]; omega
 simp only [e1]
 simp only [sEq_eq, sLen_eq, natI, Bool.not_and, Bool.or_assoc]
theorem mQue_eq (ts : List T) (k : Nat) : mQue ts k = (mQs ts k).all fun r => mMsgOk r true := by rw [mQue, sld_eq]
theorem mShd_at (a0 a1 a2 a3 a4 a5 a6 a7 a8 a9 a10 a16 a18 a19 a20 a21 a22 a23 : Int) (a11 a12 a13 a14 a15 a17 : List (List T)) (k : Nat) : mShd [tI a0, tI a1, tI a2, tI a3, tI a4, tI a5, tI a6, tI a7, tI a8, tI a9, tI a10, .sl .ro 7 a11, .sl .ro 5 a12, .sl .ro 1 a13, .sl .ro 4 a14, .sl .ro 6 a15, tI a16, .sl .ro 1 a17, tI a18, tI a19, tI a20, tI a21, tI a22, tI a23] k = (mShardOk (a14.getD k []) && decide (((((a14.getD k []).getD 0 .no).rws.length : Nat) : Int) ≤ a8) && decide (cI (a14.getD k []) 1 ≤ cI (a17.getD k []) 0) && decide (cI (a17.getD k []) 0 ≤ a16)) := by
 have h : mShd [tI a0, tI a1, tI a2, tI a3, tI a4, tI a5, tI a6, tI a7, tI a8, tI a9, tI a10, .sl .ro 7 a11, .sl .ro 5 a12, .sl .ro 1 a13, .sl .ro 4 a14, .sl .ro 6 a15, tI a16, .sl .ro 1 a17, tI a18, tI a19, tI a20, tI a21, tI a22, tI a23] k = (mShardOk (a14.getD k []) && decide (((((a14.getD k []).getD 0 .no).rws.length : Nat) : Int) ≤ iT (tI a8)) && decide (cI (a14.getD k []) 1 ≤ cI (a17.getD k []) 0) && decide (cI (a17.getD k []) 0 ≤ iT (tI a16))) := by rw [mShd, sld_eq]; rfl
 rw [h]; simp only [iT_im]
theorem mSafe_at (a0 a1 a2 a3 a4 a5 a6 a7 a8 a9 a10 a16 a18 a19 a20 a21 a22 a23 : Int) (a11 a12 a13 a14 a15 a17 : List (List T)) : mSafe [tI a0, tI a1, tI a2, tI a3, tI a4, tI a5, tI a6, tI a7, tI a8, tI a9, tI a10, .sl .ro 7 a11, .sl .ro 5 a12, .sl .ro 1 a13, .sl .ro 4 a14, .sl .ro 6 a15, tI a16, .sl .ro 1 a17, tI a18, tI a19, tI a20, tI a21, tI a22, tI a23] = (mHead [tI a0, tI a1, tI a2, tI a3, tI a4, tI a5, tI a6, tI a7, tI a8, tI a9, tI a10, .sl .ro 7 a11, .sl .ro 5 a12, .sl .ro 1 a13, .sl .ro 4 a14, .sl .ro 6 a15, tI a16, .sl .ro 1 a17, tI a18, tI a19, tI a20, tI a21, tI a22, tI a23] && (a12.all fun r => mMsgOk r false) && ((List.range a13.length).all fun k => decide ((((((a13.getD k []).getD 0 .no).rws).length : Nat) : Int) ≤ a6) && (mQue [tI a0, tI a1, tI a2, tI a3, tI a4, tI a5, tI a6, tI a7, tI a8, tI a9, tI a10, .sl .ro 7 a11, .sl .ro 5 a12, .sl .ro 1 a13, .sl .ro 4 a14, .sl .ro 6 a15, tI a16, .sl .ro 1 a17, tI a18, tI a19, tI a20, tI a21, tI a22, tI a23] k && mShd [tI a0, tI a1, tI a2, tI a3, tI a4, tI a5, tI a6, tI a7, tI a8, tI a9, tI a10, .sl .ro 7 a11, .sl .ro 5 a12, .sl .ro 1 a13, .sl .ro 4 a14, .sl .ro 6 a15, tI a16, .sl .ro 1 a17, tI a18, tI a19, tI a20, tI a21, tI a22, tI a23] k)) && a11.all (fun r => !mBadConn r)) := by
 have h : mSafe [tI a0, tI a1, tI a2, tI a3, tI a4, tI a5, tI a6, tI a7, tI a8, tI a9, tI a10, .sl .ro 7 a11, .sl .ro 5 a12, .sl .ro 1 a13, .sl .ro 4 a14, .sl .ro 6 a15, tI a16, .sl .ro 1 a17, tI a18, tI a19, tI a20, tI a21, tI a22, tI a23] = (mHead [tI a0, tI a1, tI a2, tI a3, tI a4, tI a5, tI a6, tI a7, tI a8, tI a9, tI a10, .sl .ro 7 a11, .sl .ro 5 a12, .sl .ro 1 a13, .sl .ro 4 a14, .sl .ro 6 a15, tI a16, .sl .ro 1 a17, tI a18, tI a19, tI a20, tI a21, tI a22, tI a23] && (a12.all fun r => mMsgOk r false) && ((List.range a13.length).all fun k => decide ((((((a13.getD k []).getD 0 .no).rws).length : Nat) : Int) ≤ iT (tI a6)) && (mQue [tI a0, tI a1, tI a2, tI a3, tI a4, tI a5, tI a6, tI a7, tI a8, tI a9, tI a10, .sl .ro 7 a11, .sl .ro 5 a12, .sl .ro 1 a13, .sl .ro 4 a14, .sl .ro 6 a15, tI a16, .sl .ro 1 a17, tI a18, tI a19, tI a20, tI a21, tI a22, tI a23] k && mShd [tI a0, tI a1, tI a2, tI a3, tI a4, tI a5, tI a6, tI a7, tI a8, tI a9, tI a10, .sl .ro 7 a11, .sl .ro 5 a12, .sl .ro 1 a13, .sl .ro 4 a14, .sl .ro 6 a15, tI a16, .sl .ro 1 a17, tI a18, tI a19, tI a20, tI a21, tI a22, tI a23] k)) && a11.all (fun r => !mBadConn r)) := by rw [mSafe, sld_eq]; rfl
 rw [h]; simp only [iT_im]
theorem any_bad (q : List T → Bool) (p : List T → Bool) (h : ∀ r, q r = !p r) (rs : List (List T)) : sAny q rs = !rs.all p := by
 rw [sAny_eq, show q = fun r => !p r from funext h]; simp [List.not_all_eq_any_not]

/-- the k-th rows of an engine's queues, shards, marks -/
theorem good46 : Good Go.Proofs.Tryd.prog md0 (fun _ => .own) TL46 := good_In (fun a b c => b_in_l01In a b c) good45
theorem good47 : Good Go.Proofs.Tryd.prog md0 (fun _ => .own) TL47 := good_In (fun a b c => b_in_within a b c) good46
theorem good48 : Good Go.Proofs.Tryd.prog md0 (fun _ => .own) TL48 := good_In1 (nf_64 lp0) good47
theorem good49 : Good Go.Proofs.Tryd.prog md0 (fun _ => .own) TL49 := good_In1 (nf_63 lp0) good48
theorem good50 : Good Go.Proofs.Tryd.prog md0 (fun _ => .own) TL50 := good_R (fun hr h => b_setupOk_spec hr h) good49
theorem good51 : Good Go.Proofs.Tryd.prog md0 (fun _ => .own) TL51 := good_R (fun hr h => b_setupOk_impl hr h) good50

end Go.Vm
