/- what is right: each function -/
import Derived.Test.YtopemdjgbaonmaaGreatOkN
import Derived.Test.YtopemdjgbaonmaaGreatEngB
import Derived.Test.YtopemdjgbaonmaaGreatDa3
namespace Go.Vm
set_option linter.unusedVariables false
set_option linter.unusedSimpArgs false
theorem mIn_eq (a lo hi : Int) : mIn a lo hi = (decide (lo ≤ a) && decide (a ≤ hi)) := by rw [mIn, sld_eq]
theorem mAggOk_eq (r : List T) : mAggOk r = (mIn (cI r 0) 0 1000000 && mIn (cI r 1) 0 65535 && mIn (cI r 2) 1 1000000000 && mIn (cI r 3) (-1000000000) 1000000000 && mIn (cI r 4) (-1000000) 1000000 && mIn (cI r 5) (-1000000) 1000000 && decide (cI r 4 ≤ cI r 5)) := by rw [mAggOk, sld_eq]
theorem mSetupOk_eq (r : List T) : mSetupOk r = (mIn (cI r 0) 1 6 && mIn (cI r 1) 1 4 && mIn (cI r 2) 1 1000 && mIn (cI r 3) 0 1000 && mIn (cI r 4) 0 1000 && mIn (cI r 5) 1 20 && mIn (cI r 6) 1 20 && mIn (cI r 7) 1 20 && mIn (cI r 8) 1 40) := by rw [mSetupOk, sld_eq]
theorem mFrameOk_eq (r : List T) : mFrameOk r = ((decide (cI r 0 = 1) && mIn (cI r 1) 0 65535 && mIn (cI r 2) 0 1000000 && mIn (cI r 3) (-1000000) 1000000) || (decide (cI r 0 = 2) && decide (cI r 1 = 0) && mIn (cI r 2) 0 1000000 && decide (cI r 3 = 0)) || (decide (cI r 0 = 3) && decide (cI r 1 = 0) && decide (cI r 2 = 0) && decide (cI r 3 = 0))) := by rw [mFrameOk, sld_eq]
theorem mIsEvent_eq (r : List T) : mIsEvent r = (decide (cI r 0 = 1) && mFrameOk r) := by rw [mIsEvent, sld_eq]
theorem mMsgOk_eq (r : List T) (al : Bool) : mMsgOk r al = (mIn (cI r 4) (-1) 1000000 && (mIsEvent r || (al && decide (cI r 0 = 0) && decide (cI r 1 = 0) && decide (cI r 2 = 0) && decide (cI r 3 = 0)))) := by rw [mMsgOk, sld_eq]
theorem mSrcOk_eq (r : List T) : mSrcOk r = (mIn (cI r 0) (-1) 1000000 && mIn (cI r 1) (-1) 1000000 && mIn (cI r 2) 0 1000000000) := by rw [mSrcOk, sld_eq]
theorem mDecOk_eq (r : List T) : mDecOk r = (decide ((r.getD 0 .no).rws.length ≤ 400) && (!(Value.asB (r.getD 1 .no).val) || decide ((r.getD 0 .no).rws.length = 0))) := by rw [mDecOk, sld_eq]
theorem mAhead_eq (a b : List T) : mAhead a b = (decide (cI a 0 < cI b 0) || (decide (cI a 0 = cI b 0) && decide (cI a 1 < cI b 1))) := by rw [mAhead, sld_eq]
theorem mCmp_eq (a b : Int) : mCmp a b = if a < b then -1 else if b < a then 1 else 0 := by rw [mCmp, sld_eq]
theorem mOr_eq (a b : Int) : mOr a b = if a = 0 then b else a := by rw [mOr, sld_eq]
theorem mOrder_eq (a b : List T) : mOrder a b = mOr (mCmp (cI a 0) (cI b 0)) (mCmp (cI a 1) (cI b 1)) := by rw [mOrder, sld_eq]
theorem mNotAggOk_eq (r : List T) : mNotAggOk r = !mAggOk r := by rw [mNotAggOk, sld_eq]
theorem mAreAggs_eq (rs : List (List T)) : mAreAggs rs = rs.all mAggOk := by rw [mAreAggs, sld_eq]
theorem mSorted_eq (rs : List (List T)) : mSorted rs = (List.range rs.length).all fun i => decide (i = 0) || mAhead (rs.getD (i - 1) []) (rs.getD i []) := by rw [mSorted, sld_eq]
theorem mShardOk_eq (r : List T) : mShardOk r = (decide ((r.getD 0 .no).rws.length ≤ 40) && mAreAggs (r.getD 0 .no).rws && mSorted (r.getD 0 .no).rws && mIn (cI r 1) (-1) 1000000 && mIn (cI r 2) 0 1000000000 && mIn (cI r 3) 0 1000000000) := by rw [mShardOk, sld_eq]
theorem mBadIn_eq (r : List T) : mBadIn r = !mMsgOk r false := by rw [mBadIn, sld_eq]
theorem mBadQ_eq (r : List T) : mBadQ r = !mMsgOk r true := by rw [mBadQ, sld_eq]
theorem mBadConn_eq (r : List T) : mBadConn r = !(mSrcOk (r.drop 2) && mDecOk (r.take 2)) := by rw [mBadConn, sld_eq]
theorem sIdx_eq (q : List T → Bool) (rs : List (List T)) : sIdx q rs = match rs.findIdx? q with | some i => (i : Int) | none => -1 := by rw [sIdx, sld_eq]; rfl
theorem sAny_eq (q : List T → Bool) (rs : List (List T)) : sAny q rs = rs.any q := by rw [sAny, sld_eq]
theorem sShR_eq (row : List KT) (r : List T) : sShR row r = shR row r := by rw [sShR, sld_eq]
theorem negS (n : Nat) : Int.negSucc n = -((n : Int) + 1) := by omega

section
variable {P : Program} {md : FuncId → Option (List Mode)} {fl : FuncId → Fl} {l : List (Nat × GFn)} {f : Nat}
theorem good_In (hb : ∀ a b c : Int, body lp0 (EE P md fl l) f [aI a, aI b, aI c] [] = some (.ret (oB (mIn a b c)))) (hl : Good P md fl l) : Good P md fl ((f, gIn) :: l) := .cons (fun xs ps h => by
 unfold gIn at h ⊢
 split at h
 ·exact hb _ _ _
 ·cases h) hl
theorem good_In1 {lo hi : Int} (hb : ∀ a : Int, body lp0 (EE P md fl l) f [aI a] [] = some (.ret (oB (mIn a lo hi)))) (hl : Good P md fl l) : Good P md fl ((f, gIn1 lo hi) :: l) := .cons (fun xs ps h => by
 unfold gIn1 at h ⊢
 split at h
 ·exact hb _
 ·cases h) hl
theorem good_R {m p : List T → Bool} (hb : ∀ {ts}, ts.all roT = true → p ts = true → body lp0 (EE P md fl l) f [.ag ts] [] = some (.ret (oB (m ts)))) (hl : Good P md fl l) : Good P md fl ((f, gR m p) :: l) := .cons (fun xs ps h => by
 unfold gR at h ⊢
 split at h
 ·rw [Bool.and_eq_true] at h; exact hb h.1 h.2
 ·cases h) hl
theorem good_MsgOk (hb : ∀ {ts c}, sShR kMsg ts = true → body lp0 (EE P md fl l) f [.ag ts, aB c] [] = some (.ret (oB (mMsgOk ts c)))) (hl : Good P md fl l) : Good P md fl ((f, gMsgOk) :: l) := .cons (fun xs ps h => by
 unfold gMsgOk at h ⊢
 split at h
 ·rw [Bool.and_eq_true] at h; exact hb h.2
 ·cases h) hl
theorem good_RR (hb : ∀ {a b}, sShR kAggT a = true → sShR kAggT b = true → body lp0 (EE P md fl l) f [.ag a, .ag b] [] = some (.ret (oB (mAhead a b)))) (hl : Good P md fl l) : Good P md fl ((f, gAhead) :: l) := .cons (fun xs ps h => by
 unfold gAhead at h ⊢
 split at h
 ·simp only [Bool.and_eq_true] at h; exact hb h.1.2 h.2
 ·cases h) hl
theorem good_NaN (hb : ∀ a : Int, body lp0 (EE P md fl l) f [aI a] [] = some (.ret (oB false))) (hl : Good P md fl l) : Good P md fl ((f, gNaN) :: l) := .cons (fun xs ps h => by
 unfold gNaN at h ⊢
 split at h
 ·exact hb _
 ·cases h) hl
theorem good_Cmp (hb : ∀ a b : Int, body lp0 (EE P md fl l) f [aI a, aI b] [] = some (.ret (oI (mCmp a b)))) (hl : Good P md fl l) : Good P md fl ((f, gCmp) :: l) := .cons (fun xs ps h => by
 unfold gCmp at h ⊢
 split at h
 ·exact hb _ _
 ·cases h) hl
theorem good_Or (hb : ∀ a b : Int, body lp0 (EE P md fl l) f [.c (.sl .ro 1 [[tI a], [tI b]])] [] = some (.ret (oI (mOr a b)))) (hl : Good P md fl l) : Good P md fl ((f, gOr) :: l) := .cons (fun xs ps h => by
 unfold gOr at h ⊢
 split at h
 ·exact hb _ _
 ·cases h) hl
theorem good_Order (hb : ∀ {a b}, sShR kAggT a = true → sShR kAggT b = true → body lp0 (EE P md fl l) f [.ag a, .ag b] [] = some (.ret (oI (mOrder a b)))) (hl : Good P md fl l) : Good P md fl ((f, gOrder) :: l) := .cons (fun xs ps h => by
 unfold gOrder at h ⊢
 split at h
 ·simp only [Bool.and_eq_true] at h; exact hb h.1.2 h.2
 ·cases h) hl
theorem good_Idx {row : List KT} {L : List (Nat × (List T → Bool))} (hb : ∀ x ∈ L, ∀ {rs}, pEq row rs = true → body lp0 (EE P md fl l) f [.c (.sl .ro row.length rs), .fn x.1 []] [] = some (.ret (oI (sIdx x.2 rs)))) (hl : Good P md fl l) : Good P md fl ((f, gIdx row L) :: l) := .cons (fun xs ps h => by
 unfold gIdx at h ⊢
 split at h
 ·split at h
  ·rename_i x hx
   rw [Bool.and_eq_true] at h
   obtain rfl := beq_eq h.1
   have hm := List.mem_of_find?_eq_some hx
   have he := beq_eq (List.find?_eq_some_iff_append.1 hx).1
   have := hb x hm h.2
   rw [he] at this
   exact this
  ·cases h
 ·cases h) hl
theorem good_Cont {row : List KT} {L : List (Nat × (List T → Bool))} (hb : ∀ x ∈ L, ∀ {rs}, pEq row rs = true → body lp0 (EE P md fl l) f [.c (.sl .ro row.length rs), .fn x.1 []] [] = some (.ret (oB (sAny x.2 rs)))) (hl : Good P md fl l) : Good P md fl ((f, gCont row L) :: l) := .cons (fun xs ps h => by
 unfold gCont at h ⊢
 split at h
 ·split at h
  ·rename_i x hx
   rw [Bool.and_eq_true] at h
   obtain rfl := beq_eq h.1
   have hm := List.mem_of_find?_eq_some hx
   have he := beq_eq (List.find?_eq_some_iff_append.1 hx).1
   have := hb x hm h.2
   rw [he] at this
   exact this
  ·cases h
 ·cases h) hl
theorem good_Idx1 {row : List KT} {k : Nat} {q : List T → Bool} (hb : ∀ {rs}, pEq row rs = true → body lp0 (EE P md fl l) f [.c (.sl .ro row.length rs), .fn k []] [] = some (.ret (oI (sIdx q rs)))) (hl : Good P md fl l) : Good P md fl ((f, gIdx row [(k, q)]) :: l) :=
 good_Idx (fun x hx => by obtain rfl := List.mem_singleton.1 hx; exact hb) hl
theorem good_Cont1 {row : List KT} {k : Nat} {q : List T → Bool} (hb : ∀ {rs}, pEq row rs = true → body lp0 (EE P md fl l) f [.c (.sl .ro row.length rs), .fn k []] [] = some (.ret (oB (sAny q rs)))) (hl : Good P md fl l) : Good P md fl ((f, gCont row [(k, q)]) :: l) :=
 good_Cont (fun x hx => by obtain rfl := List.mem_singleton.1 hx; exact hb) hl
theorem good_Idx2 {row : List KT} {k k' : Nat} {q q' : List T → Bool} (hb : ∀ {rs}, pEq row rs = true → body lp0 (EE P md fl l) f [.c (.sl .ro row.length rs), .fn k []] [] = some (.ret (oI (sIdx q rs))))
  (hb' : ∀ {rs}, pEq row rs = true → body lp0 (EE P md fl l) f [.c (.sl .ro row.length rs), .fn k' []] [] = some (.ret (oI (sIdx q' rs)))) (hl : Good P md fl l) : Good P md fl ((f, gIdx row [(k, q), (k', q')]) :: l) :=
 good_Idx (fun x hx => by
  rcases List.mem_cons.1 hx with rfl | hx
  ·exact hb
  ·obtain rfl := List.mem_singleton.1 hx; exact hb') hl
theorem good_Cont2 {row : List KT} {k k' : Nat} {q q' : List T → Bool} (hb : ∀ {rs}, pEq row rs = true → body lp0 (EE P md fl l) f [.c (.sl .ro row.length rs), .fn k []] [] = some (.ret (oB (sAny q rs))))
  (hb' : ∀ {rs}, pEq row rs = true → body lp0 (EE P md fl l) f [.c (.sl .ro row.length rs), .fn k' []] [] = some (.ret (oB (sAny q' rs)))) (hl : Good P md fl l) : Good P md fl ((f, gCont row [(k, q), (k', q')]) :: l) :=
 good_Cont (fun x hx => by
  rcases List.mem_cons.1 hx with rfl | hx
  ·exact hb
  ·obtain rfl := List.mem_singleton.1 hx; exact hb') hl
theorem good_Aggs {m : List (List T) → Bool} (hb : ∀ {rs}, pEq kAggT rs = true → body lp0 (EE P md fl l) f [.c (.sl .ro 6 rs)] [] = some (.ret (oB (m rs)))) (hl : Good P md fl l) : Good P md fl ((f, gAggs m) :: l) := .cons (fun xs ps h => by
 unfold gAggs at h ⊢
 split at h
 ·rw [Bool.and_eq_true] at h; obtain rfl := beq_eq h.1; exact hb h.2
 ·cases h) hl
end

theorem b_in_l01In (a b c : Int) : body lp0 ET45 66 [aI a, aI b, aI c] [] = some (.ret (oB (mIn a b c))) := by
 rw [nf_66]
 simp only [bifV, Option.elim_some, vAt0, okVl_b, bV_b, Bool.and_true, cond_true, cB1, sLe_eq, mIn_eq]
theorem b_in_within (a b c : Int) : body lp0 ET46 76 [aI a, aI b, aI c] [] = some (.ret (oB (mIn a b c))) := by
 rw [nf_76]
 simp only [bifV, Option.elim_some, vAt0, okVl_b, bV_b, Bool.and_true, cond_true, cB1, sLe_eq, mIn_eq]

theorem b_aggOk_spec {ts : List T} (hr : ts.all roT = true) (h : sShR kAggT ts = true) : body lp0 ET59 105 [.ag ts] [] = some (.ret (oB (mAggOk ts))) := by
 rw [sShR_eq] at h
 obtain ⟨a0, a1, a2, a3, a4, a5, rfl, _⟩ := row_Agg h
 rw [nf_105]
 simp only [bifV, Option.elim_some, vAt0, okVl_b, bV_b, Bool.and_true, cond_true, cB1, sLe_eq, mAggOk_eq, cI0, cI1, cI2, cI3, cI4, cI5, Bool.and_assoc]; rfl
theorem b_aggOk_impl {ts : List T} (hr : ts.all roT = true) (h : sShR kAggT ts = true) : body lp0 ET60 138 [.ag ts] [] = some (.ret (oB (mAggOk ts))) := by
 rw [sShR_eq] at h
 obtain ⟨a0, a1, a2, a3, a4, a5, rfl, _⟩ := row_Agg h
 rw [nf_138]
 simp only [bifV, Option.elim_some, vAt0, okVl_b, bV_b, Bool.and_true, cond_true, cB1, sLe_eq, mAggOk_eq, cI0, cI1, cI2, cI3, cI4, cI5, Bool.and_assoc]; rfl
theorem b_setupOk_spec {ts : List T} (hr : ts.all roT = true) (h : sShR kSetup ts = true) : body lp0 ET61 65 [.ag ts] [] = some (.ret (oB (mSetupOk ts))) := by
 rw [sShR_eq] at h
 obtain ⟨a0, a1, a2, a3, a4, a5, a6, a7, a8, rfl, _⟩ := row_Setup h
 rw [nf_65]
 simp only [bifV, Option.elim_some, vAt0, okVl_b, bV_b, Bool.and_true, cond_true, cB1, sLe_eq, mSetupOk_eq, cI0, cI1, cI2, cI3, cI4, cI5, cI6, cI7, cI8, Bool.and_assoc]
theorem b_setupOk_impl {ts : List T} (hr : ts.all roT = true) (h : sShR kSetup ts = true) : body lp0 ET62 75 [.ag ts] [] = some (.ret (oB (mSetupOk ts))) := by
 rw [sShR_eq] at h
 obtain ⟨a0, a1, a2, a3, a4, a5, a6, a7, a8, rfl, _⟩ := row_Setup h
 rw [nf_75]
 simp only [bifV, Option.elim_some, vAt0, okVl_b, bV_b, Bool.and_true, cond_true, cB1, sLe_eq, mSetupOk_eq, cI0, cI1, cI2, cI3, cI4, cI5, cI6, cI7, cI8, Bool.and_assoc]

theorem frame_bool (a b c d : Int) : (bif decide (a = 1) then mIn b 0 65535 && (mIn c 0 1000000 && mIn d (-1000000) 1000000) else bif decide (a = 2) then decide (b = 0) && (mIn c 0 1000000 && decide (d = 0)) else decide (a = 3) && (decide (b = 0) && (decide (c = 0) && decide (d = 0)))) = mFrameOk [tI a, tI b, tI c, tI d] := by
 rw [mFrameOk_eq]
 simp only [cI0, cI1, cI2, cI3]
 by_cases h1 : a = 1
 ·subst h1; simp [Bool.and_assoc]
 ·by_cases h2 : a = 2
  ·subst h2; simp [Bool.and_assoc]
  ·simp [h1, h2, Bool.and_assoc]
theorem b_frameOk_spec {ts : List T} (hr : ts.all roT = true) (h : sShR kFrame ts = true) : body lp0 ET63 107 [.ag ts] [] = some (.ret (oB (mFrameOk ts))) := by
 rw [sShR_eq] at h
 obtain ⟨a0, a1, a2, a3, rfl, _⟩ := row_Frame h
 rw [nf_107, ← frame_bool]
 simp only [bifV, bifB, Option.elim_some, vAt0, okVl_b, bV_b, Bool.and_true, cond_true, cB1, sEq_eq]; rfl
theorem b_frameOk_impl {ts : List T} (hr : ts.all roT = true) (h : sShR kFrame ts = true) : body lp0 ET64 114 [.ag ts] [] = some (.ret (oB (mFrameOk ts))) := by
 rw [sShR_eq] at h
 obtain ⟨a0, a1, a2, a3, rfl, _⟩ := row_Frame h
 rw [nf_114, ← frame_bool]
 simp only [bifV, bifB, Option.elim_some, vAt0, okVl_b, bV_b, Bool.and_true, cond_true, cB1, sEq_eq]; rfl
theorem b_isEvent {ts : List T} (hr : ts.all roT = true) (h : sShR kFrame ts = true) : body lp0 ET65 79 [.ag ts] [] = some (.ret (oB (mIsEvent ts))) := by
 have h' := h
 rw [sShR_eq] at h
 obtain ⟨a0, a1, a2, a3, rfl, _⟩ := row_Frame h
 rw [nf_79, mIsEvent_eq, h']
 simp only [cond_true, bifV, bifB, Option.elim_some, vAt0, okVl_b, bV_b, Bool.and_true, cB1, sEq_eq, cI0]
theorem isEvent_msg (a b c d e : Int) : mIsEvent [tI a, tI b, tI c, tI d, tI e] = mIsEvent [tI a, tI b, tI c, tI d] := by
 rw [mIsEvent_eq, mIsEvent_eq, mFrameOk_eq, mFrameOk_eq]; rfl
theorem b_msgOk {ts : List T} {c : Bool} (h : sShR kMsg ts = true) : body lp0 ET66 68 [.ag ts, aB c] [] = some (.ret (oB (mMsgOk ts c))) := by
 rw [sShR_eq] at h
 obtain ⟨a0, a1, a2, a3, a4, rfl, _⟩ := row_Msg h
 have hf : sShR kFrame [tI a0, tI a1, tI a2, tI a3] = true := by rw [sShR_eq]; simp [shR, shT]
 rw [nf_68, mMsgOk_eq, hf, isEvent_msg, mIsEvent_eq]
 simp only [cond_true, bifV, bifB, Option.elim_some, vAt0, okVl_b, bV_b, Bool.and_true, cB1, cB3, sEq_eq, cI0, cI1, cI2, cI3, cI4, Bool.not_not, show Int.negSucc 0 = -1 from rfl]
 by_cases h0 : a0 = 0
 ·subst h0; simp [Bool.and_assoc]
 ·simp [h0]
theorem b_srcOk_spec {ts : List T} (hr : ts.all roT = true) (h : sShR kSource ts = true) : body lp0 ET67 69 [.ag ts] [] = some (.ret (oB (mSrcOk ts))) := by
 rw [sShR_eq] at h
 obtain ⟨a0, a1, a2, a3, a4, rfl, _⟩ := row_Source h
 rw [nf_69]
 simp only [bifV, Option.elim_some, vAt0, okVl_b, bV_b, Bool.and_true, cond_true, cB1, mSrcOk_eq, cI0, cI1, cI2, Bool.and_assoc, show Int.negSucc 0 = -1 from rfl]
theorem b_srcOk_impl {ts : List T} (hr : ts.all roT = true) (h : sShR kSource ts = true) : body lp0 ET68 85 [.ag ts] [] = some (.ret (oB (mSrcOk ts))) := by
 rw [sShR_eq] at h
 obtain ⟨a0, a1, a2, a3, a4, rfl, _⟩ := row_Source h
 rw [nf_85]
 simp only [bifV, Option.elim_some, vAt0, okVl_b, bV_b, Bool.and_true, cond_true, cB1, mSrcOk_eq, cI0, cI1, cI2, Bool.and_assoc, show Int.negSucc 0 = -1 from rfl]
theorem dec_bool (a : List (List T)) (b : Bool) : (sLe (Int.ofNat (sLen a)) 400 && (!b || sEq (Int.ofNat (sLen a)) 0)) = mDecOk [.sl .ro 1 a, tB b] := by
 have e : Value.asB (([T.sl .ro 1 a, tB b] : List T).getD 1 .no).val = b := rfl
 have e2 : (([T.sl .ro 1 a, tB b] : List T).getD 0 .no).rws = a := rfl
 rw [mDecOk_eq, e, e2, sLe_eq, sEq_eq, sLen_eq, natI]
 congr 1
 ·rw [Bool.eq_iff_iff, decide_eq_true_eq, decide_eq_true_eq]; omega
 ·congr 1
  rw [Bool.eq_iff_iff, decide_eq_true_eq, decide_eq_true_eq]; omega
theorem b_decOk_spec {ts : List T} (hr : ts.all roT = true) (h : sShR kDecoder ts = true) : body lp0 ET69 70 [.ag ts] [] = some (.ret (oB (mDecOk ts))) := by
 rw [sShR_eq] at h
 obtain ⟨a0, a1, rfl, _⟩ := rowr_Decoder h hr
 rw [nf_70, ← dec_bool]
 simp only [bifV, Option.elim_some, vAt0, okVl_b, bV_b, Bool.and_true, cond_true, cB1, cB2]
theorem b_decOk_impl {ts : List T} (hr : ts.all roT = true) (h : sShR kDecoder ts = true) : body lp0 ET70 86 [.ag ts] [] = some (.ret (oB (mDecOk ts))) := by
 rw [sShR_eq] at h
 obtain ⟨a0, a1, rfl, _⟩ := rowr_Decoder h hr
 rw [nf_86, ← dec_bool]
 simp only [bifV, Option.elim_some, vAt0, okVl_b, bV_b, Bool.and_true, cond_true, cB1, cB2]
theorem b_ahead {a b : List T} (h1 : sShR kAggT a = true) (h2 : sShR kAggT b = true) : body lp0 ET71 106 [.ag a, .ag b] [] = some (.ret (oB (mAhead a b))) := by
 rw [sShR_eq] at h1 h2
 obtain ⟨a0, a1, a2, a3, a4, a5, rfl, _⟩ := row_Agg h1
 obtain ⟨b0, b1, b2, b3, b4, b5, rfl, _⟩ := row_Agg h2
 rw [nf_106, mAhead_eq]
 simp only [bifV, Option.elim_some, vAt0, okVl_b, bV_b, Bool.and_true, cond_true, cB1, cB2, sLt_eq, sEq_eq, cI0, cI1]
theorem b_nan (a : Int) : body lp0 ET72 159 [aI a] [] = some (.ret (oB false)) := by
 rw [nf_159, sEq_rfl]; rfl
theorem b_cmp (a b : Int) : body lp0 ET73 150 [aI a, aI b] [] = some (.ret (oI (mCmp a b))) := by
 rw [nf_150, mCmp_eq, sLt_eq, sLt_eq]
 by_cases h1 : a < b
 ·rw [decide_eq_true h1, if_pos h1]; rfl
 ·rw [decide_eq_false h1, if_neg h1]
  by_cases h2 : b < a
  ·rw [decide_eq_true h2, if_pos h2]; rfl
  ·rw [decide_eq_false h2, if_neg h2]; rfl
theorem b_or (a b : Int) : body lp0 ET74 149 [.c (.sl .ro 1 [[tI a], [tI b]])] [] = some (.ret (oI (mOr a b))) := by
 rw [nf_149, mOr_eq]
 have k0 : sOkC [.int .i64] [[tI a], [tI b]] (0 : Int).toNat 0 = true := by rw [sOkC_eq]; rfl
 have k1 : sOkC [.int .i64] [[tI a], [tI b]] (1 : Int).toNat 0 = true := by rw [sOkC_eq]; rfl
 have c0 : sCell [[tI a], [tI b]] (0 : Int).toNat 0 = tI a := by rw [sCell_eq]; rfl
 have c1 : sCell [[tI a], [tI b]] (1 : Int).toNat 0 = tI b := by rw [sCell_eq]; rfl
 have l0 : sLt 0 (Int.ofNat (sLen [[tI a], [tI b]])) = true := by rw [sLt_eq, sLen_eq]; rfl
 have l1 : sLt 1 (Int.ofNat (sLen [[tI a], [tI b]])) = true := by rw [sLt_eq, sLen_eq]; rfl
 have l2 : sLt 2 (Int.ofNat (sLen [[tI a], [tI b]])) = false := by rw [sLt_eq, sLen_eq]; rfl
 have e0 : sLe 0 0 = true := by rw [sLe_eq]; rfl
 have e1 : sLe 0 1 = true := by rw [sLe_eq]; rfl
 have a0 : sAdd .i64 0 1 = 1 := by rw [sAdd_eq]; rfl
 have a1 : sAdd .i64 1 1 = 2 := by rw [sAdd_eq]; rfl
 rw [lp0_eq]
 simp only [tAt0, tAt1, okT_i, iT_im, Bool.and_true, Bool.true_and, cond_true, l0, e0, k0, c0, a0, sEq_eq]
 by_cases h1 : a = 0
 ·rw [decide_eq_true h1, if_pos h1]
  simp only [Bool.not_true, cond_false, Option.bind_some]
  rw [lp0_eq]
  simp only [tAt0, tAt1, okT_i, iT_im, Bool.and_true, Bool.true_and, cond_true, l1, e1, k1, c1, a1, sEq_eq]
  by_cases h2 : b = 0
  ·rw [decide_eq_true h2]
   simp only [Bool.not_true, cond_false, Option.bind_some]
   rw [lp0_eq]
   simp only [tAt0, tAt1, okT_i, iT_im, Bool.and_true, Bool.true_and, cond_true, l2, cond_false, Option.bind_some, Option.elim_some, LRes.elim']
   rw [h2]
  ·rw [decide_eq_false h2]
   simp only [Bool.not_false, cond_true, Option.bind_some, Option.elim_some, LRes.elim']
 ·rw [decide_eq_false h1, if_neg h1]
  simp only [Bool.not_false, cond_true, Option.bind_some, Option.elim_some, LRes.elim']
theorem b_order {a b : List T} (h1 : sShR kAggT a = true) (h2 : sShR kAggT b = true) : body lp0 ET75 139 [.ag a, .ag b] [] = some (.ret (oI (mOrder a b))) := by
 rw [sShR_eq] at h1 h2
 obtain ⟨a0, a1, a2, a3, a4, a5, rfl, _⟩ := row_Agg h1
 obtain ⟨b0, b1, b2, b3, b4, b5, rfl, _⟩ := row_Agg h2
 rw [nf_139, mOrder_eq]
 simp only [cI0, cI1]
theorem order_ahead (a b : List T) : sLe 0 (mOrder a b) = !mAhead a b := by
 rw [sLe_eq, mOrder_eq, mAhead_eq, mOr_eq, mCmp_eq, mCmp_eq]
 by_cases h1 : cI a 0 < cI b 0
 ·simp [h1]
 ·by_cases h2 : cI b 0 < cI a 0
  ·have : ¬ cI a 0 = cI b 0 := by omega
   simp [h1, h2, this]
  ·have h3 : cI a 0 = cI b 0 := by omega
   rw [if_neg h1, if_neg h2, if_pos rfl, decide_eq_false h1, decide_eq_true h3]
   by_cases h4 : cI a 1 < cI b 1
   ·simp [h4]
   ·by_cases h5 : cI b 1 < cI a 1
    ·simp [h4, h5]
    ·simp [h4, h5]
theorem b_areAggs1 {ts : List T} (hr : ts.all roT = true) (h : sShR kAggT ts = true) : body lp0 ET76 137 [.ag ts] [] = some (.ret (oB (mNotAggOk ts))) := by
 have h' := h
 rw [sShR_eq] at h
 obtain ⟨a0, a1, a2, a3, a4, a5, rfl, _⟩ := row_Agg h
 rw [nf_137, h', mNotAggOk_eq]; rfl

theorem row6 {rs : List (List T)} {i : Nat} (hs : shRs kAggT rs = true) (hi : i < rs.length) : [tI (cI rs[i] 0), tI (cI rs[i] 1), tI (cI rs[i] 2), tI (cI rs[i] 3), tI (cI rs[i] 4), tI (cI rs[i] 5)] = rs[i] := by
 obtain ⟨a0, a1, a2, a3, a4, a5, e, _⟩ := row_Agg (shRs_get hs hi)
 rw [e]; simp only [cI0, cI1, cI2, cI3, cI4, cI5]
theorem row5 {rs : List (List T)} {i : Nat} (hs : shRs kMsg rs = true) (hi : i < rs.length) : [tI (cI rs[i] 0), tI (cI rs[i] 1), tI (cI rs[i] 2), tI (cI rs[i] 3), tI (cI rs[i] 4)] = rs[i] := by
 obtain ⟨a0, a1, a2, a3, a4, e, _⟩ := row_Msg (shRs_get hs hi)
 rw [e]; simp only [cI0, cI1, cI2, cI3, cI4]
theorem agg_okc {rs : List (List T)} {i : Nat} (hs : shRs kAggT rs = true) (hi : i < rs.length) : sOkC [.int .i64, .int .i64, .int .i64, .int .i64, .int .i64, .int .i64] rs (i : Int).toNat 0 = true := okc_sh' hs hi
theorem msg_okc5 {rs : List (List T)} {i : Nat} (hs : shRs kMsg rs = true) (hi : i < rs.length) : sOkC [.int .i64, .int .i64, .int .i64, .int .i64, .int .i64] rs (i : Int).toNat 0 = true := okc_sh' hs hi
theorem sh_get {row : List KT} {rs : List (List T)} {i : Nat} (hs : shRs row rs = true) (hi : i < rs.length) : sShR row rs[i] = true := by rw [sShR_eq]; exact shRs_get hs hi
theorem pEq3 {row : List KT} {rs : List (List T)} (h : pEq row rs = true) : shRs row rs = true ∧ lenRs reachBytes rs = true ∧ rs.length ≤ reachBytes := by
 rw [pEq_eq] at h; simp only [Bool.and_eq_true, decide_eq_true_eq] at h; exact ⟨h.1.1, h.1.2, h.2⟩
theorem any_idx (q : List T → Bool) (rs : List (List T)) : sLe 0 (sIdx q rs) = sAny q rs := by
 rw [sLe_eq, sIdx_eq, sAny_eq]
 cases hf : rs.findIdx? q with
 | none =>
  rw [List.findIdx?_eq_none_iff] at hf
  have : rs.any q = false := List.any_eq_false.2 fun x hx => by rw [hf x hx]; simp
  rw [this]; rfl
 | some i =>
  obtain ⟨hi, h1, _⟩ := List.findIdx?_eq_some_iff_getElem.1 hf
  have : rs.any q = true := List.any_eq_true.2 ⟨_, List.getElem_mem hi, h1⟩
  rw [this]; exact decide_eq_true (by show (0 : Int) ≤ i; omega)

theorem b_idxAgg {rs : List (List T)} (h : pEq kAggT rs = true) : body lp0 ET77 128 [.c (.sl .ro 6 rs), .fn 137 []] [] = some (.ret (oI (sIdx mNotAggOk rs))) := by
 obtain ⟨hs, _, hn⟩ := pEq3 h
 rw [nf_128, sIdx_eq]
 refine idx_loop (fun i hi => ?_) ?_
 ·simp only [tAt0, tAt1, okT_i, iT_im, Bool.and_true, cond_true, lt_len hi, le_0, agg_okc hs hi, cI_at hi, row6 hs hi, sh_get hs hi, add1i (Nat.lt_of_lt_of_le hi hn)]
  cases mNotAggOk rs[i] <;> rfl
 ·simp only [tAt0, tAt1, okT_i, iT_im, Bool.and_true, cond_true, cond_false, lt_len']
theorem b_contAgg {rs : List (List T)} (h : pEq kAggT rs = true) : body lp0 ET78 136 [.c (.sl .ro 6 rs), .fn 137 []] [] = some (.ret (oB (sAny mNotAggOk rs))) := by
 rw [nf_136, h, any_idx]; rfl
theorem b_areAggs {rs : List (List T)} (h : pEq kAggT rs = true) : body lp0 ET79 115 [.c (.sl .ro 6 rs)] [] = some (.ret (oB (mAreAggs rs))) := by
 rw [nf_115, h, cond_true, mAreAggs_eq, sAny_eq]
 have : (!rs.any mNotAggOk) = rs.all mAggOk := by
  rw [show mNotAggOk = fun r => !mAggOk r from funext mNotAggOk_eq]
  simp [List.not_any_eq_all_not]
 rw [this]
theorem sub1 {i : Nat} (h : i + 1 < reachBytes) : sSub .i64 ((i + 1 : Nat) : Int) 1 = (i : Int) := by
 have : reachBytes = 140737488351232 := rfl
 rw [sSub_eq, wrap64 (by omega) (by omega)]; omega
theorem b_areSorted {rs : List (List T)} (h : pEq kAggT rs = true) : body lp0 ET80 116 [.c (.sl .ro 6 rs)] [] = some (.ret (oB (mSorted rs))) := by
 obtain ⟨hs, _, hn⟩ := pEq3 h
 rw [nf_116, mSorted_eq]
 cases hrs : rs with
 | nil =>
  rw [lp0_eq]
  have : sLt 1 (Int.ofNat (sLen [])) = false := by rw [sLt_eq, sLen_eq]; rfl
  simp only [tAt0, tAt1, okT_i, okT_b, iT_im, bT_im, Bool.and_true, cond_true, cond_false, this, Option.bind_some, Option.elim_some, LRes.elim']
  rfl
 | cons r0 rest =>
  rw [← hrs]
  have hp : rs.length = rest.length + 1 := by rw [hrs]; rfl
  refine (congrArg (fun z => Option.elim z none _) (all_loopD (ds0 := [tB false, tI 1]) (fun i => [tB false, tI ((i + 1 : Nat) : Int)]) rest.length (fun i => mAhead (rs.getD i []) (rs.getD (i + 1) [])) (o := oB false) rfl (fun i hi => ?_) ?_)).trans ?_
  ·have h1 : i < rs.length := by omega
   have h2 : i + 1 < rs.length := by omega
   simp only [tAt0, tAt1, okT_i, okT_b, iT_im, bT_im, Bool.and_true, Bool.true_and, cond_true, sub1 (show i + 1 < reachBytes by omega), lt_len h1, lt_len h2, le_0, agg_okc hs h1, agg_okc hs h2, cI_at h1, cI_at h2, row6 hs h1, row6 hs h2, sh_get hs h1, sh_get hs h2, order_ahead, add1i (show i + 1 < reachBytes by omega), getD_at h1, getD_at h2]
   cases mAhead rs[i] rs[i + 1] <;> rfl
  ·have : sLt ((rest.length + 1 : Nat) : Int) (Int.ofNat (sLen rs)) = false := by rw [← hp]; exact lt_len'
   simp only [tAt0, tAt1, okT_i, okT_b, iT_im, bT_im, Bool.and_true, cond_true, cond_false, this]
  ·have e : ((List.range rs.length).all fun i => decide (i = 0) || mAhead (rs.getD (i - 1) []) (rs.getD i [])) = (List.range rest.length).all fun i => mAhead (rs.getD i []) (rs.getD (i + 1) []) := by
    rw [hp, Bool.eq_iff_iff, List.all_eq_true, List.all_eq_true]
    constructor
    ·intro h i hi
     have := h (i + 1) (List.mem_range.2 (by have := List.mem_range.1 hi; omega))
     simpa using this
    ·intro h i hi
     have hi := List.mem_range.1 hi
     cases i with
     | zero => simp
     | succ i =>
      have := h i (List.mem_range.2 (by omega))
      simpa using this
   rw [e]
   cases (List.range rest.length).all fun i => mAhead (rs.getD i []) (rs.getD (i + 1) []) with
   | false => rfl
   | true => simp only [cond_true, Option.elim_some, LRes.elim', tAt0, tAt1, okT_i, okT_b, Bool.and_true]

-- PART2
theorem b_shardOk_impl {ts : List T} (hr : ts.all roT = true) (h : pEqR kShard ts = true) : body lp0 ET82 82 [.ag ts] [] = some (.ret (oB (mShardOk ts))) := by
 rw [pEqR_eq, Bool.and_eq_true] at h
 obtain ⟨hs, hl⟩ := h
 obtain ⟨a0, a1, a2, a3, rfl, g0⟩ := rowr_Shard hs hr
 simp only [lenR, lenT, Bool.and_eq_true, decide_eq_true_eq] at hl
 have hp : pEq kAggT a0 = true := by rw [pEq_eq]; simp [g0, hl]
 rw [nf_82, hp, mShardOk_eq]
 have e : (([T.sl .ro 6 a0, tI a1, tI a2, tI a3] : List T).getD 0 .no).rws = a0 := rfl
 have el : sLe (Int.ofNat (sLen a0)) 40 = decide (a0.length ≤ 40) := by
  rw [sLe_eq, sLen_eq, natI, Bool.eq_iff_iff, decide_eq_true_eq, decide_eq_true_eq]; omega
 simp only [e, el, cond_true, bifV, Option.elim_some, vAt0, okVl_b, bV_b, Bool.and_true, cB1, cI1, cI2, cI3, Bool.and_assoc, show Int.negSucc 0 = -1 from rfl]
theorem b_shardOk_spec {ts : List T} (hr : ts.all roT = true) (h : pEqR kShard ts = true) : body lp0 ET81 67 [.ag ts] [] = some (.ret (oB (mShardOk ts))) := by
 rw [pEqR_eq, Bool.and_eq_true] at h
 obtain ⟨hs, hl⟩ := h
 obtain ⟨a0, a1, a2, a3, rfl, g0⟩ := rowr_Shard hs hr
 simp only [lenR, lenT, Bool.and_eq_true, decide_eq_true_eq] at hl
 have hn : a0.length ≤ reachBytes := hl.1.1
 rw [nf_67, mShardOk_eq, mAreAggs_eq, mSorted_eq]
 have e : (([T.sl .ro 6 a0, tI a1, tI a2, tI a3] : List T).getD 0 .no).rws = a0 := rfl
 have el : sLt 40 (Int.ofNat (sLen a0)) = !decide (a0.length ≤ 40) := by
  rw [sLt_eq, sLen_eq, natI, Bool.eq_iff_iff]; simp only [decide_eq_true_eq, Bool.not_eq_true', decide_eq_false_iff_not]; omega
 simp only [e, el, bifV, Option.elim_some, vAt0, okVl_b, bV_b, Bool.and_true, cond_true, cB2, cI1, cI2, cI3, show Int.negSucc 0 = -1 from rfl]
 refine (congrArg (fun z => bif (!decide (a0.length ≤ 40) || (!mIn a1 (-1) 1000000 || (!mIn a2 0 1000000000 || !mIn a3 0 1000000000))) then some (LRes.ret (oB false)) else Option.elim z none _) (all_loopD (ds0 := [tB false, tI 0]) (fun i => [tB false, tI (i : Int)]) a0.length (fun i => mAggOk (a0.getD i []) && (decide (i = 0) || mAhead (a0.getD (i - 1) []) (a0.getD i []))) (o := oB false) rfl (fun i hi => ?_) ?_)).trans ?_
 ·simp only [tAt0, tAt1, okT_i, okT_b, iT_im, bT_im, Bool.and_true, Bool.true_and, cond_true, lt_len hi, le_0, agg_okc g0 hi, cI_at hi, row6 g0 hi, sh_get g0 hi, getD_at hi, add1i (Nat.lt_of_lt_of_le hi hn)]
  cases i with
  | zero =>
   have h0 : sLt 0 ((0 : Nat) : Int) = false := by rw [sLt_eq]; rfl
   simp only [h0, cond_false, bifV, Option.elim_some, vAt0, okVl_b, bV_b, Bool.and_true, cond_true, cB2, decide_true, Bool.true_or, Bool.or_false]
   cases mAggOk a0[0] <;> rfl
  | succ i =>
   have h0 : sLt 0 ((i + 1 : Nat) : Int) = true := by rw [sLt_eq]; exact decide_eq_true (by omega)
   have hi' : i < a0.length := by omega
   simp only [h0, cond_true, sub1 (show i + 1 < reachBytes by omega), lt_len hi', le_0, agg_okc g0 hi', cI_at hi', row6 g0 hi', sh_get g0 hi', Bool.and_true, Bool.true_and, bifV, Option.elim_some, vAt0, okVl_b, bV_b, cB2, Nat.add_sub_cancel, getD_at hi']
   cases mAggOk a0[i + 1] <;> cases mAhead a0[i] a0[i + 1] <;> rfl
 ·simp only [tAt0, tAt1, okT_i, okT_b, iT_im, bT_im, Bool.and_true, cond_true, cond_false, lt_len']
 ·have : ((List.range a0.length).all fun i => mAggOk (a0.getD i []) && (decide (i = 0) || mAhead (a0.getD (i - 1) []) (a0.getD i []))) = (a0.all mAggOk && (List.range a0.length).all fun i => decide (i = 0) || mAhead (a0.getD (i - 1) []) (a0.getD i [])) := by
   rw [range_all_and, range_all_rows]
  rw [this]
  cases decide (a0.length ≤ 40) <;> cases mIn a1 (-1) 1000000 <;> cases mIn a2 0 1000000000 <;> cases mIn a3 0 1000000000 <;> cases a0.all mAggOk <;> cases ((List.range a0.length).all fun i => decide (i = 0) || mAhead (a0.getD (i - 1) []) (a0.getD i [])) <;>
   simp only [Bool.not_true, Bool.not_false, Bool.true_or, Bool.false_or, Bool.and_true, Bool.true_and, Bool.and_false, Bool.false_and, cond_true, cond_false, Option.elim_some, LRes.elim', tAt0, tAt1, okT_i, okT_b]

theorem b_safe1 {ts : List T} (hr : ts.all roT = true) (h : sShR kMsg ts = true) : body lp0 ET83 78 [.ag ts] [] = some (.ret (oB (mBadIn ts))) := by
 rw [sShR_eq] at h
 obtain ⟨a0, a1, a2, a3, a4, rfl, _⟩ := row_Msg h
 have hf : sShR kFrame [tI a0, tI a1, tI a2, tI a3] = true := by rw [sShR_eq]; simp [shR, shT]
 rw [nf_78, mBadIn_eq, mMsgOk_eq, hf, isEvent_msg]
 simp only [cond_true, bifV, Option.elim_some, vAt0, okVl_b, bV_b, Bool.and_true, cB2, cI4, show Int.negSucc 0 = -1 from rfl, Bool.false_and, Bool.or_false, Bool.not_and]
 rw [Bool.or_comm]
theorem b_safe2 {ts : List T} (hr : ts.all roT = true) (h : sShR kMsg ts = true) : body lp0 ET84 81 [.ag ts] [] = some (.ret (oB (mBadQ ts))) := by
 rw [sShR_eq] at h
 obtain ⟨a0, a1, a2, a3, a4, rfl, _⟩ := row_Msg h
 have hf : sShR kFrame [tI a0, tI a1, tI a2, tI a3] = true := by rw [sShR_eq]; simp [shR, shT]
 rw [nf_81, mBadQ_eq, mMsgOk_eq, hf, isEvent_msg]
 simp only [cond_true, bifV, Option.elim_some, vAt0, okVl_b, bV_b, Bool.and_true, cB2, cI0, cI1, cI2, cI3, cI4, show Int.negSucc 0 = -1 from rfl, sEq_eq, Bool.true_and]
 cases mIsEvent [tI a0, tI a1, tI a2, tI a3] <;> cases mIn a4 (-1) 1000000 <;> cases decide (a0 = 0) <;> cases decide (a1 = 0) <;> cases decide (a2 = 0) <;> cases decide (a3 = 0) <;> rfl
theorem b_idxIn {rs : List (List T)} (h : pEq kMsg rs = true) : body lp0 ET85 113 [.c (.sl .ro 5 rs), .fn 78 []] [] = some (.ret (oI (sIdx mBadIn rs))) := by
 obtain ⟨hs, _, hn⟩ := pEq3 h
 rw [nf_113, sIdx_eq]
 refine idx_loop (fun i hi => ?_) ?_
 ·simp only [tAt0, tAt1, okT_i, iT_im, Bool.and_true, cond_true, lt_len hi, le_0, msg_okc5 hs hi, cI_at hi, row5 hs hi, sh_get hs hi, add1i (Nat.lt_of_lt_of_le hi hn)]
  cases mBadIn rs[i] <;> rfl
 ·simp only [tAt0, tAt1, okT_i, iT_im, Bool.and_true, cond_true, cond_false, lt_len']
theorem b_idxQ {rs : List (List T)} (h : pEq kMsg rs = true) : body lp0 ET85 113 [.c (.sl .ro 5 rs), .fn 81 []] [] = some (.ret (oI (sIdx mBadQ rs))) := by
 obtain ⟨hs, _, hn⟩ := pEq3 h
 rw [nf_113_b, sIdx_eq]
 refine idx_loop (fun i hi => ?_) ?_
 ·simp only [tAt0, tAt1, okT_i, iT_im, Bool.and_true, cond_true, lt_len hi, le_0, msg_okc5 hs hi, cI_at hi, row5 hs hi, sh_get hs hi, add1i (Nat.lt_of_lt_of_le hi hn)]
  cases mBadQ rs[i] <;> rfl
 ·simp only [tAt0, tAt1, okT_i, iT_im, Bool.and_true, cond_true, cond_false, lt_len']
theorem b_contIn {rs : List (List T)} (h : pEq kMsg rs = true) : body lp0 ET86 77 [.c (.sl .ro 5 rs), .fn 78 []] [] = some (.ret (oB (sAny mBadIn rs))) := by
 rw [nf_77, h, any_idx]; rfl
theorem b_contQ {rs : List (List T)} (h : pEq kMsg rs = true) : body lp0 ET86 77 [.c (.sl .ro 5 rs), .fn 81 []] [] = some (.ret (oB (sAny mBadQ rs))) := by
 rw [nf_77_b, h, any_idx]; rfl
theorem badConn_fl (f f' : Fl) (a : List (List T)) (ts : List T) : mBadConn (.sl f 1 a :: ts) = mBadConn (.sl f' 1 a :: ts) := by
 rw [mBadConn_eq, mBadConn_eq]
 congr 1; congr 1
 show mDecOk (.sl f 1 a :: ts.take 1) = mDecOk (.sl f' 1 a :: ts.take 1)
 rw [mDecOk_eq, mDecOk_eq]; rfl
theorem b_safe3 {ts : List T} (hr : ts.all roT = true) (h : pEqR kConn ts = true) : body lp0 ET87 84 [.ag ts] [] = some (.ret (oB (mBadConn ts))) := by
 rw [pEqR_eq, Bool.and_eq_true] at h
 obtain ⟨a0, a1, a2, a3, a4, a5, a6, rfl, g0⟩ := rowr_Conn h.1 hr
 have h1 : sShR kSource [tI a2, tI a3, tI a4, tB a5, tB a6] = true := by rw [sShR_eq]; simp [shR, shT]
 have h2 : sShR kDecoder [.sl .ro 1 a0, tB a1] = true := by rw [sShR_eq]; simp [shR, shT, g0]
 rw [nf_84, mBadConn_eq, h1, h2]
 simp only [cond_true, bifV, Option.elim_some, vAt0, okVl_b, bV_b, Bool.and_true, cB2, Bool.not_and]
 rfl
theorem b_idxConn {rs : List (List T)} (h : pEq kConn rs = true) : body lp0 ET88 118 [.c (.sl .ro 7 rs), .fn 84 []] [] = some (.ret (oI (sIdx mBadConn rs))) := by
 obtain ⟨hs, hl, hn⟩ := pEq3 h
 rw [nf_118, sIdx_eq]
 refine idx_loop (fun i hi => ?_) ?_
 ·obtain ⟨fa0, a0, a1, a2, a3, a4, a5, a6, hr, g0⟩ := row_Conn (shRs_get hs hi)
  have hl2 := lenRs_get hl hi
  rw [hr] at hl2
  simp only [lenR, lenT, Bool.and_eq_true, decide_eq_true_eq] at hl2
  have hk : sOkC [.sl 1, .bool, .int .i64, .int .i64, .int .i64, .bool, .bool] rs (i : Int).toNat 0 = true := okc_sh' hs hi
  have c0 : sCell rs (i : Int).toNat 0 = .sl fa0 1 a0 := by rw [cell_at' hi, hr]; rfl
  have c1 : sCell rs (i : Int).toNat 1 = tB a1 := by rw [cell_at' hi, hr]; rfl
  have c2 : sCell rs (i : Int).toNat 2 = tI a2 := by rw [cell_at' hi, hr]; rfl
  have c3 : sCell rs (i : Int).toNat 3 = tI a3 := by rw [cell_at' hi, hr]; rfl
  have c4 : sCell rs (i : Int).toNat 4 = tI a4 := by rw [cell_at' hi, hr]; rfl
  have c5 : sCell rs (i : Int).toNat 5 = tB a5 := by rw [cell_at' hi, hr]; rfl
  have c6 : sCell rs (i : Int).toNat 6 = tB a6 := by rw [cell_at' hi, hr]; rfl
  have hp : pEqR kConn [.sl .ro 1 a0, tB a1, tI a2, tI a3, tI a4, tB a5, tB a6] = true := by rw [pEqR_eq]; simp [shR, shT, lenR, lenT, hl2, g0]
  simp only [tAt0, tAt1, okT_i, iT_im, bT_im, rT_sl, slT_sl, Bool.and_true, cond_true, lt_len hi, le_0, hk, c0, c1, c2, c3, c4, c5, c6, hp, add1i (Nat.lt_of_lt_of_le hi hn)]
  rw [hr, badConn_fl fa0 .ro]
  cases mBadConn [.sl .ro 1 a0, tB a1, tI a2, tI a3, tI a4, tB a5, tB a6] <;> rfl
 ·simp only [tAt0, tAt1, okT_i, iT_im, Bool.and_true, cond_true, cond_false, lt_len']
theorem b_contConn {rs : List (List T)} (h : pEq kConn rs = true) : body lp0 ET89 83 [.c (.sl .ro 7 rs), .fn 84 []] [] = some (.ret (oB (sAny mBadConn rs))) := by
 rw [nf_83, h, any_idx]; rfl

-- PART3
theorem lt_nat {i n : Nat} (h : i < n) : sLt (i : Int) (n : Int) = true := by rw [sLt_eq]; exact decide_eq_true (by omega)
theorem lt_nat' {n : Nat} : sLt (n : Int) (n : Int) = false := by rw [sLt_eq]; exact decide_eq_false (by omega)
theorem shardOk_fl (f f' : Fl) (a : List (List T)) (ts : List T) : mShardOk (.sl f 6 a :: ts) = mShardOk (.sl f' 6 a :: ts) := by
 rw [mShardOk_eq, mShardOk_eq]; rfl
theorem mHead_at (a0 a1 a2 a3 a4 a5 a6 a7 a8 a9 a10 a16 a18 a19 a20 a21 a22 a23 : Int) (a11 a12 a13 a14 a15 a17 : List (List T)) : mHead [tI a0, tI a1, tI a2, tI a3, tI a4, tI a5, tI a6, tI a7, tI a8, tI a9, tI a10, .sl .ro 7 a11, .sl .ro 5 a12, .sl .ro 1 a13, .sl .ro 4 a14, .sl .ro 6 a15, tI a16, .sl .ro 1 a17, tI a18, tI a19, tI a20, tI a21, tI a22, tI a23] = (mSetupOk [tI a0, tI a1, tI a2, tI a3, tI a4, tI a5, tI a6, tI a7, tI a8] && mIn a10 0 2 && decide ((a13.length : Int) = a1) && decide ((a14.length : Int) = a1) && decide ((a17.length : Int) = a1) && decide ((a12.length : Int) ≤ a5) && decide ((a15.length : Int) ≤ a7)) := by
 have h : mHead [tI a0, tI a1, tI a2, tI a3, tI a4, tI a5, tI a6, tI a7, tI a8, tI a9, tI a10, .sl .ro 7 a11, .sl .ro 5 a12, .sl .ro 1 a13, .sl .ro 4 a14, .sl .ro 6 a15, tI a16, .sl .ro 1 a17, tI a18, tI a19, tI a20, tI a21, tI a22, tI a23] = (mSetupOk [tI a0, tI a1, tI a2, tI a3, tI a4, tI a5, tI a6, tI a7, tI a8] && mIn (iT (tI a10)) 0 2 && decide ((a13.length : Int) = iT (tI a1)) && decide ((a14.length : Int) = iT (tI a1)) && decide ((a17.length : Int) = iT (tI a1)) && decide ((a12.length : Int) ≤ iT (tI a5)) && decide ((a15.length : Int) ≤ iT (tI a7))) := by rw [mHead, sld_eq]; rfl
 rw [h]; simp only [iT_im]
theorem head_e1 (a0 a1 a2 a3 a4 a5 a6 a7 a8 a9 a10 a16 a18 a19 a20 a21 a22 a23 : Int) (a11 a12 a13 a14 a15 a17 : List (List T)) : (!mSetupOk [tI a0, tI a1, tI a2, tI a3, tI a4, tI a5, tI a6, tI a7, tI a8] || (!mIn a10 0 2 || (!sEq (Int.ofNat (sLen a13)) a1 || (!sEq (Int.ofNat (sLen a14)) a1 || (!sEq (Int.ofNat (sLen a17)) a1 || (sLt a5 (Int.ofNat (sLen a12)) || sLt a7 (Int.ofNat (sLen a15)))))))) = !mHead [tI a0, tI a1, tI a2, tI a3, tI a4, tI a5, tI a6, tI a7, tI a8, tI a9, tI a10, .sl .ro 7 a11, .sl .ro 5 a12, .sl .ro 1 a13, .sl .ro 4 a14, .sl .ro 6 a15, tI a16, .sl .ro 1 a17, tI a18, tI a19, tI a20, tI a21, tI a22, tI a23] := by
 rw [mHead_at]
 have e1 : ∀ (a : List (List T)) (b : Int), sLt b (Int.ofNat (sLen a)) = !decide ((a.length : Int) ≤ b) := fun a b => by
  rw [sLt_eq, sLen_eq, natI, Bool.eq_iff_iff]; simp only [decide_eq_true_eq, Bool.not_eq_true', decide_eq_false_iff_not]; omega
 simp only [e1]
 simp only [sEq_eq, sLen_eq, natI, Bool.not_and, Bool.or_assoc]
theorem mQue_eq (ts : List T) (k : Nat) : mQue ts k = (mQs ts k).all fun r => mMsgOk r true := by rw [mQue, sld_eq]
theorem mShd_at (a0 a1 a2 a3 a4 a5 a6 a7 a8 a9 a10 a16 a18 a19 a20 a21 a22 a23 : Int) (a11 a12 a13 a14 a15 a17 : List (List T)) (k : Nat) : mShd [tI a0, tI a1, tI a2, tI a3, tI a4, tI a5, tI a6, tI a7, tI a8, tI a9, tI a10, .sl .ro 7 a11, .sl .ro 5 a12, .sl .ro 1 a13, .sl .ro 4 a14, .sl .ro 6 a15, tI a16, .sl .ro 1 a17, tI a18, tI a19, tI a20, tI a21, tI a22, tI a23] k = (mShardOk (a14.getD k []) && decide (((((a14.getD k []).getD 0 .no).rws.length : Nat) : Int) ≤ a8) && decide (cI (a14.getD k []) 1 ≤ cI (a17.getD k []) 0) && decide (cI (a17.getD k []) 0 ≤ a16)) := by
 have h : mShd [tI a0, tI a1, tI a2, tI a3, tI a4, tI a5, tI a6, tI a7, tI a8, tI a9, tI a10, .sl .ro 7 a11, .sl .ro 5 a12, .sl .ro 1 a13, .sl .ro 4 a14, .sl .ro 6 a15, tI a16, .sl .ro 1 a17, tI a18, tI a19, tI a20, tI a21, tI a22, tI a23] k = (mShardOk (a14.getD k []) && decide (((((a14.getD k []).getD 0 .no).rws.length : Nat) : Int) ≤ iT (tI a8)) && decide (cI (a14.getD k []) 1 ≤ cI (a17.getD k []) 0) && decide (cI (a17.getD k []) 0 ≤ iT (tI a16))) := by rw [mShd, sld_eq]; rfl
 rw [h]; simp only [iT_im]
theorem mSafe_at (a0 a1 a2 a3 a4 a5 a6 a7 a8 a9 a10 a16 a18 a19 a20 a21 a22 a23 : Int) (a11 a12 a13 a14 a15 a17 : List (List T)) : mSafe [tI a0, tI a1, tI a2, tI a3, tI a4, tI a5, tI a6, tI a7, tI a8, tI a9, tI a10, .sl .ro 7 a11, .sl .ro 5 a12, .sl .ro 1 a13, .sl .ro 4 a14, .sl .ro 6 a15, tI a16, .sl .ro 1 a17, tI a18, tI a19, tI a20, tI a21, tI a22, tI a23] = (mHead [tI a0, tI a1, tI a2, tI a3, tI a4, tI a5, tI a6, tI a7, tI a8, tI a9, tI a10, .sl .ro 7 a11, .sl .ro 5 a12, .sl .ro 1 a13, .sl .ro 4 a14, .sl .ro 6 a15, tI a16, .sl .ro 1 a17, tI a18, tI a19, tI a20, tI a21, tI a22, tI a23] && (a12.all fun r => mMsgOk r false) && ((List.range a13.length).all fun k => decide ((((((a13.getD k []).getD 0 .no).rws).length : Nat) : Int) ≤ a6) && (mQue [tI a0, tI a1, tI a2, tI a3, tI a4, tI a5, tI a6, tI a7, tI a8, tI a9, tI a10, .sl .ro 7 a11, .sl .ro 5 a12, .sl .ro 1 a13, .sl .ro 4 a14, .sl .ro 6 a15, tI a16, .sl .ro 1 a17, tI a18, tI a19, tI a20, tI a21, tI a22, tI a23] k && mShd [tI a0, tI a1, tI a2, tI a3, tI a4, tI a5, tI a6, tI a7, tI a8, tI a9, tI a10, .sl .ro 7 a11, .sl .ro 5 a12, .sl .ro 1 a13, .sl .ro 4 a14, .sl .ro 6 a15, tI a16, .sl .ro 1 a17, tI a18, tI a19, tI a20, tI a21, tI a22, tI a23] k)) && a11.all (fun r => !mBadConn r)) := by
 have h : mSafe [tI a0, tI a1, tI a2, tI a3, tI a4, tI a5, tI a6, tI a7, tI a8, tI a9, tI a10, .sl .ro 7 a11, .sl .ro 5 a12, .sl .ro 1 a13, .sl .ro 4 a14, .sl .ro 6 a15, tI a16, .sl .ro 1 a17, tI a18, tI a19, tI a20, tI a21, tI a22, tI a23] = (mHead [tI a0, tI a1, tI a2, tI a3, tI a4, tI a5, tI a6, tI a7, tI a8, tI a9, tI a10, .sl .ro 7 a11, .sl .ro 5 a12, .sl .ro 1 a13, .sl .ro 4 a14, .sl .ro 6 a15, tI a16, .sl .ro 1 a17, tI a18, tI a19, tI a20, tI a21, tI a22, tI a23] && (a12.all fun r => mMsgOk r false) && ((List.range a13.length).all fun k => decide ((((((a13.getD k []).getD 0 .no).rws).length : Nat) : Int) ≤ iT (tI a6)) && (mQue [tI a0, tI a1, tI a2, tI a3, tI a4, tI a5, tI a6, tI a7, tI a8, tI a9, tI a10, .sl .ro 7 a11, .sl .ro 5 a12, .sl .ro 1 a13, .sl .ro 4 a14, .sl .ro 6 a15, tI a16, .sl .ro 1 a17, tI a18, tI a19, tI a20, tI a21, tI a22, tI a23] k && mShd [tI a0, tI a1, tI a2, tI a3, tI a4, tI a5, tI a6, tI a7, tI a8, tI a9, tI a10, .sl .ro 7 a11, .sl .ro 5 a12, .sl .ro 1 a13, .sl .ro 4 a14, .sl .ro 6 a15, tI a16, .sl .ro 1 a17, tI a18, tI a19, tI a20, tI a21, tI a22, tI a23] k)) && a11.all (fun r => !mBadConn r)) := by rw [mSafe, sld_eq]; rfl
 rw [h]; simp only [iT_im]
theorem any_bad (q : List T → Bool) (p : List T → Bool) (h : ∀ r, q r = !p r) (rs : List (List T)) : sAny q rs = !rs.all p := by
 rw [sAny_eq, show q = fun r => !p r from funext h]; simp [List.not_all_eq_any_not]

/-- the k-th rows of an engine's queues, shards, marks -/
theorem b_safe_impl {ts : List T} (hr : ts.all roT = true) (h : pEqR kEngine ts = true) : body lp0 ET91 34 [.ag ts] [] = some (.ret (oB (mSafe ts))) := by
 rw [pEqR_eq, Bool.and_eq_true] at h
 obtain ⟨hs, hl⟩ := h
 obtain ⟨a0, a1, a2, a3, a4, a5, a6, a7, a8, a9, a10, a11, a12, a13, a14, a15, a16, a17, a18, a19, a20, a21, a22, a23, rfl, g11, g12, g13, g14, g15, g17⟩ := rowr_Engine hs hr
 simp only [lenR, lenT, Bool.and_eq_true, decide_eq_true_eq] at hl
 have p12 : pEq kMsg a12 = true := by rw [pEq_eq]; simp [g12, hl]
 have p11 : pEq kConn a11 = true := by rw [pEq_eq]; simp [g11, hl]
 have l13 : lenRs reachBytes a13 = true := by simp [hl]
 have l14 : lenRs reachBytes a14 = true := by simp [hl]
 have n13 : a13.length ≤ reachBytes := by simp [hl]
 have hset : sShR kSetup [tI a0, tI a1, tI a2, tI a3, tI a4, tI a5, tI a6, tI a7, tI a8] = true := by rw [sShR_eq]; simp [shR, shT]
 have e1 := head_e1 a0 a1 a2 a3 a4 a5 a6 a7 a8 a9 a10 a16 a18 a19 a20 a21 a22 a23 a11 a12 a13 a14 a15 a17
 have eh := mHead_at a0 a1 a2 a3 a4 a5 a6 a7 a8 a9 a10 a16 a18 a19 a20 a21 a22 a23 a11 a12 a13 a14 a15 a17
 have es := mShd_at a0 a1 a2 a3 a4 a5 a6 a7 a8 a9 a10 a16 a18 a19 a20 a21 a22 a23 a11 a12 a13 a14 a15 a17
 rw [nf_34, mSafe_at, hset, p12]
 simp only [cond_true, bifV, Option.elim_some, vAt0, okVl_b, bV_b, Bool.and_true, cB2, e1]
 generalize hH : mHead [tI a0, tI a1, tI a2, tI a3, tI a4, tI a5, tI a6, tI a7, tI a8, tI a9, tI a10, .sl .ro 7 a11, .sl .ro 5 a12, .sl .ro 1 a13, .sl .ro 4 a14, .sl .ro 6 a15, tI a16, .sl .ro 1 a17, tI a18, tI a19, tI a20, tI a21, tI a22, tI a23] = H at *
 cases H with
 | false => rfl
 | true =>
 simp only [Bool.not_true, cond_false, Bool.true_and]
 have eh := eh.symm
 simp only [Bool.and_eq_true, decide_eq_true_eq] at eh
 obtain ⟨⟨⟨⟨⟨_, q13⟩, q14⟩, q17⟩, _⟩, _⟩ := eh
 rw [any_bad mBadIn (fun r => mMsgOk r false) mBadIn_eq]
 cases hin : (a12.all fun r => mMsgOk r false) with
 | false => rfl
 | true =>
 simp only [Bool.not_true, cond_false, Bool.true_and]
 refine (congrArg (fun z => Option.elim z none _) (all_loopD (ds0 := _) (fun i => [tI a0, tI a1, tI a2, tI a3, tI a4, tI a5, tI a6, tI a7, tI a8, tI a9, tI a10, tI (Int.ofNat (sLen a11)), tI (Int.ofNat (sLen a12)), tI (Int.ofNat (sLen a13)), tI (Int.ofNat (sLen a14)), tI (Int.ofNat (sLen a15)), tI a16, tI (Int.ofNat (sLen a17)), tI a18, tI a19, tI a20, tI a21, tI a22, tI a23, .sl .ro 7 a11, .sl .ro 5 a12, .sl .ro 1 a13, .sl .ro 4 a14, .sl .ro 6 a15, .sl .ro 1 a17, tB false, tI (i : Int)]) a13.length (fun k => decide ((((((a13.getD k []).getD 0 .no).rws).length : Nat) : Int) ≤ a6) && (mQue [tI a0, tI a1, tI a2, tI a3, tI a4, tI a5, tI a6, tI a7, tI a8, tI a9, tI a10, .sl .ro 7 a11, .sl .ro 5 a12, .sl .ro 1 a13, .sl .ro 4 a14, .sl .ro 6 a15, tI a16, .sl .ro 1 a17, tI a18, tI a19, tI a20, tI a21, tI a22, tI a23] k && mShd [tI a0, tI a1, tI a2, tI a3, tI a4, tI a5, tI a6, tI a7, tI a8, tI a9, tI a10, .sl .ro 7 a11, .sl .ro 5 a12, .sl .ro 1 a13, .sl .ro 4 a14, .sl .ro 6 a15, tI a16, .sl .ro 1 a17, tI a18, tI a19, tI a20, tI a21, tI a22, tI a23] k)) (o := oB false) rfl (fun i hi => ?_) ?_)).trans ?_
 ·have hi14 : i < a14.length := by omega
  have hi17 : i < a17.length := by omega
  obtain ⟨fq, q, hq, gq⟩ := row_MsgS (shRs_get g13 hi)
  obtain ⟨fg, g, m, u, v, hg, gg⟩ := row_Shard (shRs_get g14 hi14)
  obtain ⟨s, hsn, _⟩ := row_Int (shRs_get g17 hi17)
  have lq := lenRs_get l13 hi
  rw [hq] at lq
  have lg := lenRs_get l14 hi14
  rw [hg] at lg
  simp only [lenR, lenT, Bool.and_eq_true, decide_eq_true_eq] at lq lg
  have kq : sOkC [.sl 5] a13 (i : Int).toNat 0 = true := okc_sh' g13 hi
  have kg : sOkC [.sl 6, .int .i64, .int .i64, .int .i64] a14 (i : Int).toNat 0 = true := okc_sh' g14 hi14
  have ks : sOkC [.int .i64] a17 (i : Int).toNat 0 = true := okc_sh' g17 hi17
  have cq : sCell a13 (i : Int).toNat 0 = .sl fq 5 q := by rw [cell_at' hi, hq]; rfl
  have c0 : sCell a14 (i : Int).toNat 0 = .sl fg 6 g := by rw [cell_at' hi14, hg]; rfl
  have c1 : sCell a14 (i : Int).toNat 1 = tI m := by rw [cell_at' hi14, hg]; rfl
  have c2 : sCell a14 (i : Int).toNat 2 = tI u := by rw [cell_at' hi14, hg]; rfl
  have c3 : sCell a14 (i : Int).toNat 3 = tI v := by rw [cell_at' hi14, hg]; rfl
  have cs : sCell a17 (i : Int).toNat 0 = tI s := by rw [cell_at' hi17, hsn]; rfl
  have pq : pEq kMsg q = true := by rw [pEq_eq]; simp [gq, lq]
  have pg : pEqR kShard [.sl .ro 6 g, tI m, tI u, tI v] = true := by rw [pEqR_eq]; simp [shR, shT, lenR, lenT, gg, lg]
  have hQ : mQue [tI a0, tI a1, tI a2, tI a3, tI a4, tI a5, tI a6, tI a7, tI a8, tI a9, tI a10, .sl .ro 7 a11, .sl .ro 5 a12, .sl .ro 1 a13, .sl .ro 4 a14, .sl .ro 6 a15, tI a16, .sl .ro 1 a17, tI a18, tI a19, tI a20, tI a21, tI a22, tI a23] i = q.all fun r => mMsgOk r true := by
   rw [mQue_eq]
   have : mQs [tI a0, tI a1, tI a2, tI a3, tI a4, tI a5, tI a6, tI a7, tI a8, tI a9, tI a10, .sl .ro 7 a11, .sl .ro 5 a12, .sl .ro 1 a13, .sl .ro 4 a14, .sl .ro 6 a15, tI a16, .sl .ro 1 a17, tI a18, tI a19, tI a20, tI a21, tI a22, tI a23] i = q := by show (((a13.getD i []).getD 0 .no).rws) = q; rw [getD_at hi, hq]; rfl
   rw [this]
  have hS : mShd [tI a0, tI a1, tI a2, tI a3, tI a4, tI a5, tI a6, tI a7, tI a8, tI a9, tI a10, .sl .ro 7 a11, .sl .ro 5 a12, .sl .ro 1 a13, .sl .ro 4 a14, .sl .ro 6 a15, tI a16, .sl .ro 1 a17, tI a18, tI a19, tI a20, tI a21, tI a22, tI a23] i = (mShardOk [.sl .ro 6 g, tI m, tI u, tI v] && (decide ((g.length : Int) ≤ a8) && (decide (m ≤ s) && decide (s ≤ a16)))) := by
   rw [es i, getD_at hi14, getD_at hi17, hg, hsn, shardOk_fl fg .ro, cI1, cI0, Bool.and_assoc, Bool.and_assoc]; rfl
  have hL : ((((a13.getD i []).getD 0 .no).rws).length : Int) = q.length := by rw [getD_at hi, hq]; rfl
  have elt : ∀ (x : List (List T)) (b : Int), sLt b (Int.ofNat (sLen x)) = !decide ((x.length : Int) ≤ b) := fun x b => by
   rw [sLt_eq, sLen_eq, natI, Bool.eq_iff_iff]; simp only [decide_eq_true_eq, Bool.not_eq_true', decide_eq_false_iff_not]; omega
  have elti : ∀ (x b : Int), sLt b x = !decide (x ≤ b) := fun x b => by
   rw [sLt_eq, Bool.eq_iff_iff]; simp only [decide_eq_true_eq, Bool.not_eq_true', decide_eq_false_iff_not]; omega
  have w14 : sLt (i : Int) (Int.ofNat (Int.ofNat (sLen a14)).toNat) = true := lt_len hi14
  have w17 : sLt (i : Int) (Int.ofNat (Int.ofNat (sLen a17)).toNat) = true := lt_len hi17
  simp only [tAt_eq, List.getD_cons_succ, List.getD_cons_zero, okT_i, okT_b, okT_s, iT_im, bT_im, rT_sl, slT_sl, Bool.and_true, Bool.true_and, cond_true, lt_len hi, w14, w17, le_0, kq, kg, ks, cq, c0, c1, c2, c3, cs, pq, pg, elt, any_bad mBadQ (fun r => mMsgOk r true) mBadQ_eq, bifV, Option.elim_some, vAt0, okVl_b, bV_b, cB2, hQ, hS, hL, add1i (Nat.lt_of_lt_of_le hi n13)]
  rw [elti m s, elti s a16]
  cases decide ((q.length : Int) ≤ a6) <;> cases (q.all fun r => mMsgOk r true) <;> cases mShardOk [.sl .ro 6 g, tI m, tI u, tI v] <;> cases decide ((g.length : Int) ≤ a8) <;> cases decide (m ≤ s) <;> cases decide (s ≤ a16) <;> rfl
 ·simp only [tAt_eq, List.getD_cons_succ, List.getD_cons_zero, okT_i, okT_b, okT_s, iT_im, bT_im, rT_sl, slT_sl, Bool.and_true, Bool.true_and, cond_true, cond_false, lt_len']
  rfl
 ·cases ((List.range a13.length).all fun k => decide ((((((a13.getD k []).getD 0 .no).rws).length : Nat) : Int) ≤ a6) && (mQue [tI a0, tI a1, tI a2, tI a3, tI a4, tI a5, tI a6, tI a7, tI a8, tI a9, tI a10, .sl .ro 7 a11, .sl .ro 5 a12, .sl .ro 1 a13, .sl .ro 4 a14, .sl .ro 6 a15, tI a16, .sl .ro 1 a17, tI a18, tI a19, tI a20, tI a21, tI a22, tI a23] k && mShd [tI a0, tI a1, tI a2, tI a3, tI a4, tI a5, tI a6, tI a7, tI a8, tI a9, tI a10, .sl .ro 7 a11, .sl .ro 5 a12, .sl .ro 1 a13, .sl .ro 4 a14, .sl .ro 6 a15, tI a16, .sl .ro 1 a17, tI a18, tI a19, tI a20, tI a21, tI a22, tI a23] k)) with
  | false => rfl
  | true =>
   simp only [cond_true, Option.elim_some, LRes.elim', tAt_eq, List.getD_cons_succ, List.getD_cons_zero, okT_i, okT_b, okT_s, rT_sl, Bool.and_true, Bool.true_and, p11]
   rw [any_bad mBadConn (fun r => !mBadConn r) (fun r => by simp), Bool.not_not]

-- PART4
theorem b_safe_spec {ts : List T} (hr : ts.all roT = true) (h : pEqR kEngine ts = true) : body lp0 ET90 25 [.ag ts] [] = some (.ret (oB (mSafe ts))) := by
 rw [pEqR_eq, Bool.and_eq_true] at h
 obtain ⟨hs, hl⟩ := h
 obtain ⟨a0, a1, a2, a3, a4, a5, a6, a7, a8, a9, a10, a11, a12, a13, a14, a15, a16, a17, a18, a19, a20, a21, a22, a23, rfl, g11, g12, g13, g14, g15, g17⟩ := rowr_Engine hs hr
 simp only [lenR, lenT, Bool.and_eq_true, decide_eq_true_eq] at hl
 have n11 : a11.length ≤ reachBytes := by simp [hl]
 have l11 : lenRs reachBytes a11 = true := by simp [hl]
 have n12 : a12.length ≤ reachBytes := by simp [hl]
 have l13 : lenRs reachBytes a13 = true := by simp [hl]
 have l14 : lenRs reachBytes a14 = true := by simp [hl]
 have n13 : a13.length ≤ reachBytes := by simp [hl]
 have hset : sShR kSetup [tI a0, tI a1, tI a2, tI a3, tI a4, tI a5, tI a6, tI a7, tI a8] = true := by rw [sShR_eq]; simp [shR, shT]
 have e1 := head_e1 a0 a1 a2 a3 a4 a5 a6 a7 a8 a9 a10 a16 a18 a19 a20 a21 a22 a23 a11 a12 a13 a14 a15 a17
 have eh := mHead_at a0 a1 a2 a3 a4 a5 a6 a7 a8 a9 a10 a16 a18 a19 a20 a21 a22 a23 a11 a12 a13 a14 a15 a17
 have es := mShd_at a0 a1 a2 a3 a4 a5 a6 a7 a8 a9 a10 a16 a18 a19 a20 a21 a22 a23 a11 a12 a13 a14 a15 a17
 rw [nf_25, mSafe_at, hset]
 simp only [cond_true, bifV, Option.elim_some, vAt0, okVl_b, bV_b, Bool.and_true, cB2, e1]
 generalize hH : mHead [tI a0, tI a1, tI a2, tI a3, tI a4, tI a5, tI a6, tI a7, tI a8, tI a9, tI a10, .sl .ro 7 a11, .sl .ro 5 a12, .sl .ro 1 a13, .sl .ro 4 a14, .sl .ro 6 a15, tI a16, .sl .ro 1 a17, tI a18, tI a19, tI a20, tI a21, tI a22, tI a23] = H at *
 cases H with
 | false => rfl
 | true =>
 simp only [Bool.not_true, cond_false, Bool.true_and]
 have eh := eh.symm
 simp only [Bool.and_eq_true, decide_eq_true_eq] at eh
 obtain ⟨⟨⟨⟨⟨_, q13⟩, q14⟩, q17⟩, _⟩, _⟩ := eh
 have hQ : ∀ i (hi : i < a13.length), ∃ fq q, a13[i] = [.sl fq 5 q] ∧ shRs kMsg q = true ∧ q.length ≤ reachBytes ∧ sCell a13 (i : Int).toNat 0 = .sl fq 5 q ∧ mQue [tI a0, tI a1, tI a2, tI a3, tI a4, tI a5, tI a6, tI a7, tI a8, tI a9, tI a10, .sl .ro 7 a11, .sl .ro 5 a12, .sl .ro 1 a13, .sl .ro 4 a14, .sl .ro 6 a15, tI a16, .sl .ro 1 a17, tI a18, tI a19, tI a20, tI a21, tI a22, tI a23] i = q.all fun r => mMsgOk r true := fun i hi => by
  obtain ⟨fq, q, hq, gq⟩ := row_MsgS (shRs_get g13 hi)
  have lq := lenRs_get l13 hi
  rw [hq] at lq
  simp only [lenR, lenT, Bool.and_eq_true, decide_eq_true_eq] at lq
  refine ⟨fq, q, hq, gq, lq.1.1, by rw [cell_at' hi, hq]; rfl, ?_⟩
  rw [mQue_eq]
  have : mQs [tI a0, tI a1, tI a2, tI a3, tI a4, tI a5, tI a6, tI a7, tI a8, tI a9, tI a10, .sl .ro 7 a11, .sl .ro 5 a12, .sl .ro 1 a13, .sl .ro 4 a14, .sl .ro 6 a15, tI a16, .sl .ro 1 a17, tI a18, tI a19, tI a20, tI a21, tI a22, tI a23] i = q := by show (((a13.getD i []).getD 0 .no).rws) = q; rw [getD_at hi, hq]; rfl
  rw [this]
 have elt : ∀ (x : List (List T)) (b : Int), sLt b (Int.ofNat (sLen x)) = !decide ((x.length : Int) ≤ b) := fun x b => by
  rw [sLt_eq, sLen_eq, natI, Bool.eq_iff_iff]; simp only [decide_eq_true_eq, Bool.not_eq_true', decide_eq_false_iff_not]; omega
 have elti : ∀ (x b : Int), sLt b x = !decide (x ≤ b) := fun x b => by
  rw [sLt_eq, Bool.eq_iff_iff]; simp only [decide_eq_true_eq, Bool.not_eq_true', decide_eq_false_iff_not]; omega
 have k13 : ∀ i, i < a13.length → sLt (i : Int) a1 = true := fun i hi => by rw [← q13]; exact lt_nat hi
 have k13' : sLt (a13.length : Int) a1 = false := by rw [← q13]; exact lt_nat'
 have split : ((List.range a13.length).all fun k => decide ((((((a13.getD k []).getD 0 .no).rws).length : Nat) : Int) ≤ a6) && (mQue [tI a0, tI a1, tI a2, tI a3, tI a4, tI a5, tI a6, tI a7, tI a8, tI a9, tI a10, .sl .ro 7 a11, .sl .ro 5 a12, .sl .ro 1 a13, .sl .ro 4 a14, .sl .ro 6 a15, tI a16, .sl .ro 1 a17, tI a18, tI a19, tI a20, tI a21, tI a22, tI a23] k && mShd [tI a0, tI a1, tI a2, tI a3, tI a4, tI a5, tI a6, tI a7, tI a8, tI a9, tI a10, .sl .ro 7 a11, .sl .ro 5 a12, .sl .ro 1 a13, .sl .ro 4 a14, .sl .ro 6 a15, tI a16, .sl .ro 1 a17, tI a18, tI a19, tI a20, tI a21, tI a22, tI a23] k)) =
   (((List.range a13.length).all fun k => decide ((((((a13.getD k []).getD 0 .no).rws).length : Nat) : Int) ≤ a6) && mShd [tI a0, tI a1, tI a2, tI a3, tI a4, tI a5, tI a6, tI a7, tI a8, tI a9, tI a10, .sl .ro 7 a11, .sl .ro 5 a12, .sl .ro 1 a13, .sl .ro 4 a14, .sl .ro 6 a15, tI a16, .sl .ro 1 a17, tI a18, tI a19, tI a20, tI a21, tI a22, tI a23] k) && (List.range a13.length).all fun k => mQue [tI a0, tI a1, tI a2, tI a3, tI a4, tI a5, tI a6, tI a7, tI a8, tI a9, tI a10, .sl .ro 7 a11, .sl .ro 5 a12, .sl .ro 1 a13, .sl .ro 4 a14, .sl .ro 6 a15, tI a16, .sl .ro 1 a17, tI a18, tI a19, tI a20, tI a21, tI a22, tI a23] k) := by
  rw [← range_all_and]
  exact range_all_congr fun i _ => by cases decide ((((((a13.getD i []).getD 0 .no).rws).length : Nat) : Int) ≤ a6) <;> cases mQue [tI a0, tI a1, tI a2, tI a3, tI a4, tI a5, tI a6, tI a7, tI a8, tI a9, tI a10, .sl .ro 7 a11, .sl .ro 5 a12, .sl .ro 1 a13, .sl .ro 4 a14, .sl .ro 6 a15, tI a16, .sl .ro 1 a17, tI a18, tI a19, tI a20, tI a21, tI a22, tI a23] i <;> cases mShd [tI a0, tI a1, tI a2, tI a3, tI a4, tI a5, tI a6, tI a7, tI a8, tI a9, tI a10, .sl .ro 7 a11, .sl .ro 5 a12, .sl .ro 1 a13, .sl .ro 4 a14, .sl .ro 6 a15, tI a16, .sl .ro 1 a17, tI a18, tI a19, tI a20, tI a21, tI a22, tI a23] i <;> rfl
 rw [split]
 refine (congrArg (fun z => Option.elim z none _) (all_loopD (ds0 := [tB false, tI 0]) (fun i => [tB false, tI (i : Int)]) a13.length (fun k => decide ((((((a13.getD k []).getD 0 .no).rws).length : Nat) : Int) ≤ a6) && mShd [tI a0, tI a1, tI a2, tI a3, tI a4, tI a5, tI a6, tI a7, tI a8, tI a9, tI a10, .sl .ro 7 a11, .sl .ro 5 a12, .sl .ro 1 a13, .sl .ro 4 a14, .sl .ro 6 a15, tI a16, .sl .ro 1 a17, tI a18, tI a19, tI a20, tI a21, tI a22, tI a23] k) (o := oB false) rfl (fun i hi => ?_) ?_)).trans ?_
 ·have hi14 : i < a14.length := by omega
  have hi17 : i < a17.length := by omega
  obtain ⟨fq, q, hq, gq, nq, cq, _⟩ := hQ i hi
  obtain ⟨fg, g, m, u, v, hg, gg⟩ := row_Shard (shRs_get g14 hi14)
  obtain ⟨s, hsn, _⟩ := row_Int (shRs_get g17 hi17)
  have lg := lenRs_get l14 hi14
  rw [hg] at lg
  simp only [lenR, lenT, Bool.and_eq_true, decide_eq_true_eq] at lg
  have kq : sOkC [.sl 5] a13 (i : Int).toNat 0 = true := okc_sh' g13 hi
  have kg : sOkC [.sl 6, .int .i64, .int .i64, .int .i64] a14 (i : Int).toNat 0 = true := okc_sh' g14 hi14
  have kg0 : sOkC [.sl 6] a14 (i : Int).toNat 0 = true := by rw [sOkC_eq] at kg ⊢; simp only [okCells, Bool.and_eq_true] at kg ⊢; exact ⟨kg.1, trivial⟩
  have kg1 : sOkC [.int .i64] a14 (i : Int).toNat 1 = true := by rw [sOkC_eq] at kg ⊢; simp only [okCells, Bool.and_eq_true] at kg ⊢; exact ⟨kg.2.1, trivial⟩
  have ks : sOkC [.int .i64] a17 (i : Int).toNat 0 = true := okc_sh' g17 hi17
  have c0 : sCell a14 (i : Int).toNat 0 = .sl fg 6 g := by rw [cell_at' hi14, hg]; rfl
  have c1 : sCell a14 (i : Int).toNat 1 = tI m := by rw [cell_at' hi14, hg]; rfl
  have c2 : sCell a14 (i : Int).toNat 2 = tI u := by rw [cell_at' hi14, hg]; rfl
  have c3 : sCell a14 (i : Int).toNat 3 = tI v := by rw [cell_at' hi14, hg]; rfl
  have cs : sCell a17 (i : Int).toNat 0 = tI s := by rw [cell_at' hi17, hsn]; rfl
  have pg : pEqR kShard [.sl .ro 6 g, tI m, tI u, tI v] = true := by rw [pEqR_eq]; simp [shR, shT, lenR, lenT, gg, lg]
  have hS : mShd [tI a0, tI a1, tI a2, tI a3, tI a4, tI a5, tI a6, tI a7, tI a8, tI a9, tI a10, .sl .ro 7 a11, .sl .ro 5 a12, .sl .ro 1 a13, .sl .ro 4 a14, .sl .ro 6 a15, tI a16, .sl .ro 1 a17, tI a18, tI a19, tI a20, tI a21, tI a22, tI a23] i = (mShardOk [.sl .ro 6 g, tI m, tI u, tI v] && (decide ((g.length : Int) ≤ a8) && (decide (m ≤ s) && decide (s ≤ a16)))) := by
   rw [es i, getD_at hi14, getD_at hi17, hg, hsn, shardOk_fl fg .ro, cI1, cI0, Bool.and_assoc, Bool.and_assoc]; rfl
  have hL : ((((a13.getD i []).getD 0 .no).rws).length : Int) = q.length := by rw [getD_at hi, hq]; rfl
  simp only [tAt0, tAt1, okT_i, okT_b, iT_im, bT_im, rT_sl, slT_sl, Bool.and_true, Bool.true_and, cond_true, k13 i hi, lt_len hi, lt_len hi14, lt_len hi17, le_0, kq, kg, kg0, kg1, ks, cq, c0, c1, c2, c3, cs, pg, elt, bifV, Option.elim_some, vAt0, okVl_b, bV_b, cB2, hS, hL, add1i (Nat.lt_of_lt_of_le hi n13)]
  rw [elti m s, elti s a16]
  cases decide ((q.length : Int) ≤ a6) <;> cases mShardOk [.sl .ro 6 g, tI m, tI u, tI v] <;> cases decide ((g.length : Int) ≤ a8) <;> cases decide (m ≤ s) <;> cases decide (s ≤ a16) <;> rfl
 ·simp only [tAt0, tAt1, okT_i, okT_b, iT_im, bT_im, rT_sl, slT_sl, Bool.and_true, Bool.true_and, cond_true, cond_false, k13']
 ·cases hA : ((List.range a13.length).all fun k => decide ((((((a13.getD k []).getD 0 .no).rws).length : Nat) : Int) ≤ a6) && mShd [tI a0, tI a1, tI a2, tI a3, tI a4, tI a5, tI a6, tI a7, tI a8, tI a9, tI a10, .sl .ro 7 a11, .sl .ro 5 a12, .sl .ro 1 a13, .sl .ro 4 a14, .sl .ro 6 a15, tI a16, .sl .ro 1 a17, tI a18, tI a19, tI a20, tI a21, tI a22, tI a23] k) with
  | false => simp only [cond_false, Option.elim_some, LRes.elim', Bool.false_and, Bool.and_false]
  | true =>
  simp only [cond_true, Option.elim_some, LRes.elim', tAt0, tAt1, okT_i, okT_b, bT_im, Bool.and_true, Bool.true_and]
  refine (congrArg (fun z => Option.elim z none _) (all_loopD (ds0 := [tB false, tI 0]) (fun i => [tB false, tI (i : Int)]) a12.length (fun k => mMsgOk (a12.getD k []) false) (o := oB false) rfl (fun i hi => ?_) ?_)).trans ?_
  ·simp only [tAt0, tAt1, okT_i, okT_b, iT_im, bT_im, rT_sl, slT_sl, Bool.and_true, Bool.true_and, cond_true, lt_len hi, le_0, msg_okc5 g12 hi, cI_at hi, row5 g12 hi, sh_get g12 hi, getD_at hi, add1i (Nat.lt_of_lt_of_le hi n12)]
   cases mMsgOk a12[i] false <;> rfl
  ·simp only [tAt0, tAt1, okT_i, okT_b, iT_im, bT_im, rT_sl, slT_sl, Bool.and_true, Bool.true_and, cond_true, cond_false, lt_len']
  ·rw [range_all_rows (rs := a12) (fun r => mMsgOk r false)]
   cases hB : (a12.all fun r => mMsgOk r false) with
   | false => simp only [cond_false, Option.elim_some, LRes.elim', Bool.false_and, Bool.and_false]
   | true =>
   simp only [cond_true, Option.elim_some, LRes.elim', tAt0, tAt1, okT_i, okT_b, bT_im, Bool.and_true, Bool.true_and]
   refine (congrArg (fun z => Option.elim z none _) (all_loopD (ds0 := [tB false, tI 0]) (fun i => [tB false, tI (i : Int)]) a13.length (fun k => mQue [tI a0, tI a1, tI a2, tI a3, tI a4, tI a5, tI a6, tI a7, tI a8, tI a9, tI a10, .sl .ro 7 a11, .sl .ro 5 a12, .sl .ro 1 a13, .sl .ro 4 a14, .sl .ro 6 a15, tI a16, .sl .ro 1 a17, tI a18, tI a19, tI a20, tI a21, tI a22, tI a23] k) (o := oB false) rfl (fun i hi => ?_) ?_)).trans ?_
   ·obtain ⟨fq, q, hq, gq, nq, cq, hQi⟩ := hQ i hi
    have kq : sOkC [.sl 5] a13 (i : Int).toNat 0 = true := okc_sh' g13 hi
    simp only [tAt0, tAt1, okT_i, okT_b, iT_im, bT_im, rT_sl, slT_sl, Bool.and_true, Bool.true_and, cond_true, k13 i hi]
    rw [hQi]
    refine (congrArg (fun z => Option.elim z none _) (all_loopD (ds0 := [tB false, tI 0]) (fun j => [tB false, tI (j : Int)]) q.length (fun k => mMsgOk (q.getD k []) true) (o := oB false) rfl (fun j hj => ?_) ?_)).trans ?_
    ·simp only [tAt0, tAt1, okT_i, okT_b, iT_im, bT_im, rT_sl, slT_sl, Bool.and_true, Bool.true_and, cond_true, lt_len hi, lt_len hj, le_0, kq, cq, msg_okc5 gq hj, cI_at hj, row5 gq hj, sh_get gq hj, getD_at hj, add1i (Nat.lt_of_lt_of_le hj nq)]
     cases mMsgOk q[j] true <;> rfl
    ·simp only [tAt0, tAt1, okT_i, okT_b, iT_im, bT_im, rT_sl, slT_sl, Bool.and_true, Bool.true_and, cond_true, cond_false, lt_len', lt_len hi, le_0, kq, cq]
    ·rw [range_all_rows (rs := q) (fun r => mMsgOk r true)]
     cases (q.all fun r => mMsgOk r true) with
     | false => rfl
     | true => simp only [cond_true, Option.elim_some, LRes.elim', tAt0, tAt1, okT_i, okT_b, bT_im, Bool.and_true, add1i (Nat.lt_of_lt_of_le hi n13)]
   ·simp only [tAt0, tAt1, okT_i, okT_b, iT_im, bT_im, rT_sl, slT_sl, Bool.and_true, Bool.true_and, cond_true, cond_false, k13']
   ·cases hC : ((List.range a13.length).all fun k => mQue [tI a0, tI a1, tI a2, tI a3, tI a4, tI a5, tI a6, tI a7, tI a8, tI a9, tI a10, .sl .ro 7 a11, .sl .ro 5 a12, .sl .ro 1 a13, .sl .ro 4 a14, .sl .ro 6 a15, tI a16, .sl .ro 1 a17, tI a18, tI a19, tI a20, tI a21, tI a22, tI a23] k) with
    | false => simp only [cond_false, Option.elim_some, LRes.elim', Bool.false_and, Bool.and_false]
    | true =>
    simp only [cond_true, Option.elim_some, LRes.elim', tAt0, tAt1, okT_i, okT_b, bT_im, Bool.and_true, Bool.true_and]
    refine (congrArg (fun z => Option.elim z none _) (all_loopD (ds0 := [tB false, tI 0]) (fun i => [tB false, tI (i : Int)]) a11.length (fun k => !mBadConn (a11.getD k [])) (o := oB false) rfl (fun i hi => ?_) ?_)).trans ?_
    ·obtain ⟨fa0, b0, b1, b2, b3, b4, b5, b6, hb, g0⟩ := row_Conn (shRs_get g11 hi)
     have hk : sOkC [.sl 1, .bool, .int .i64, .int .i64, .int .i64, .bool, .bool] a11 (i : Int).toNat 0 = true := okc_sh' g11 hi
     have hk0 : sOkC [.sl 1, .bool] a11 (i : Int).toNat 0 = true := by rw [sOkC_eq] at hk ⊢; simp only [okCells, Bool.and_eq_true] at hk ⊢; exact ⟨hk.1, hk.2.1, trivial⟩
     have hk2 : sOkC [.int .i64, .int .i64, .int .i64, .bool, .bool] a11 (i : Int).toNat 2 = true := by rw [sOkC_eq] at hk ⊢; simp only [okCells, Bool.and_eq_true] at hk ⊢; exact hk.2.2
     have c0 : sCell a11 (i : Int).toNat 0 = .sl fa0 1 b0 := by rw [cell_at' hi, hb]; rfl
     have c1 : sCell a11 (i : Int).toNat 1 = tB b1 := by rw [cell_at' hi, hb]; rfl
     have c2 : sCell a11 (i : Int).toNat 2 = tI b2 := by rw [cell_at' hi, hb]; rfl
     have c3 : sCell a11 (i : Int).toNat 3 = tI b3 := by rw [cell_at' hi, hb]; rfl
     have c4 : sCell a11 (i : Int).toNat 4 = tI b4 := by rw [cell_at' hi, hb]; rfl
     have c5 : sCell a11 (i : Int).toNat 5 = tB b5 := by rw [cell_at' hi, hb]; rfl
     have c6 : sCell a11 (i : Int).toNat 6 = tB b6 := by rw [cell_at' hi, hb]; rfl
     have h1 : sShR kSource [tI b2, tI b3, tI b4, tB b5, tB b6] = true := by rw [sShR_eq]; simp [shR, shT]
     have h2 : sShR kDecoder [.sl .ro 1 b0, tB b1] = true := by rw [sShR_eq]; simp [shR, shT, g0]
     have hB' : mBadConn a11[i] = (!mSrcOk [tI b2, tI b3, tI b4, tB b5, tB b6] || !mDecOk [.sl .ro 1 b0, tB b1]) := by
      rw [hb, badConn_fl fa0 .ro, mBadConn_eq, Bool.not_and]; rfl
     simp only [tAt0, tAt1, okT_i, okT_b, iT_im, bT_im, rT_sl, slT_sl, Bool.and_true, Bool.true_and, cond_true, lt_len hi, le_0, hk0, hk2, c0, c1, c2, c3, c4, c5, c6, h1, h2, bifV, Option.elim_some, vAt0, okVl_b, bV_b, cB2, getD_at hi, hB', add1i (Nat.lt_of_lt_of_le hi n11)]
     cases mSrcOk [tI b2, tI b3, tI b4, tB b5, tB b6] <;> cases mDecOk [.sl .ro 1 b0, tB b1] <;> rfl
    ·simp only [tAt0, tAt1, okT_i, okT_b, iT_im, bT_im, rT_sl, slT_sl, Bool.and_true, Bool.true_and, cond_true, cond_false, lt_len']
    ·rw [range_all_rows (rs := a11) (fun r => !mBadConn r)]
     cases (a11.all fun r => !mBadConn r) with
     | false => rfl
     | true => simp only [cond_true, Option.elim_some, LRes.elim', tAt0, tAt1, okT_i, okT_b, bT_im, Bool.and_true]
theorem good46 : Good Go.Proofs.Tryz.prog md0 (fun _ => .own) TL46 := good_In (fun a b c => b_in_l01In a b c) good45
theorem good47 : Good Go.Proofs.Tryz.prog md0 (fun _ => .own) TL47 := good_In (fun a b c => b_in_within a b c) good46
theorem good48 : Good Go.Proofs.Tryz.prog md0 (fun _ => .own) TL48 := good_In1 (nf_134 lp0) good47
theorem good49 : Good Go.Proofs.Tryz.prog md0 (fun _ => .own) TL49 := good_In1 (nf_133 lp0) good48
theorem good50 : Good Go.Proofs.Tryz.prog md0 (fun _ => .own) TL50 := good_In1 (nf_148 lp0) good49
theorem good51 : Good Go.Proofs.Tryz.prog md0 (fun _ => .own) TL51 := good_In1 (nf_135 lp0) good50
theorem good52 : Good Go.Proofs.Tryz.prog md0 (fun _ => .own) TL52 := good_In1 (nf_131 lp0) good51
theorem good53 : Good Go.Proofs.Tryz.prog md0 (fun _ => .own) TL53 := good_In1 (nf_98 lp0) good52
theorem good54 : Good Go.Proofs.Tryz.prog md0 (fun _ => .own) TL54 := good_In1 (nf_80 lp0) good53
theorem good55 : Good Go.Proofs.Tryz.prog md0 (fun _ => .own) TL55 := good_In1 (nf_104 lp0) good54
theorem good56 : Good Go.Proofs.Tryz.prog md0 (fun _ => .own) TL56 := good_In1 (nf_117 lp0) good55
theorem good57 : Good Go.Proofs.Tryz.prog md0 (fun _ => .own) TL57 := good_In1 (nf_112 lp0) good56
theorem good58 : Good Go.Proofs.Tryz.prog md0 (fun _ => .own) TL58 := good_In1 (nf_108 lp0) good57
theorem good59 : Good Go.Proofs.Tryz.prog md0 (fun _ => .own) TL59 := good_In1 (nf_119 lp0) good58
theorem good60 : Good Go.Proofs.Tryz.prog md0 (fun _ => .own) TL60 := good_R (fun hr h => b_aggOk_spec hr h) good59
theorem good61 : Good Go.Proofs.Tryz.prog md0 (fun _ => .own) TL61 := good_R (fun hr h => b_aggOk_impl hr h) good60
theorem good62 : Good Go.Proofs.Tryz.prog md0 (fun _ => .own) TL62 := good_R (fun hr h => b_setupOk_spec hr h) good61
theorem good63 : Good Go.Proofs.Tryz.prog md0 (fun _ => .own) TL63 := good_R (fun hr h => b_setupOk_impl hr h) good62
theorem good64 : Good Go.Proofs.Tryz.prog md0 (fun _ => .own) TL64 := good_R (fun hr h => b_frameOk_spec hr h) good63
theorem good65 : Good Go.Proofs.Tryz.prog md0 (fun _ => .own) TL65 := good_R (fun hr h => b_frameOk_impl hr h) good64
theorem good66 : Good Go.Proofs.Tryz.prog md0 (fun _ => .own) TL66 := good_R (fun hr h => b_isEvent hr h) good65
theorem good67 : Good Go.Proofs.Tryz.prog md0 (fun _ => .own) TL67 := good_MsgOk (fun h => b_msgOk h) good66
theorem good68 : Good Go.Proofs.Tryz.prog md0 (fun _ => .own) TL68 := good_R (fun hr h => b_srcOk_spec hr h) good67
theorem good69 : Good Go.Proofs.Tryz.prog md0 (fun _ => .own) TL69 := good_R (fun hr h => b_srcOk_impl hr h) good68
theorem good70 : Good Go.Proofs.Tryz.prog md0 (fun _ => .own) TL70 := good_R (fun hr h => b_decOk_spec hr h) good69
theorem good71 : Good Go.Proofs.Tryz.prog md0 (fun _ => .own) TL71 := good_R (fun hr h => b_decOk_impl hr h) good70
theorem good72 : Good Go.Proofs.Tryz.prog md0 (fun _ => .own) TL72 := good_RR (fun h1 h2 => b_ahead h1 h2) good71
theorem good73 : Good Go.Proofs.Tryz.prog md0 (fun _ => .own) TL73 := good_NaN (fun a => b_nan a) good72
theorem good74 : Good Go.Proofs.Tryz.prog md0 (fun _ => .own) TL74 := good_Cmp (fun a b => b_cmp a b) good73
theorem good75 : Good Go.Proofs.Tryz.prog md0 (fun _ => .own) TL75 := good_Or (fun a b => b_or a b) good74
theorem good76 : Good Go.Proofs.Tryz.prog md0 (fun _ => .own) TL76 := good_Order (fun h1 h2 => b_order h1 h2) good75
theorem good77 : Good Go.Proofs.Tryz.prog md0 (fun _ => .own) TL77 := good_R (fun hr h => b_areAggs1 hr h) good76
theorem good78 : Good Go.Proofs.Tryz.prog md0 (fun _ => .own) TL78 := good_Idx1 (fun h => b_idxAgg h) good77
theorem good79 : Good Go.Proofs.Tryz.prog md0 (fun _ => .own) TL79 := good_Cont1 (fun h => b_contAgg h) good78
theorem good80 : Good Go.Proofs.Tryz.prog md0 (fun _ => .own) TL80 := good_Aggs (fun h => b_areAggs h) good79
theorem good81 : Good Go.Proofs.Tryz.prog md0 (fun _ => .own) TL81 := good_Aggs (fun h => b_areSorted h) good80
theorem good82 : Good Go.Proofs.Tryz.prog md0 (fun _ => .own) TL82 := good_R (fun hr h => b_shardOk_spec hr h) good81
theorem good83 : Good Go.Proofs.Tryz.prog md0 (fun _ => .own) TL83 := good_R (fun hr h => b_shardOk_impl hr h) good82
theorem good84 : Good Go.Proofs.Tryz.prog md0 (fun _ => .own) TL84 := good_R (fun hr h => b_safe1 hr h) good83
theorem good85 : Good Go.Proofs.Tryz.prog md0 (fun _ => .own) TL85 := good_R (fun hr h => b_safe2 hr h) good84
theorem good86 : Good Go.Proofs.Tryz.prog md0 (fun _ => .own) TL86 := good_Idx2 (fun h => b_idxIn h) (fun h => b_idxQ h) good85
theorem good87 : Good Go.Proofs.Tryz.prog md0 (fun _ => .own) TL87 := good_Cont2 (fun h => b_contIn h) (fun h => b_contQ h) good86
theorem good88 : Good Go.Proofs.Tryz.prog md0 (fun _ => .own) TL88 := good_R (fun hr h => b_safe3 hr h) good87
theorem good89 : Good Go.Proofs.Tryz.prog md0 (fun _ => .own) TL89 := good_Idx1 (fun h => b_idxConn h) good88
theorem good90 : Good Go.Proofs.Tryz.prog md0 (fun _ => .own) TL90 := good_Cont1 (fun h => b_contConn h) good89
theorem good91 : Good Go.Proofs.Tryz.prog md0 (fun _ => .own) TL91 := good_R (fun hr h => b_safe_spec hr h) good90
theorem good92 : Good Go.Proofs.Tryz.prog md0 (fun _ => .own) TL92 := good_R (fun hr h => b_safe_impl hr h) good91

end Go.Vm
