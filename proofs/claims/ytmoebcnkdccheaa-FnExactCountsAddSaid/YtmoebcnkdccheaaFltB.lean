/- InFlight: what the functions come to -/
import Derived.Test.YtmoebcnkdccheaaFltN
import Derived.Test.YtmoebcnkdccheaaOkB
namespace Go.Vm
set_option linter.unusedVariables false
set_option linter.unusedSimpArgs false
theorem sFlight_eq (ts : List T) : sFlight ts = ((mCnt (ts.getD 12 .no).rws + ((ts.getD 13 .no).rws.map fun r => mCnt (r.getD 0 .no).rws).sum : Nat) : Int) := by rw [sFlight, sld_eq]
theorem good_EI {P : Program} {md : FuncId → Option (List Mode)} {fl : FuncId → Fl} {l : List (Nat × GFn)} {f : Nat} {m : List T → Int} (hb : ∀ {ts}, ts.all roT = true → pToR kEngine ts = true → body lp0 (EE P md fl l) f [.ag ts] [] = some (.ret (oI (m ts)))) (hl : Good P md fl l) : Good P md fl ((f, gEI m) :: l) := .cons (fun xs ps h => by
  unfold gEI at h ⊢
  split at h
  · rw [Bool.and_eq_true] at h; exact hb h.1 h.2
  · cases h) hl

theorem mCnt_le (rs : List (List T)) : mCnt rs ≤ rs.length := List.length_filter_le _ _
theorem cnt_fold : ∀ (rs : List (List T)) (n : Nat), rs.foldl (fun n r => n + if cI r 0 = 1 then 1 else 0) n = n + mCnt rs
  | [], n => rfl
  | r :: rs, n => by
    rw [List.foldl_cons, cnt_fold]
    unfold mCnt
    by_cases h : cI r 0 = 1
    · rw [List.filter_cons_of_pos (by simpa using h), List.length_cons, if_pos h]; omega
    · rw [List.filter_cons_of_neg (by simpa using h), if_neg h]; omega
theorem cnt_loop {F : List T → Option LRes} {rs : List (List T)} {n0 : Nat} {z : Int} (hz : z = (n0 : Int)) (hb : n0 + rs.length ≤ 2000000000000000000)
    (hF : ∀ (i n : Nat) (hi : i < rs.length), n ≤ 2000000000000000000 → F [tI n, tI i] = some (.next [tI ((n + if cI rs[i] 0 = 1 then 1 else 0 : Nat) : Int), tI ((i + 1 : Nat) : Int)])) (hE : ∀ n : Nat, F [tI n, tI rs.length] = some (.brk [tI n, tI rs.length])) :
    lp0 F [tI z, tI 0] = some (.brk [tI ((n0 + mCnt rs : Nat) : Int), tI rs.length]) := by
  subst hz
  have := lp0_foldl (F := F) (ds0 := [tI n0, tI 0]) rs (fun i (n : Nat) => [tI n, tI i]) (fun n r => n + if cI r 0 = 1 then 1 else 0) (fun i n => n ≤ n0 + i) (fun n => [tI n, tI rs.length]) n0 rfl (by omega)
    (fun i n hi hn => ⟨hF i n hi (by omega), by split <;> omega⟩) (fun n _ => hE n)
  rw [cnt_fold] at this
  exact this.2
theorem sum_fold : ∀ (qs : List (List T)) (n : Nat), qs.foldl (fun n r => n + mCnt (r.getD 0 .no).rws) n = n + (qs.map fun r => mCnt (r.getD 0 .no).rws).sum
  | [], n => rfl
  | r :: rs, n => by
    rw [List.foldl_cons, sum_fold, List.map_cons, List.sum_cons]; omega
theorem sum_loop {F : List T → Option LRes} {qs : List (List T)} {n0 : Nat} {z : Int} (hz : z = (n0 : Int)) (hq : ∀ r ∈ qs, ((r.getD 0 .no).rws).length ≤ 1048576) (hb : n0 + qs.length * 1048576 ≤ 1000000000000000000)
    (hF : ∀ (i n : Nat) (hi : i < qs.length), n ≤ 1000000000000000000 → F [tI n, tI i] = some (.next [tI ((n + mCnt (qs[i].getD 0 .no).rws : Nat) : Int), tI ((i + 1 : Nat) : Int)])) (hE : ∀ n : Nat, F [tI n, tI qs.length] = some (.brk [tI n, tI qs.length])) :
    lp0 F [tI z, tI 0] = some (.brk [tI ((n0 + (qs.map fun r => mCnt (r.getD 0 .no).rws).sum : Nat) : Int), tI qs.length]) := by
  subst hz
  have := lp0_foldl (F := F) (ds0 := [tI n0, tI 0]) qs (fun i (n : Nat) => [tI n, tI i]) (fun n r => n + mCnt (r.getD 0 .no).rws) (fun i n => n ≤ n0 + i * 1048576) (fun n => [tI n, tI qs.length]) n0 rfl (by omega)
    (fun i n hi hn => ⟨hF i n hi (by omega), by
      have h1 := mCnt_le (qs[i].getD 0 .no).rws
      have h2 := hq _ (List.getElem_mem hi)
      omega⟩) (fun n _ => hE n)
  rw [sum_fold] at this
  exact this.2
theorem addN {n : Nat} {k : Nat} (h : n ≤ 2000000000000000000) (hk : k ≤ 2000000000000000000) : sAdd .i64 (n : Int) (k : Int) = ((n + k : Nat) : Int) := by
  rw [sAdd_eq, wrap64 (by omega) (by omega)]; omega
theorem sEqI (a b : Int) : sEq a b = decide (a = b) := sEq_eq a b

theorem kind_step {X Y Z : Option LRes} {c : Bool} {r : List T} {n : Nat} (hc : c = decide (cI r 0 = 1)) (hx : cI r 0 = 1 → X = Z) (hy : cI r 0 ≠ 1 → Y = Z) : (bif c then X else Y) = Z := by
  by_cases h : cI r 0 = 1
  · rw [hc, decide_eq_true h]; exact hx h
  · rw [hc, decide_eq_false h]; exact hy h

theorem msg_okc {rs : List (List T)} {i : Nat} (hs : shRs kMsg rs = true) (hi : i < rs.length) : sOkC [.int .i64] rs (i : Int).toNat 0 = true := by
  have hk : sOkC [.int .i64, .int .i64, .int .i64, .int .i64, .int .i64] rs (i : Int).toNat 0 = true := okc_sh' hs hi
  rw [sOkC_eq] at hk ⊢
  simp only [okCells, Bool.and_eq_true] at hk ⊢
  exact ⟨hk.1, trivial⟩
theorem cI_cell {rs : List (List T)} {i : Nat} (hi : i < rs.length) (j : Nat) : iT (sCell rs (i : Int).toNat j) = cI rs[i] j := by rw [cell_at' hi]; rfl

/-- one row of kind 1 counts -/
theorem cnt_one {rs : List (List T)} {i n : Nat} (hi : i < rs.length) (hl : rs.length ≤ 1048576) (hn : n ≤ 2000000000000000000) :
    (bif sEq (iT (sCell rs (i : Int).toNat 0)) 1 then some (LRes.next [tI (sAdd .i64 (n : Int) 1), tI (sAdd .i64 (i : Int) 1)]) else some (.next [tI n, tI (sAdd .i64 (i : Int) 1)])) =
    some (.next [tI ((n + if cI rs[i] 0 = 1 then 1 else 0 : Nat) : Int), tI ((i + 1 : Nat) : Int)]) := by
  rw [cI_cell hi, sEq_eq, add1 (i := i) (by omega), add1 (i := n) (by omega)]
  by_cases h : cI rs[i] 0 = 1
  · rw [decide_eq_true h, if_pos h]; rfl
  · rw [decide_eq_false h, if_neg h]; rfl

theorem b_specInFlight {ts : List T} (hr : ts.all roT = true) (h : pToR kEngine ts = true) : body lp0 ET92 22 [.ag ts] [] = some (.ret (oI (sFlight ts))) := by
  rw [pToR_eq, Bool.and_eq_true] at h
  obtain ⟨hs, hl⟩ := h
  obtain ⟨a0, a1, a2, a3, a4, a5, a6, a7, a8, a9, a10, a11, a12, a13, a14, a15, a16, a17, a18, a19, a20, a21, a22, a23, rfl, ga11, ga12, ga13, ga14, ga15, ga17⟩ := rowr_Engine hs hr
  simp only [lenR, lenT, Bool.and_eq_true, decide_eq_true_eq] at hl
  have n12 : a12.length ≤ 1048576 := by simp [hl]
  have n13 : a13.length ≤ 1048576 := by simp [hl]
  have l13 : lenRs 1048576 a13 = true := by simp [hl]
  have q13 : ∀ r ∈ a13, ((r.getD 0 .no).rws).length ≤ 1048576 := fun r hr => by
    obtain ⟨f, q, rfl, _⟩ := row_MsgS (shRs_mem ga13 hr)
    have := lenRs_mem l13 hr
    simp only [lenR, lenT, Bool.and_eq_true, decide_eq_true_eq] at this
    exact this.1.1
  rw [nf_22, sFlight_eq]
  have c1 := mCnt_le a12
  rw [cnt_loop (rs := a12) (n0 := 0) (z := 0) rfl (by omega) (fun i n hi hn => ?_) (fun n => ?_)]
  · simp only [Option.elim_some, LRes.elim', tAt0, tAt1, okT_i, iT_im, Bool.and_true, cond_true, Nat.zero_add]
    rw [sum_loop (qs := a13) (n0 := mCnt a12) rfl q13 (by omega) (fun i n hi hn => ?_) (fun n => ?_)]
    · simp only [Option.elim_some, LRes.elim', tAt0, tAt1, okT_i, iT_im, Bool.and_true, cond_true]
      rfl
    · obtain ⟨f, q, hrow, gq⟩ := row_MsgS (shRs_get ga13 hi)
      have lq := lenRs_get l13 hi
      rw [hrow] at lq
      simp only [lenR, lenT, Bool.and_eq_true, decide_eq_true_eq] at lq
      have hk : sOkC [.sl 5] a13 (i : Int).toNat 0 = true := okc_sh' ga13 hi
      have hc : sCell a13 (i : Int).toNat 0 = .sl f 5 q := by rw [cell_at' hi, hrow]; rfl
      simp only [tAt0, tAt1, okT_i, iT_im, Bool.and_true, cond_true, lt_len hi, le_0, hk, hc, rT_sl, slT_sl, Bool.true_and]
      rw [cnt_loop (rs := q) (n0 := n) rfl (by omega) (fun j n hj hn => ?_) (fun n => ?_)]
      · simp only [Option.elim_some, LRes.elim', tAt0, tAt1, okT_i, iT_im, Bool.and_true, cond_true, hrow, add1 (i := i) (by omega)]
        rfl
      · simp only [tAt0, tAt1, okT_i, iT_im, Bool.and_true, cond_true, lt_len hj, le_0, msg_okc gq hj]
        exact cnt_one hj lq.1.1 hn
      · simp only [tAt0, tAt1, okT_i, iT_im, Bool.and_true, cond_true, lt_len', cond_false]
    · simp only [tAt0, tAt1, okT_i, iT_im, Bool.and_true, cond_true, lt_len', cond_false]
  · simp only [tAt0, tAt1, okT_i, iT_im, Bool.and_true, cond_true, lt_len hi, le_0, msg_okc ga12 hi]
    exact cnt_one hi n12 hn
  · simp only [tAt0, tAt1, okT_i, iT_im, Bool.and_true, cond_true, lt_len', cond_false]

theorem roRows_len (rs : List (List T)) : (roRows rs).length = rs.length := by simp [roRows]
theorem roRows_sh : ∀ {row : List KT} {rs : List (List T)}, shRs row rs = true → shRs row (roRows rs) = true := by
  intro row rs h
  refine shRs_of fun r hr => ?_
  simp only [roRows, List.mem_map] at hr
  obtain ⟨r0, h0, rfl⟩ := hr
  have := shRs_mem h h0
  clear h h0
  revert row
  induction r0 with
  | nil => intro row h; exact h
  | cons t ts ih =>
    intro row h
    cases row with
    | nil => cases h
    | cons k ks =>
      rw [List.map_cons]
      rw [shR, Bool.and_eq_true] at h ⊢
      refine ⟨?_, ih h.2⟩
      cases t with
      | sl f sz rs => rw [T.toRo, shT_ro (f' := f)]; exact h.1
      | _ => exact h.1
theorem roRows_cnt (rs : List (List T)) : ((roRows rs).map fun r => mCnt (r.getD 0 .no).rws) = rs.map fun r => mCnt (r.getD 0 .no).rws := by
  simp only [roRows, List.map_map]
  refine List.map_congr_left fun r _ => ?_
  cases r with
  | nil => rfl
  | cons t ts => cases t <;> rfl

theorem b_implInFlight {ts : List T} (hr : ts.all roT = true) (h : pToR kEngine ts = true) : body lp0 ET93 24 [.ag ts] [] = some (.ret (oI (sFlight ts))) := by
  rw [pToR_eq, Bool.and_eq_true] at h
  obtain ⟨hs, hl⟩ := h
  obtain ⟨a0, a1, a2, a3, a4, a5, a6, a7, a8, a9, a10, a11, a12, a13, a14, a15, a16, a17, a18, a19, a20, a21, a22, a23, rfl, ga11, ga12, ga13, ga14, ga15, ga17⟩ := rowr_Engine hs hr
  simp only [lenR, lenT, Bool.and_eq_true, decide_eq_true_eq] at hl
  have n12 : a12.length ≤ 1048576 := by simp [hl]
  have n13 : a13.length ≤ 1048576 := by simp [hl]
  have l13 : lenRs 1048576 a13 = true := by simp [hl]
  have e : sApp [[T.sl .ro 5 a12]] (sRo a13) = [T.sl .ro 5 a12] :: roRows a13 := by rw [sApp_eq, sRo_eq]; rfl
  have hfit : sFit (sLen [[T.sl .ro 5 a12]] + sLen (sRo a13)) = true := by
    rw [sFit_eq, sLen_eq, sLen_eq, sRo_eq, roRows_len]; simp [Nat.blt_eq]; omega
  have gq : shRs [.sl kMsg] ([T.sl .ro 5 a12] :: roRows a13) = true := by
    rw [shRs, roRows_sh ga13, Bool.and_true]; simp [shR, shT, ga12]
  have lq : ∀ r ∈ ([T.sl .ro 5 a12] :: roRows a13), ((r.getD 0 .no).rws).length ≤ 1048576 := fun r hr => by
    rcases List.mem_cons.1 hr with rfl | hr
    · exact n12
    · simp only [roRows, List.mem_map] at hr
      obtain ⟨r0, h0, rfl⟩ := hr
      obtain ⟨f, q, rfl, _⟩ := row_MsgS (shRs_mem ga13 h0)
      have := lenRs_mem l13 h0
      simp only [lenR, lenT, Bool.and_eq_true, decide_eq_true_eq] at this
      exact this.1.1
  have hlen : ([T.sl .ro 5 a12] :: roRows a13).length = a13.length + 1 := by rw [List.length_cons, roRows_len]
  rw [nf_24, sFlight_eq, hfit, cond_true, e]
  have hval : (([T.sl .ro 5 a12] :: roRows a13).map fun r => mCnt (r.getD 0 .no).rws).sum = mCnt a12 + (a13.map fun r => mCnt (r.getD 0 .no).rws).sum := by
    rw [List.map_cons, List.sum_cons, roRows_cnt]; rfl
  generalize [T.sl .ro 5 a12] :: roRows a13 = qs at *
  rw [sum_loop (qs := qs) (n0 := 0) (z := 0) rfl lq (by omega) (fun i n hi hn => ?_) (fun n => ?_)]
  · simp only [Option.elim_some, LRes.elim', tAt0, tAt1, okT_i, iT_im, Bool.and_true, cond_true, Nat.zero_add, hval]
    rfl
  · obtain ⟨f, q, hrow, gq'⟩ := row_MsgS (shRs_get gq hi)
    have lq' := lq _ (List.getElem_mem hi)
    rw [hrow] at lq'
    have lq' : q.length ≤ 1048576 := lq'
    have hk : sOkC [.sl 5] qs (i : Int).toNat 0 = true := okc_sh' gq hi
    have hc : sCell qs (i : Int).toNat 0 = .sl f 5 q := by rw [cell_at' hi, hrow]; rfl
    simp only [tAt0, tAt1, okT_i, iT_im, Bool.and_true, cond_true, lt_len hi, le_0, hk, hc, rT_sl, slT_sl, Bool.true_and]
    rw [cnt_loop (rs := q) (n0 := n) rfl (by omega) (fun j n hj hn => ?_) (fun n => ?_)]
    · simp only [Option.elim_some, LRes.elim', tAt0, tAt1, okT_i, iT_im, Bool.and_true, cond_true, hrow, add1 (i := i) (by omega)]
      rfl
    · have hk' : sOkC [.int .i64, .int .i64, .int .i64, .int .i64, .int .i64] q (j : Int).toNat 0 = true := okc_sh' gq' hj
      simp only [tAt0, tAt1, okT_i, iT_im, Bool.and_true, cond_true, lt_len hj, le_0, hk']
      exact cnt_one hj lq' hn
    · simp only [tAt0, tAt1, okT_i, iT_im, Bool.and_true, cond_true, lt_len', cond_false]
  · simp only [tAt0, tAt1, okT_i, iT_im, Bool.and_true, cond_true, lt_len', cond_false]

theorem good93 : Good Go.Proofs.Try.prog md0 (fun _ => .own) TL93 := good_EI (fun h h1 => b_specInFlight h h1) good92
theorem good94 : Good Go.Proofs.Try.prog md0 (fun _ => .own) TL94 := good_EI (fun h h1 => b_implInFlight h h1) good93

end Go.Vm
