/- all frames: what the functions come to -/
import Derived.Test.YtopemdjgbaonmaaGreatFLN
import Derived.Test.YtopemdjgbaonmaaGreatTNB
import Derived.Test.YtopemdjgbaonmaaGreatOkB
namespace Go.Vm
set_option linter.unusedVariables false
set_option linter.unusedSimpArgs false
theorem sAF_eq (b : List (List T)) : sAF b = (mAF b).1 := by rw [sAF, sld_eq]
theorem sAFn_eq (b : List (List T)) : sAFn b = (((mAF b).2.1 : Nat) : Int) := by rw [sAFn, sld_eq]
theorem sAFb_eq (b : List (List T)) : sAFb b = (mAF b).2.2 := by rw [sAFb, sld_eq]
theorem sFL_eq (ts : List T) : sFL ts = ((mFl (ts.getD 11 .no).rws : Nat) : Int) := by rw [sFL, sld_eq]
section
variable {P : Program} {md : FuncId → Option (List Mode)} {fl : FuncId → Fl} {l : List (Nat × GFn)} {f : Nat}
theorem good_AF (hb : ∀ {b : List (List T)}, pBy b = true → body lp0 (EE P md fl l) f [.c (.sl .ro 1 b)] [] = some (.ret ⟨[.c (.sl .own 4 (sAF b)), aI (sAFn b), aB (sAFb b)], [], []⟩)) (hl : Good P md fl l) : Good P md fl ((f, gAF) :: l) := .cons (fun xs ps h => by
 unfold gAF at h ⊢
 split at h
 ·exact hb h
 ·cases h) hl
theorem good_FL (hb : ∀ {ts : List T}, ts.all roT = true → pToR kEngine ts = true → pWf ts = true → body lp0 (EE P md fl l) f [.ag ts] [] = some (.ret (oI (sFL ts)))) (hl : Good P md fl l) : Good P md fl ((f, gFL) :: l) := .cons (fun xs ps h => by
 unfold gFL at h ⊢
 split at h
 ·simp only [Bool.and_eq_true] at h
  exact hb h.1.1 h.1.2 h.2
 ·cases h) hl
end
theorem dr_by {b : List (List T)} (hb : b.all byR = true) (m : Nat) : (b.drop m).all byR = true := by
 have := cut_by hb m b.length
 rwa [List.take_of_length_le (by rw [List.length_drop]; omega)] at this
/-- enough rounds -/
theorem mAll_eq {b : List (List T)} (hb : b.all byR = true) (hl : b.length ≤ 1073741823) : ∀ k, b.length < k → mAll k b = mAll (b.length + 1) b := by
 generalize hn : b.length = n
 induction n using Nat.strongRecOn generalizing b with
 | _ n ih =>
  intro k hk
  obtain ⟨k, rfl⟩ : ∃ j, k = j + 1 := ⟨k - 1, by omega⟩
  rw [mAll, mAll]
  rcases tf_n hb hl with h | h | ⟨m, m6, ml, h⟩
  ·rw [h, if_pos (by omega), if_pos (by omega)]
  ·rw [h, if_pos (by omega), if_pos (by omega)]
  ·rw [h, if_neg (by omega), if_neg (by omega), Int.toNat_natCast]
   have e : ∀ j, b.length - m < j → mAll j (b.drop m) = mAll (b.length - m + 1) (b.drop m) := fun j hj => ih (b.length - m) (by omega) (dr_by hb m) (by rw [List.length_drop]; omega) (by rw [List.length_drop]) j hj
   rw [e k (by omega), e n (by omega)]
theorem mAll_bd {b : List (List T)} (hb : b.all byR = true) (hl : b.length ≤ 1073741823) : ∀ k, (mAll k b).1.length ≤ b.length ∧ (mAll k b).2.1 ≤ b.length := by
 generalize hn : b.length = n
 intro k
 induction k generalizing b n with
 | zero => exact ⟨Nat.zero_le _, Nat.zero_le _⟩
 | succ k ih =>
  rw [mAll]
  rcases tf_n hb hl with h | h | ⟨m, m6, ml, h⟩
  ·rw [h, if_pos (by omega)]; exact ⟨Nat.zero_le _, Nat.zero_le _⟩
  ·rw [h, if_pos (by omega)]; exact ⟨Nat.zero_le _, Nat.zero_le _⟩
  ·rw [h, if_neg (by omega), Int.toNat_natCast]
   have := ih (dr_by hb m) (by rw [List.length_drop]; omega) (b.drop m).length rfl
   rw [List.length_drop] at this
   exact ⟨by rw [List.length_cons]; omega, by show m + _ ≤ n; omega⟩
theorem fr_nr {rs : List (List T)} (h : ∀ r ∈ rs, ∃ f, r = rFr f) : sNoRo (.sl .own 4 rs) = true := noRo_flt (row := kFrame) rfl (shRs_of fun r hr => by obtain ⟨f, rfl⟩ := h r hr; simp [rFr, shR, shT]) 4
theorem mAll_fr : ∀ (k : Nat) (b : List (List T)), ∀ r ∈ (mAll k b).1, ∃ f, r = rFr f
 | 0, b, r, hr => by simp [mAll] at hr
 | k + 1, b, r, hr => by
  rw [mAll] at hr
  split at hr
  ·simp at hr
  ·rcases List.mem_cons.1 hr with rfl | hr
   ·exact ⟨_, rfl⟩
   ·exact mAll_fr k _ r hr
theorem mAF_fr (b : List (List T)) : ∀ r ∈ (mAF b).1, ∃ f, r = rFr f := by
 unfold mAF
 split
 ·intro r hr; simp at hr
 ·exact mAll_fr _ _
theorem tAt5 (x0 x1 x2 x3 x4 x5 : T) (l : List T) : tAt (x0 :: x1 :: x2 :: x3 :: x4 :: x5 :: l) 5 = x5 := by rw [tAt_eq]; rfl
theorem tAt6 (x0 x1 x2 x3 x4 x5 x6 : T) (l : List T) : tAt (x0 :: x1 :: x2 :: x3 :: x4 :: x5 :: x6 :: l) 6 = x6 := by rw [tAt_eq]; rfl
theorem tAt4' (x0 x1 x2 x3 x4 : T) (l : List T) : tAt (x0 :: x1 :: x2 :: x3 :: x4 :: l) 4 = x4 := by rw [tAt_eq]; rfl
theorem af_loop {F : List T → Option LRes} {b : List (List T)} (hb : b.all byR = true) (hl : b.length ≤ 400)
  (hF : ∀ (at' : Nat) (out : List (List T)), at' ≤ b.length → out.length ≤ 400 → F [.sl .own 4 [], .sl .own 4 out, tI 0, tI 0, tB false, tI (Int.ofNat (sLen out)), tI at'] =
   some (if (mTF (b.drop at')).2 ≤ 0 then .ret ⟨[.c (.sl .own 4 out), aI at', aB (decide ((mTF (b.drop at')).2 < 0))], [], []⟩
    else .next [.sl .own 4 [], .sl .own 4 (out ++ [rFr (mTF (b.drop at')).1]), tI 0, tI 0, tB false, tI (Int.ofNat (sLen (out ++ [rFr (mTF (b.drop at')).1]))), tI ((at' : Int) + (mTF (b.drop at')).2)])) :
  ∀ (k at' : Nat) (out : List (List T)), at' ≤ b.length → b.length - at' < k → out.length + (b.length - at') ≤ 400 →
   lp0 F [.sl .own 4 [], .sl .own 4 out, tI 0, tI 0, tB false, tI (Int.ofNat (sLen out)), tI at'] = some (.ret ⟨[.c (.sl .own 4 (out ++ (mAll k (b.drop at')).1)), aI ((at' + (mAll k (b.drop at')).2.1 : Nat) : Int), aB (mAll k (b.drop at')).2.2], [], []⟩)
 | 0, at', out, h1, h2, h3 => by omega
 | k + 1, at', out, h1, h2, h3 => by
  rw [lp0_eq, hF at' out h1 (by omega), mAll]
  rcases tf_n (dr_by hb at') (by rw [List.length_drop]; omega) with h | h | ⟨m, m6, ml, h⟩
  ·rw [h, if_pos (by omega), if_pos (by omega)]
   simp only [Option.bind_some, List.append_nil, Nat.add_zero]
  ·rw [h, if_pos (by omega), if_pos (by omega)]
   simp only [Option.bind_some, List.append_nil, Nat.add_zero]
  ·rw [List.length_drop] at ml
   rw [h, if_neg (by omega), if_neg (by omega), Int.toNat_natCast, List.drop_drop]
   simp only [Option.bind_some]
   have e : (at' : Int) + (m : Int) = ((at' + m : Nat) : Int) := by omega
   rw [e, af_loop hb hl hF k (at' + m) _ (by omega) (by omega) (by rw [List.length_append]; simp; omega)]
   rw [List.append_assoc, List.singleton_append]
   rw [Nat.add_assoc at' m]
theorem b_af {b : List (List T)} (h : pBy b = true) : body lp0 ET121 93 [.c (.sl .ro 1 b)] [] = some (.ret ⟨[.c (.sl .own 4 (sAF b)), aI (sAFn b), aB (sAFb b)], [], []⟩) := by
 rw [pBy_eq, Bool.and_eq_true, decide_eq_true_eq] at h
 obtain ⟨hb, hl⟩ := h
 rw [nf_93, sAF_eq, sAFn_eq, sAFb_eq]
 simp only [cutT]
 have e4 : sLt 400 (Int.ofNat (sLen b)) = decide (400 < b.length) := by rw [sLen_eq, natI]; exact sLtN 400 b.length
 rw [e4]
 unfold mAF
 by_cases c : 400 < b.length
 ·rw [decide_eq_true c, if_pos c]; rfl
 ·rw [decide_eq_false c, if_neg c, cond_false]
  have key := fun F h1 => af_loop (F := F) (b := b) hb (by omega) h1 (b.length + 1) 0 [] (Nat.zero_le _) (by omega) (by simp; omega)
  rw [show (Int.ofNat 0 : Int) = 0 from rfl]
  rw [show ([.sl .own 4 [], .sl .own 4 [], tI 0, tI 0, tB false, tI 0, tI 0] : List T) = [.sl .own 4 [], .sl .own 4 [], tI 0, tI 0, tB false, tI (Int.ofNat (sLen [])), tI ((0 : Nat) : Int)] from by rw [sLen_eq]; rfl]
  rw [key _ (fun at' out h1 h2 => ?_)]
  ·simp only [Option.elim_some, LRes.elim', List.nil_append, Nat.zero_add, List.drop_zero]
  ·have hd := dr_by hb at'
   have l0 : sLe 0 (at' : Int) = true := le_0' _
   have l1 : sLe (at' : Int) (Int.ofNat (sLen b)) = true := by rw [sLen_eq, natI, sLeN]; exact decide_eq_true h1
   have p1 : pBy (b.drop at') = true := by rw [pBy_eq, hd, decide_eq_true (by rw [List.length_drop]; omega)]; rfl
   have hfl : ∀ w x y z : Int, sFlat [[tI w, tI x, tI y, tI z]] = true := fun w x y z => by rw [sFlat_eq]; rfl
   have hfit : ∀ r : List T, sFit (sLen out + sLen [r]) = true := fun r => by rw [sFit_eq, sLen_eq, sLen_eq, Nat.blt_eq]; simp; omega
   have z0 : (Int.ofNat ((0 : Int)).toNat : Int) = 0 := rfl
   simp only [tAt3, tAt4', tAt5, tAt6, tAt0, tAt1, tAt2, iT_im, bT_im, rT_sl, okT_i, okT_b, okT_s, slT_sl, le_0, Bool.and_true, Bool.true_and, cond_true, cond_false, l0, l1, Int.toNat_natCast, p1, hfl, hfit, sTN_eq, sTF_eq, z0]
   rcases tf_n hd (by rw [List.length_drop]; omega) with h | h | ⟨m, m6, ml, h⟩
   ·rw [h, if_pos (by omega), show sLe (-1) 0 = true by rw [sLe_eq]; rfl, show sLt (-1) 0 = true by rw [sLt_eq]; rfl]; rfl
   ·rw [h, if_pos (by omega), le00, show sLt 0 0 = false by rw [sLt_eq]; rfl]; rfl
   ·rw [List.length_drop] at ml
    rw [h, if_neg (by omega), show sLe (m : Int) 0 = false by rw [sLe_eq]; exact decide_eq_false (by omega), cond_false, sApp_eq]
    have e5 : sAdd .i64 (at' : Int) (m : Int) = (at' : Int) + m := by rw [sAdd_eq, wrap64 (by omega) (by omega)]
    rw [e5]; rfl
theorem mFl1_row (f : Fl) (a0 : List (List T)) (a1 : Bool) (a2 a3 a4 : Int) (a5 a6 : Bool) : mFl1 [.sl f 1 a0, tB a1, tI a2, tI a3, tI a4, tB a5, tB a6] = bif mDecOk [.sl .ro 1 a0, tB a1] && !a1 then (mAF a0).1.length + (if (mAF a0).2.2 then 1 else 0) else 0 := by
 unfold mFl1 cB'
 show (bif mDecOk [.sl f 1 a0, tB a1] && !bT (tB a1) then _ else _) = _
 rw [mDecOk_fl, bT_im]; rfl
theorem decOk_len {a : List (List T)} {c : Bool} (h : mDecOk [.sl .ro 1 a, tB c] = true) : a.length ≤ 400 := by
 rw [mDecOk_eq] at h
 simp only [Bool.and_eq_true, decide_eq_true_eq] at h
 exact h.1
theorem af_len {a : List (List T)} (hb : a.all byR = true) (h : a.length ≤ 400) : (mAF a).1.length ≤ 400 := by
 unfold mAF
 rw [if_neg (by omega)]
 exact Nat.le_trans (mAll_bd hb (by omega) _).1 h
theorem fl_fold : ∀ (cs : List (List T)) (n : Nat), cs.foldl (fun n r => n + mFl1 r) n = n + mFl cs
 | [], n => rfl
 | r :: rs, n => by rw [List.foldl_cons, fl_fold]; unfold mFl; rw [List.map_cons, List.sum_cons]; omega
theorem fl1_le {r : List T} (h : pCn r = true) : mFl1 r ≤ 401 := by
 rw [pCn_eq] at h
 simp only [Bool.and_eq_true, decide_eq_true_eq] at h
 obtain ⟨⟨hs, hb⟩, hl⟩ := h
 obtain ⟨fa0, a0, a1, a2, a3, a4, a5, a6, rfl, _⟩ := row_Conn hs
 replace hb : a0.all byR = true := hb
 rw [mFl1_row]
 cases hd : (mDecOk [.sl .ro 1 a0, tB a1] && !a1) with
 | false => exact Nat.zero_le _
 | true =>
  rw [Bool.and_eq_true] at hd
  have := af_len (a := a0) hb (decOk_len hd.1)
  rw [cond_true]
  split <;> omega
theorem fli_loop {F : List T → Option LRes} {cs : List (List T)} (hn : cs.length ≤ 1048576) (hc : ∀ r ∈ cs, pCn r = true)
  (hF : ∀ (i n : Nat) (hi : i < cs.length), n ≤ 1000000000000 → F [.sl .ro 7 cs, tI (n : Int), tI i] = some (.next [.sl .ro 7 cs, tI ((n + mFl1 cs[i] : Nat) : Int), tI ((i + 1 : Nat) : Int)])) (hE : ∀ n : Nat, F [.sl .ro 7 cs, tI (n : Int), tI cs.length] = some (.brk [.sl .ro 7 cs, tI (n : Int), tI cs.length])) :
  lp0 F [.sl .ro 7 cs, tI 0, tI 0] = some (.brk [.sl .ro 7 cs, tI ((mFl cs : Nat) : Int), tI cs.length]) := by
 have := lp0_foldl (F := F) (ds0 := [.sl .ro 7 cs, tI 0, tI 0]) cs (fun i (n : Nat) => [.sl .ro 7 cs, tI (n : Int), tI i]) (fun n r => n + mFl1 r) (fun i n => n ≤ i * 401) (fun n => [.sl .ro 7 cs, tI (n : Int), tI cs.length]) 0 rfl (by omega)
  (fun i n hi hn => ⟨hF i n hi (by omega), by have := fl1_le (hc _ (List.getElem_mem hi)); omega⟩) (fun n _ => hE n)
 rw [fl_fold, Nat.zero_add] at this
 exact this.2
theorem b_fl_impl {ts : List T} (hr : ts.all roT = true) (h : pToR kEngine ts = true) (w : pWf ts = true) : body lp0 ET123 56 [.ag ts] [] = some (.ret (oI (sFL ts))) := by
 rw [pToR_eq, Bool.and_eq_true] at h
 rw [pWf_eq] at w
 obtain ⟨a0, a1, a2, a3, a4, a5, a6, a7, a8, a9, a10, a11, a12, a13, a14, a15, a16, a17, a18, a19, a20, a21, a22, a23, rfl, ga11, ga12, ga13, ga14, ga15, ga17⟩ := rowr_Engine h.1 hr
 have hl := h.2
 simp only [lenR, lenT, Bool.and_eq_true, decide_eq_true_eq] at hl
 simp only [wfR, wfT, Bool.and_eq_true] at w
 have n11 : a11.length ≤ 1048576 := by simp [hl]
 have hcn := conn_cn ga11 (by simp [w]) (by simp [hl])
 rw [nf_56, sFL_eq]
 show _ = some (LRes.ret (oI ((mFl a11 : Nat) : Int)))
 rw [fli_loop (cs := a11) n11 hcn (fun i n hi hn => ?_) (fun n => ?_)]
 ·simp only [LRes.elim', Option.elim_some, tAt0, tAt1, tAt2, iT_im, bT_im, rT_sl, okT_i, okT_b, okT_s, slT_sl, le_0, Bool.and_true, Bool.true_and, cond_true, cond_false]
 ·have hc := hcn _ (List.getElem_mem hi)
  rw [pCn_eq] at hc
  simp only [Bool.and_eq_true, decide_eq_true_eq] at hc
  obtain ⟨⟨hs1, hb⟩, hlb⟩ := hc
  obtain ⟨fb0, b0, b1, b2, b3, b4, b5, b6, hrr, _⟩ := row_Conn hs1
  rw [hrr] at hb hlb
  replace hb : b0.all byR = true := hb
  replace hlb : b0.length ≤ 1048576 := hlb
  have hc0 : sCell a11 (i : Int).toNat 0 = .sl fb0 1 b0 := by rw [cell_at' hi, hrr]; rfl
  have hc1 : sCell a11 (i : Int).toNat 1 = tB b1 := by rw [cell_at' hi, hrr]; rfl
  have k1 : sOkC [.sl 1, .bool, .int .i64, .int .i64, .int .i64, .bool, .bool] a11 (i : Int).toNat 0 = true := okc_sh' ga11 hi
  have hp : pBy b0 = true := by rw [pBy_eq, hb, decide_eq_true (by omega)]; rfl
  have hnr : sNoRo (.sl .own 4 (sAF b0)) = true := by rw [sAF_eq]; exact fr_nr (mAF_fr b0)
  have ea := add1i (show i < reachBytes from Nat.lt_of_lt_of_le hi (Nat.le_trans n11 (by decide)))
  simp only [tAt0, tAt1, tAt2, iT_im, bT_im, rT_sl, okT_i, okT_b, okT_s, slT_sl, le_0, Bool.and_true, Bool.true_and, cond_true, cond_false, lt_len hi, k1, hc0, hc1, shDec hb, hp, hnr, ea]
  rw [hrr, mFl1_row]
  cases hd : mDecOk [.sl .ro 1 b0, tB b1] with
  | false =>
   simp only [Bool.not_false, cond_true, Option.elim_some, vAt0, okVl_b, bV_b, Bool.and_true, Bool.false_and, cond_false, Nat.add_zero]
  | true =>
   cases b1 with
   | true => simp only [Bool.not_true, cond_true, Option.elim_some, vAt0, okVl_b, bV_b, Bool.and_true, Bool.and_false, cond_false, Nat.add_zero]
   | false =>
    have hal := af_len hb (decOk_len hd)
    have e1 : sAdd .i64 (n : Int) (Int.ofNat (sLen (sAF b0))) = ((n + (mAF b0).1.length : Nat) : Int) := by
     rw [sLen_eq, natI, sAF_eq, sAdd_eq, wrap64 (by omega) (by omega)]; omega
    have e2 : sAdd .i64 ((n + (mAF b0).1.length : Nat) : Int) 1 = ((n + (mAF b0).1.length + 1 : Nat) : Int) := by
     rw [sAdd_eq, wrap64 (by omega) (by omega)]; omega
    simp only [Bool.not_true, Bool.not_false, cond_true, cond_false, Option.elim_some, vAt0, okVl_b, bV_b, Bool.and_true, e1, e2, sAFb_eq]
    cases (mAF b0).2.2 <;> rfl
 ·simp only [tAt0, tAt1, tAt2, iT_im, bT_im, rT_sl, okT_i, okT_b, okT_s, slT_sl, le_0, Bool.and_true, Bool.true_and, cond_true, cond_false, lt_len']
theorem fls_loop {F : List T → Option LRes} {cs : List (List T)} (d : Int → Int → List T) {ds0 : List T} (h0 : ds0 = d 0 0) (hn : cs.length ≤ 1048576) (hc : ∀ r ∈ cs, pCn r = true)
  (hF : ∀ (i n : Nat) (hi : i < cs.length), n ≤ 1000000000000 → F (d (n : Int) i) = some (.next (d ((n + mFl1 cs[i] : Nat) : Int) ((i + 1 : Nat) : Int)))) (hE : ∀ n : Nat, F (d (n : Int) cs.length) = some (.brk (d (n : Int) cs.length))) :
  lp0 F ds0 = some (.brk (d ((mFl cs : Nat) : Int) cs.length)) := by
 have := lp0_foldl (F := F) (ds0 := ds0) cs (fun i (n : Nat) => d (n : Int) i) (fun n r => n + mFl1 r) (fun i n => n ≤ i * 401) (fun n => d (n : Int) cs.length) 0 h0 (by omega)
  (fun i n hi hn => ⟨hF i n hi (by omega), by have := fl1_le (hc _ (List.getElem_mem hi)); omega⟩) (fun n _ => hE n)
 rw [fl_fold, Nat.zero_add] at this
 exact this.2
def mC2 (x : List (List T) × Nat × Bool) : Nat := x.1.length + (if x.2.2 then 1 else 0)
theorem sp_loop {F : List T → Option LRes}
  (hF : ∀ (L : Int) (b : List (List T)) (n : Nat), b.all byR = true → b.length ≤ 400 → n ≤ 2000000000000 → F [tI L, tB false, .sl .own 1 b, tI (n : Int)] =
   some (if (mTF b).2 < 0 then .brk [tI (Int.ofNat L.toNat), tB false, .sl .own 1 b, tI ((n + 1 : Nat) : Int)] else if (mTF b).2 = 0 then .brk [tI (Int.ofNat L.toNat), tB false, .sl .own 1 b, tI (n : Int)]
    else .next [tI (Int.ofNat (sLen (b.drop (mTF b).2.toNat))), tB false, .sl .own 1 (b.drop (mTF b).2.toNat), tI ((n + 1 : Nat) : Int)])) :
  ∀ (k : Nat) (b : List (List T)) (L : Int) (n : Nat), b.length < k → b.all byR = true → b.length ≤ 400 → n + k ≤ 2000000000000 → ∃ L' b', lp0 F [tI L, tB false, .sl .own 1 b, tI (n : Int)] = some (.brk [tI L', tB false, .sl .own 1 b', tI ((n + mC2 (mAll k b) : Nat) : Int)])
 | 0, b, L, n, h, _, _, _ => by omega
 | k + 1, b, L, n, h, hb, hl, hk => by
  rw [lp0_eq, hF L b n hb hl (by omega), mAll]
  rcases tf_n hb (by omega) with h | h | ⟨m, m6, ml, h⟩
  ·rw [h, if_pos (by omega), if_pos (by omega)]
   exact ⟨_, _, rfl⟩
  ·rw [h, if_neg (by omega), if_pos rfl, if_pos (by omega)]
   exact ⟨_, _, rfl⟩
  ·rw [h, if_neg (by omega), if_neg (by omega), if_neg (by omega), Int.toNat_natCast]
   obtain ⟨L', b', e⟩ := sp_loop hF k (b.drop m) (Int.ofNat (sLen (b.drop m))) (n + 1) (by rw [List.length_drop]; omega) (dr_by hb m) (by rw [List.length_drop]; omega) (by omega)
   refine ⟨L', b', e.trans ?_⟩
   have : n + 1 + mC2 (mAll k (b.drop m)) = n + mC2 (rFr (mTF b).1 :: (mAll k (b.drop m)).1, m + (mAll k (b.drop m)).2.1, (mAll k (b.drop m)).2.2) := by unfold mC2; rw [List.length_cons]; dsimp only; omega
   rw [this]
theorem sp_elim {F G : List T → Option LRes} {K : Option LRes} {b : List (List T)} {L : Int} {n k : Nat}
  (hF : ∀ (L : Int) (b : List (List T)) (n : Nat), b.all byR = true → b.length ≤ 400 → n ≤ 2000000000000 → F [tI L, tB false, .sl .own 1 b, tI (n : Int)] =
   some (if (mTF b).2 < 0 then .brk [tI (Int.ofNat L.toNat), tB false, .sl .own 1 b, tI ((n + 1 : Nat) : Int)] else if (mTF b).2 = 0 then .brk [tI (Int.ofNat L.toNat), tB false, .sl .own 1 b, tI (n : Int)]
    else .next [tI (Int.ofNat (sLen (b.drop (mTF b).2.toNat))), tB false, .sl .own 1 (b.drop (mTF b).2.toNat), tI ((n + 1 : Nat) : Int)]))
  (h1 : b.length < k) (hb : b.all byR = true) (hl : b.length ≤ 400) (hk : n + k ≤ 2000000000000)
  (hG : ∀ L' b', G [tI L', tB false, .sl .own 1 b', tI ((n + mC2 (mAll k b) : Nat) : Int)] = K) :
  (Option.elim (lp0 F [tI L, tB false, .sl .own 1 b, tI (n : Int)]) none fun val => val.elim' (fun ds => none) G fun o => some (.ret o)) = K := by
 obtain ⟨L', b', e⟩ := sp_loop hF k b L n h1 hb hl hk
 rw [e]
 exact hG L' b'
theorem nx_of {b : List (List T)} (hd : mDecOk [.sl .ro 1 b, tB false] = true) (hb : b.all byR = true) (hl : b.length ≤ 400) : ((mTF b).2 = -1 ∧ mNx b false = ([], true, [0, 0, 0, 0], 2)) ∨ ((mTF b).2 = 0 ∧ mNx b false = (b, false, [0, 0, 0, 0], 1)) ∨ ∃ m : Nat, 6 ≤ m ∧ m ≤ b.length ∧ (mTF b).2 = (m : Int) ∧ mNx b false = (b.drop m, false, (mTF b).1, 0) := by
 rcases tf_n hb (by omega) with h | h | ⟨m, m6, ml, h⟩
 ·exact .inl ⟨h, by unfold mNx; rw [hd]; rw [h]; rfl⟩
 ·exact .inr (.inl ⟨h, by unfold mNx; rw [hd]; rw [h]; rfl⟩)
 ·exact .inr (.inr ⟨m, m6, ml, h, by
   unfold mNx
   rw [hd, h, if_neg (by omega), if_neg (by omega), Int.toNat_natCast]; rfl⟩)
theorem decOk_f {b : List (List T)} (h : b.length ≤ 400) : mDecOk [.sl .ro 1 b, tB false] = true := by
 rw [mDecOk_eq]
 show (decide (b.length ≤ 400) && (!Value.asB (Value.bool false) || decide (b.length = 0))) = true
 rw [decide_eq_true h]; rfl
theorem b_fl_spec {ts : List T} (hr : ts.all roT = true) (h : pToR kEngine ts = true) (w : pWf ts = true) : body lp0 ET122 53 [.ag ts] [] = some (.ret (oI (sFL ts))) := by
 rw [pToR_eq, Bool.and_eq_true] at h
 rw [pWf_eq] at w
 obtain ⟨a0, a1, a2, a3, a4, a5, a6, a7, a8, a9, a10, a11, a12, a13, a14, a15, a16, a17, a18, a19, a20, a21, a22, a23, rfl, ga11, ga12, ga13, ga14, ga15, ga17⟩ := rowr_Engine h.1 hr
 have hl := h.2
 simp only [lenR, lenT, Bool.and_eq_true, decide_eq_true_eq] at hl
 simp only [wfR, wfT, Bool.and_eq_true] at w
 have n11 : a11.length ≤ 1048576 := by simp [hl]
 have hcn := conn_cn ga11 (by simp [w]) (by simp [hl])
 rw [nf_53, sFL_eq]
 show _ = some (LRes.ret (oI ((mFl a11 : Nat) : Int)))
 rw [fls_loop (cs := a11) (fun n i => [tI a0, tI a1, tI a2, tI a3, tI a4, tI a5, tI a6, tI a7, tI a8, tI a9, tI a10, tI (Int.ofNat (sLen a11)), tI (Int.ofNat (sLen a12)), tI (Int.ofNat (sLen a13)), tI (Int.ofNat (sLen a14)), tI (Int.ofNat (sLen a15)), tI a16, tI (Int.ofNat (sLen a17)), tI a18, tI a19, tI a20, tI a21, tI a22, tI a23, .sl .ro 7 a11, .sl .ro 5 a12, .sl .ro 1 a13, .sl .ro 4 a14, .sl .ro 6 a15, .sl .ro 1 a17, tI n, tI i]) (by rfl) n11 hcn (fun i n hi hn => ?_) (fun n => ?_)]
 ·simp only [LRes.elim', Option.elim_some, tAt_eq, List.getD_cons_succ, List.getD_cons_zero, iT_im, okT_i, okT_s, Bool.and_true, cond_true]
 ·have hc := hcn _ (List.getElem_mem hi)
  rw [pCn_eq] at hc
  simp only [Bool.and_eq_true, decide_eq_true_eq] at hc
  obtain ⟨⟨hs1, hb⟩, hlb⟩ := hc
  obtain ⟨fb0, b0, b1, b2, b3, b4, b5, b6, hrr, _⟩ := row_Conn hs1
  rw [hrr] at hb hlb
  replace hb : b0.all byR = true := hb
  replace hlb : b0.length ≤ 1048576 := hlb
  have hc0 : sCell a11 (i : Int).toNat 0 = .sl fb0 1 b0 := by rw [cell_at' hi, hrr]; rfl
  have hc1 : sCell a11 (i : Int).toNat 1 = tB b1 := by rw [cell_at' hi, hrr]; rfl
  have k1 : sOkC [.sl 1, .bool] a11 (i : Int).toNat 0 = true := by rw [sOkC_eq]; simp only [okCells, ← sCell_eq, hc0, hc1]; rfl
  have hp : pBy b0 = true := by rw [pBy_eq, hb, decide_eq_true (by omega)]; rfl
  have hnr : sNoRo (.sl .own 1 (sNx b0 b1)) = true := by rw [sNx_eq]; exact by_nr (nx_by hb b1)
  have ea := add1i (show i < reachBytes from Nat.lt_of_lt_of_le hi (Nat.le_trans n11 (by decide)))
  have en : sAdd .i64 (n : Int) 1 = ((n + 1 : Nat) : Int) := by rw [sAdd_eq, wrap64 (by omega) (by omega)]; omega
  have tn : ∀ k : Nat, Int.ofNat ((Int.ofNat k)).toNat = Int.ofNat k := fun k => rfl
  have t1 : sLt (i : Int) (Int.ofNat (sLen a11)) = true := by rw [sLen_eq, natI, sLtN]; exact decide_eq_true hi
  simp only [tAt_eq, List.getD_cons_succ, List.getD_cons_zero, iT_im, bT_im, rT_sl, okT_i, okT_b, okT_s, slT_sl, Bool.and_true, Bool.true_and, cond_true, tn, t1, le_0', k1, hc0, hc1, hp, hnr, shDec hb, ea, en]
  simp only [sNc_eq]
  rw [hrr, mFl1_row]
  cases hd : mDecOk [.sl .ro 1 b0, tB b1] with
  | false =>
   have e : mNx b0 b1 = (b0, b1, [0, 0, 0, 0], 2) := by unfold mNx; rw [hd]; rfl
   have q1 : sEq (2 : Int) 1 = false := by rw [sEq_eq]; rfl
   simp only [e, q1, sEq_rfl, cond_true, cond_false, Option.elim_some, vAt_eq, List.getD_cons_zero, okVl_b, bV_b, Bool.and_true, Bool.false_and, Nat.add_zero]
  | true =>
   cases b1 with
   | true =>
    have e : mNx b0 true = (b0, true, [0, 0, 0, 0], 2) := by unfold mNx; rw [hd]; rfl
    have q1 : sEq (2 : Int) 1 = false := by rw [sEq_eq]; rfl
    simp only [e, q1, sEq_rfl, cond_true, cond_false, Option.elim_some, vAt_eq, List.getD_cons_zero, okVl_b, bV_b, Bool.not_true, Bool.and_true, Bool.and_false, Nat.add_zero]
   | false =>
    have l4 := decOk_len hd
    have haf : mAF b0 = mAll (b0.length + 1) b0 := by unfold mAF; rw [if_neg (by omega)]
    rw [haf, mAll]
    have q21 : sEq (2 : Int) 1 = false := by rw [sEq_eq]; rfl
    have q01 : sEq (0 : Int) 1 = false := by rw [sEq_eq]; rfl
    have q02 : sEq (0 : Int) 2 = false := by rw [sEq_eq]; rfl
    rcases nx_of hd hb l4 with ⟨h1, e⟩ | ⟨h1, e⟩ | ⟨m, m6, ml, h1, e⟩
    ·rw [h1, if_pos (by omega)]
     simp only [e, q21, sEq_rfl, cond_true, cond_false, Option.elim_some, vAt_eq, List.getD_cons_zero, okVl_b, bV_b, Bool.not_false, Bool.and_true]
     rfl
    ·rw [h1, if_pos (by omega)]
     simp only [e, sEq_rfl, cond_true, Bool.not_false, Bool.and_true]
     rfl
    ·rw [h1, if_neg (by omega), Int.toNat_natCast]
     have hNx : sNx b0 false = b0.drop m := by rw [sNx_eq, e]
     have hNb : sNb b0 false = false := by rw [sNb_eq, e]
     simp only [e, q01, q02, cond_false, hNx, hNb]
     refine sp_elim (k := b0.length) (fun L b' n' hb' hl' hn' => ?_) (by rw [List.length_drop]; omega) (dr_by hb m) (by rw [List.length_drop]; omega) (by omega) (fun L' b' => ?_)
     ·have hp' : pBy b' = true := by rw [pBy_eq, hb', decide_eq_true (by omega)]; rfl
      have hnr' : sNoRo (.sl .own 1 (mNx b' false).1) = true := by_nr (nx_by hb' false)
      have hd' := decOk_f hl'
      have en' : sAdd .i64 (n' : Int) 1 = ((n' + 1 : Nat) : Int) := by rw [sAdd_eq, wrap64 (by omega) (by omega)]; omega
      simp only [List.getD_cons_succ, List.getD_cons_zero, tAt0, tAt1, tAt2, tAt3, iT_im, bT_im, rT_sl, okT_i, okT_b, okT_s, Bool.and_true, cond_true, hp', shDec hb', hd', en', sNx_eq, sNb_eq, sNc_eq]
      rcases nx_of hd' hb' hl' with ⟨h2, e2⟩ | ⟨h2, e2⟩ | ⟨m2, m62, ml2, h2, e2⟩
      ·rw [h2, if_pos (by omega)]
       rw [e2] at hnr'
       simp only [e2, hnr', q21, sEq_rfl, cond_true, cond_false, Option.elim_some, vAt_eq, List.getD_cons_zero, okVl_b, bV_b, Bool.not_false, Bool.and_true]
      ·rw [h2, if_neg (by omega), if_pos rfl]
       rw [e2] at hnr'
       simp only [e2, hnr', sEq_rfl, cond_true]
      ·rw [h2, if_neg (by omega), if_neg (by omega), Int.toNat_natCast]
       rw [e2] at hnr'
       simp only [e2, hnr', q01, q02, cond_false, cond_true]
     ·simp only [List.getD_cons_succ, List.getD_cons_zero, tAt0, tAt1, tAt2, tAt3, iT_im, bT_im, rT_sl, okT_i, okT_b, okT_s, Bool.and_true, cond_true]
      have : n + 1 + mC2 (mAll b0.length (b0.drop m)) = n + ((rFr (mTF b0).1 :: (mAll b0.length (b0.drop m)).1).length + (if (mAll b0.length (b0.drop m)).2.2 then 1 else 0)) := by unfold mC2; rw [List.length_cons]; omega
      rw [this]
      rfl
 ·have t1 : sLt (a11.length : Int) (Int.ofNat (sLen a11)) = false := by rw [sLen_eq, natI, sLtN]; exact decide_eq_false (by omega)
  have tn : ∀ k : Nat, Int.ofNat ((Int.ofNat k)).toNat = Int.ofNat k := fun k => rfl
  simp only [tAt_eq, List.getD_cons_succ, List.getD_cons_zero, iT_im, bT_im, rT_sl, okT_i, okT_b, okT_s, slT_sl, Bool.and_true, Bool.true_and, cond_true, cond_false, tn, t1]
theorem good122 : Good Go.Proofs.Tryz.prog md0 (fun _ => .own) TL122 := good_AF (fun h => b_af h) good121
theorem good123 : Good Go.Proofs.Tryz.prog md0 (fun _ => .own) TL123 := good_FL (fun hr h w => b_fl_spec hr h w) good122
theorem good124 : Good Go.Proofs.Tryz.prog md0 (fun _ => .own) TL124 := good_FL (fun hr h w => b_fl_impl hr h w) good123

end Go.Vm
