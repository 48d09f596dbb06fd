/- texts of engines: what the functions come to -/
import Derived.Test.YtlfkhhmpkgehbaaDoorEXN
import Derived.Test.YtlfkhhmpkgehbaaDoorEXP
import Derived.Test.YtlfkhhmpkgehbaaDoorSTB
import Derived.Test.YtlfkhhmpkgehbaaDoorOkB
namespace Go.Vm
open Go.Proofs
set_option linter.unusedVariables false
set_option linter.unusedSimpArgs false
theorem sLens_eq (rs : List (List T)) : sLens rs = ((mLens rs : Nat) : Int) := by rw [sLens, sld_eq]
section
variable {P : Program} {md : FuncId → Option (List Mode)} {fl : FuncId → Fl} {l : List (Nat × GFn)} {f : Nat}
theorem good_Qd (hb : ∀ {ts : List T}, ts.all roT = true → pToR kEngine ts = true → body lp0 (EE P md fl l) f [.ag ts] [] = some (.ret (oI (sLens (ts.getD 13 .no).rws)))) (hl : Good P md fl l) : Good P md fl ((f, gQd) :: l) := .cons (fun xs ps h => by
 unfold gQd at h ⊢
 split at h
 ·simp only [Bool.and_eq_true] at h
  exact hb h.1 h.2
 ·cases h) hl
theorem good_Hd (hb : ∀ {ts : List T}, ts.all roT = true → pToR kEngine ts = true → body lp0 (EE P md fl l) f [.ag ts] [] = some (.ret (oI (sLens (ts.getD 14 .no).rws)))) (hl : Good P md fl l) : Good P md fl ((f, gHd) :: l) := .cons (fun xs ps h => by
 unfold gHd at h ⊢
 split at h
 ·simp only [Bool.and_eq_true] at h
  exact hb h.1 h.2
 ·cases h) hl
theorem good_QdP (hb : ∀ {ts : List T}, ts.all roT = true → pToR kEngine ts = true → body lp0 (EE P md fl l) f [.pt (nPO 0) 0 0 0] [.box true ts] = some (.ret ⟨[aI (sLens (ts.getD 13 .no).rws)], [], [.box true []]⟩)) (hl : Good P md fl l) : Good P md fl ((f, gQdP) :: l) := .cons (fun xs ps h => by
 unfold gQdP at h ⊢
 split at h
 ·simp only [Bool.and_eq_true] at h
  obtain ⟨⟨⟨h1, h2⟩, h3⟩, h4⟩ := h
  obtain rfl := beq_eq h1
  obtain rfl := beq_eq h2
  exact hb h3 h4
 ·cases h) hl
theorem good_HdP (hb : ∀ {ts : List T}, ts.all roT = true → pToR kEngine ts = true → body lp0 (EE P md fl l) f [.pt (nPO 0) 0 0 0] [.box true ts] = some (.ret ⟨[aI (sLens (ts.getD 14 .no).rws)], [], [.box true []]⟩)) (hl : Good P md fl l) : Good P md fl ((f, gHdP) :: l) := .cons (fun xs ps h => by
 unfold gHdP at h ⊢
 split at h
 ·simp only [Bool.and_eq_true] at h
  obtain ⟨⟨⟨h1, h2⟩, h3⟩, h4⟩ := h
  obtain rfl := beq_eq h1
  obtain rfl := beq_eq h2
  exact hb h3 h4
 ·cases h) hl
theorem good_ET (hb : ∀ {ts : List T}, ts.all roT = true → pToR kEngine ts = true → pWf ts = true → body lp0 (EE P md fl l) f [.ag ts] [] = some (.ret ⟨[aS (sET ts)], [], []⟩)) (hl : Good P md fl l) : Good P md fl ((f, gET) :: l) := .cons (fun xs ps h => by
 unfold gET at h ⊢
 split at h
 ·simp only [Bool.and_eq_true] at h
  exact hb h.1.1 h.1.2 h.2
 ·cases h) hl
end
theorem lens_fold : ∀ (cs : List (List T)) (n : Nat), cs.foldl (fun n r => n + (r.getD 0 .no).rws.length) n = n + mLens cs
 | [], n => rfl
 | r :: rs, n => by rw [List.foldl_cons, lens_fold]; unfold mLens; rw [List.map_cons, List.sum_cons]; omega
theorem lens_loop {F : List T → Option LRes} {cs : List (List T)} (d : Int → Int → List T) {ds0 : List T} (h0 : ds0 = d 0 0) (hn : cs.length ≤ 1048576) (hc : ∀ r ∈ cs, (r.getD 0 .no).rws.length ≤ 1048576)
  (hF : ∀ (i n : Nat) (hi : i < cs.length), n ≤ 1099511627776 → F (d (n : Int) i) = some (.next (d ((n + (cs[i].getD 0 .no).rws.length : Nat) : Int) ((i + 1 : Nat) : Int)))) (hE : ∀ n : Nat, F (d (n : Int) cs.length) = some (.brk (d (n : Int) cs.length))) :
  lp0 F ds0 = some (.brk (d ((mLens cs : Nat) : Int) cs.length)) := by
 have := lp0_foldl (F := F) (ds0 := ds0) cs (fun i (n : Nat) => d (n : Int) i) (fun n r => n + (r.getD 0 .no).rws.length) (fun i n => n ≤ i * 1048576) (fun n => d (n : Int) cs.length) 0 h0 (by omega)
  (fun i n hi hn => ⟨hF i n hi (by omega), by have := hc _ (List.getElem_mem hi); show _ + _ ≤ _; omega⟩) (fun n _ => hE n)
 rw [lens_fold, Nat.zero_add] at this
 exact this.2
theorem len0_mem {cs : List (List T)} (hl : lenRs 1048576 cs = true) {k' : List KT} {ks : List KT} (hs : shRs (.sl k' :: ks) cs = true) : ∀ r ∈ cs, (r.getD 0 .no).rws.length ≤ 1048576 := fun r hr => by
 have h3 := lenRs_mem hl hr
 have h1 := shRs_mem hs hr
 obtain ⟨t0, r, rfl, h0, h⟩ := shR_cons h1
 obtain ⟨fa0, a0, rfl, ga0⟩ := shT_sl h0
 rw [lenR, lenT, Bool.and_eq_true, Bool.and_eq_true, decide_eq_true_eq] at h3
 exact h3.1.1
theorem add_n (n k : Nat) (h1 : n ≤ 1099511627776) (h2 : k ≤ 1048576) : sAdd .i64 (n : Int) (Int.ofNat k) = ((n + k : Nat) : Int) := by
 rw [natI, sAdd_eq, wrap64 (by omega) (by omega)]; omega
theorem lt_t {rs : List (List T)} {i : Nat} (hi : i < rs.length) : sLt (i : Int) (Int.ofNat (sLen rs)) = true := by rw [sLen_eq, natI, ltNN]; exact decide_eq_true hi
theorem lt_f (rs : List (List T)) : sLt (rs.length : Int) (Int.ofNat (sLen rs)) = false := by rw [sLen_eq, natI, ltNN]; exact decide_eq_false (by omega)
theorem b_qd_spec {ts : List T} (hr : ts.all roT = true) (h : pToR kEngine ts = true) : body lp0 ET59 38 [.ag ts] [] = some (.ret (oI (sLens (ts.getD 13 .no).rws))) := by
 rw [pToR_eq, Bool.and_eq_true] at h
 obtain ⟨a0, a1, a2, a3, a4, a5, a6, a7, a8, a9, a10, a11, a12, a13, a14, a15, a16, a17, a18, a19, a20, a21, a22, a23, rfl, ga11, ga12, ga13, ga14, ga15, ga17⟩ := rowr_Engine h.1 hr
 have hl := h.2
 simp only [lenR, lenT, Bool.and_eq_true, decide_eq_true_eq] at hl
 have n0 : a13.length ≤ 1048576 := by simp [hl]
 have hm := len0_mem (cs := a13) (by simp [hl]) ga13
 rw [nf_38, sLens_eq]
 rw [lens_loop (cs := a13) (fun n i => [tI n, tI i]) rfl n0 hm (fun i n hi hn => ?_) (fun n => ?_)]
 ·simp only [LRes.elim', Option.elim_some, tAt0, tAt1, tAt2, iT_im, rT_sl, okT_i, okT_s, Bool.and_true, cond_true]
  rfl
 ·have h1 := shRs_get ga13 hi
  have hx := hm _ (List.getElem_mem hi)
  obtain ⟨fb0, b0, hrr, _⟩ := row_MsgS h1
  have hc0 : sCell a13 (i : Int).toNat 0 = .sl fb0 5 b0 := by rw [cell_at' hi, hrr]; rfl
  have k1 : sOkC [.sl 5] a13 (i : Int).toNat 0 = true := by rw [sOkC_eq]; simp only [okCells, ← sCell_eq, hc0]; rfl
  have ea := add1i (show i < reachBytes from Nat.lt_of_lt_of_le hi (Nat.le_trans n0 (by decide)))
  rw [hrr] at hx
  replace hx : b0.length ≤ 1048576 := hx
  simp only [tAt0, tAt1, tAt2, iT_im, rT_sl, okT_i, okT_s, Bool.and_true, Bool.true_and, cond_true, lt_t hi, le_0', k1, hc0, ea]
  rw [sLen_eq, add_n n _ hn hx, hrr]
  rfl
 ·simp only [tAt0, tAt1, tAt2, iT_im, rT_sl, okT_i, okT_s, Bool.and_true, Bool.true_and, cond_true, cond_false, lt_f]
theorem b_qd_impl {ts : List T} (hr : ts.all roT = true) (h : pToR kEngine ts = true) : body lp0 ET60 48 [.pt (nPO 0) 0 0 0] [.box true ts] = some (.ret ⟨[aI (sLens (ts.getD 13 .no).rws)], [], [.box true []]⟩) := by
 rw [pToR_eq, Bool.and_eq_true] at h
 obtain ⟨a0, a1, a2, a3, a4, a5, a6, a7, a8, a9, a10, a11, a12, a13, a14, a15, a16, a17, a18, a19, a20, a21, a22, a23, rfl, ga11, ga12, ga13, ga14, ga15, ga17⟩ := rowr_Engine h.1 hr
 have hl := h.2
 simp only [lenR, lenT, Bool.and_eq_true, decide_eq_true_eq] at hl
 have n0 : a13.length ≤ 1048576 := by simp [hl]
 have hm := len0_mem (cs := a13) (by simp [hl]) ga13
 rw [nf_48, sLens_eq]
 rw [lens_loop (cs := a13) (fun n i => [tI n, tI i]) rfl n0 hm (fun i n hi hn => ?_) (fun n => ?_)]
 ·simp only [LRes.elim', Option.elim_some, tAt0, tAt1, tAt2, iT_im, rT_sl, okT_i, okT_s, Bool.and_true, cond_true]
  rfl
 ·have h1 := shRs_get ga13 hi
  have hx := hm _ (List.getElem_mem hi)
  obtain ⟨fb0, b0, hrr, _⟩ := row_MsgS h1
  have hc0 : sCell a13 (i : Int).toNat 0 = .sl fb0 5 b0 := by rw [cell_at' hi, hrr]; rfl
  have k1 : sOkC [.sl 5] a13 (i : Int).toNat 0 = true := by rw [sOkC_eq]; simp only [okCells, ← sCell_eq, hc0]; rfl
  have ea := add1i (show i < reachBytes from Nat.lt_of_lt_of_le hi (Nat.le_trans n0 (by decide)))
  rw [hrr] at hx
  replace hx : b0.length ≤ 1048576 := hx
  simp only [tAt0, tAt1, tAt2, iT_im, rT_sl, okT_i, okT_s, Bool.and_true, Bool.true_and, cond_true, lt_t hi, le_0', k1, hc0, ea]
  rw [sLen_eq, add_n n _ hn hx, hrr]
  rfl
 ·simp only [tAt0, tAt1, tAt2, iT_im, rT_sl, okT_i, okT_s, Bool.and_true, Bool.true_and, cond_true, cond_false, lt_f]
theorem b_hd_spec {ts : List T} (hr : ts.all roT = true) (h : pToR kEngine ts = true) : body lp0 ET61 39 [.ag ts] [] = some (.ret (oI (sLens (ts.getD 14 .no).rws))) := by
 rw [pToR_eq, Bool.and_eq_true] at h
 obtain ⟨a0, a1, a2, a3, a4, a5, a6, a7, a8, a9, a10, a11, a12, a13, a14, a15, a16, a17, a18, a19, a20, a21, a22, a23, rfl, ga11, ga12, ga13, ga14, ga15, ga17⟩ := rowr_Engine h.1 hr
 have hl := h.2
 simp only [lenR, lenT, Bool.and_eq_true, decide_eq_true_eq] at hl
 have n0 : a14.length ≤ 1048576 := by simp [hl]
 have hm := len0_mem (cs := a14) (by simp [hl]) ga14
 rw [nf_39, sLens_eq]
 rw [lens_loop (cs := a14) (fun n i => [tI n, tI i]) rfl n0 hm (fun i n hi hn => ?_) (fun n => ?_)]
 ·simp only [LRes.elim', Option.elim_some, tAt0, tAt1, tAt2, iT_im, rT_sl, okT_i, okT_s, Bool.and_true, cond_true]
  rfl
 ·have h1 := shRs_get ga14 hi
  have hx := hm _ (List.getElem_mem hi)
  obtain ⟨fb0, b0, b1, b2, b3, hrr, _⟩ := row_Shard h1
  have hc0 : sCell a14 (i : Int).toNat 0 = .sl fb0 6 b0 := by rw [cell_at' hi, hrr]; rfl
  have k1 : sOkC [.sl 6] a14 (i : Int).toNat 0 = true := by rw [sOkC_eq]; simp only [okCells, ← sCell_eq, hc0]; rfl
  have ea := add1i (show i < reachBytes from Nat.lt_of_lt_of_le hi (Nat.le_trans n0 (by decide)))
  rw [hrr] at hx
  replace hx : b0.length ≤ 1048576 := hx
  simp only [tAt0, tAt1, tAt2, iT_im, rT_sl, okT_i, okT_s, Bool.and_true, Bool.true_and, cond_true, lt_t hi, le_0', k1, hc0, ea]
  rw [sLen_eq, add_n n _ hn hx, hrr]
  rfl
 ·simp only [tAt0, tAt1, tAt2, iT_im, rT_sl, okT_i, okT_s, Bool.and_true, Bool.true_and, cond_true, cond_false, lt_f]
theorem b_hd_impl {ts : List T} (hr : ts.all roT = true) (h : pToR kEngine ts = true) : body lp0 ET62 49 [.pt (nPO 0) 0 0 0] [.box true ts] = some (.ret ⟨[aI (sLens (ts.getD 14 .no).rws)], [], [.box true []]⟩) := by
 rw [pToR_eq, Bool.and_eq_true] at h
 obtain ⟨a0, a1, a2, a3, a4, a5, a6, a7, a8, a9, a10, a11, a12, a13, a14, a15, a16, a17, a18, a19, a20, a21, a22, a23, rfl, ga11, ga12, ga13, ga14, ga15, ga17⟩ := rowr_Engine h.1 hr
 have hl := h.2
 simp only [lenR, lenT, Bool.and_eq_true, decide_eq_true_eq] at hl
 have n0 : a14.length ≤ 1048576 := by simp [hl]
 have hm := len0_mem (cs := a14) (by simp [hl]) ga14
 rw [nf_49, sLens_eq]
 rw [lens_loop (cs := a14) (fun n i => [.sl .ro 4 a14, tI n, tI i]) rfl n0 hm (fun i n hi hn => ?_) (fun n => ?_)]
 ·simp only [LRes.elim', Option.elim_some, tAt0, tAt1, tAt2, iT_im, rT_sl, okT_i, okT_s, Bool.and_true, cond_true]
  rfl
 ·have h1 := shRs_get ga14 hi
  have hx := hm _ (List.getElem_mem hi)
  obtain ⟨fb0, b0, b1, b2, b3, hrr, _⟩ := row_Shard h1
  have hc0 : sCell a14 (i : Int).toNat 0 = .sl fb0 6 b0 := by rw [cell_at' hi, hrr]; rfl
  have k1 : sOkC [.sl 6, .int .i64, .int .i64, .int .i64] a14 (i : Int).toNat 0 = true := okc_sh' ga14 hi
  have ea := add1i (show i < reachBytes from Nat.lt_of_lt_of_le hi (Nat.le_trans n0 (by decide)))
  rw [hrr] at hx
  replace hx : b0.length ≤ 1048576 := hx
  simp only [tAt0, tAt1, tAt2, iT_im, rT_sl, okT_i, okT_s, Bool.and_true, Bool.true_and, cond_true, lt_t hi, le_0', k1, hc0, ea]
  rw [sLen_eq, add_n n _ hn hx, hrr]
  rfl
 ·simp only [tAt0, tAt1, tAt2, iT_im, rT_sl, okT_i, okT_s, Bool.and_true, Bool.true_and, cond_true, cond_false, lt_f]
theorem pWf_eq (ts : List T) : pWf ts = wfR ts := by rw [pWf, sld_eq]
theorem sET_eq (ts : List T) : sET ts = bif mIn (cI ts 10) 0 2 then ⟨(eL (names.getD (cI ts 10).toNat []) labels (nums ts) 9).toArray⟩ else ⟨#[]⟩ := by rw [sET, sld_eq]
theorem fitX {n : Nat} (h : n ≤ 1000000) : sFit n = true := by rw [sFit_eq, Nat.blt_eq]; omega
theorem mLens_le : ∀ (cs : List (List T)), (∀ r ∈ cs, (r.getD 0 .no).rws.length ≤ 1048576) → mLens cs ≤ cs.length * 1048576
 | [], _ => by simp [mLens]
 | r :: cs, h => by
  have h1 := h r List.mem_cons_self
  have h2 := mLens_le cs fun x hx => h x (List.mem_cons_of_mem _ hx)
  unfold mLens at h2 ⊢
  rw [List.map_cons, List.sum_cons, List.length_cons, Nat.add_mul, Nat.one_mul]
  omega
theorem in64_nat {n : Nat} (h : n ≤ 1099511627776) : sIn64 (n : Int) = true := by rw [in64_iff]; omega
theorem b_et_impl {ts : List T} (hr : ts.all roT = true) (h : pToR kEngine ts = true) (w : pWf ts = true) : body lp0 ET64 13 [.ag ts] [] = some (.ret ⟨[aS (sET ts)], [], []⟩) := by
 have hp := h
 rw [pToR_eq, Bool.and_eq_true] at h
 rw [pWf_eq] at w
 obtain ⟨a0, a1, a2, a3, a4, a5, a6, a7, a8, a9, a10, a11, a12, a13, a14, a15, a16, a17, a18, a19, a20, a21, a22, a23, rfl, ga11, ga12, ga13, ga14, ga15, ga17⟩ := rowr_Engine h.1 hr
 have hl := h.2
 simp only [lenR, lenT, Bool.and_eq_true, decide_eq_true_eq] at hl
 simp only [wfR, wfT, Bool.and_eq_true] at w
 have n12 : a12.length ≤ 1048576 := by simp [hl]
 have n15 : a15.length ≤ 1048576 := by simp [hl]
 have n13 : a13.length ≤ 1048576 := by simp [hl]
 have n14 : a14.length ≤ 1048576 := by simp [hl]
 have m13 := mLens_le a13 (len0_mem (cs := a13) (by simp [hl]) ga13)
 have m14 := mLens_le a14 (len0_mem (cs := a14) (by simp [hl]) ga14)
 have hN : nums [tI a0, tI a1, tI a2, tI a3, tI a4, tI a5, tI a6, tI a7, tI a8, tI a9, tI a10, .sl .ro 7 a11, .sl .ro 5 a12, .sl .ro 1 a13, .sl .ro 4 a14, .sl .ro 6 a15, tI a16, .sl .ro 1 a17, tI a18, tI a19, tI a20, tI a21, tI a22, tI a23] = [a16, ((a12.length : Nat) : Int), ((mLens a13 : Nat) : Int), ((mLens a14 : Nat) : Int), ((a15.length : Nat) : Int), a18, a19, a20, a21] := by
  unfold nums
  rw [show cI [tI a0, tI a1, tI a2, tI a3, tI a4, tI a5, tI a6, tI a7, tI a8, tI a9, tI a10, .sl .ro 7 a11, .sl .ro 5 a12, .sl .ro 1 a13, .sl .ro 4 a14, .sl .ro 6 a15, tI a16, .sl .ro 1 a17, tI a18, tI a19, tI a20, tI a21, tI a22, tI a23] 16 = a16 from cIg rfl, show cI [tI a0, tI a1, tI a2, tI a3, tI a4, tI a5, tI a6, tI a7, tI a8, tI a9, tI a10, .sl .ro 7 a11, .sl .ro 5 a12, .sl .ro 1 a13, .sl .ro 4 a14, .sl .ro 6 a15, tI a16, .sl .ro 1 a17, tI a18, tI a19, tI a20, tI a21, tI a22, tI a23] 18 = a18 from cIg rfl, show cI [tI a0, tI a1, tI a2, tI a3, tI a4, tI a5, tI a6, tI a7, tI a8, tI a9, tI a10, .sl .ro 7 a11, .sl .ro 5 a12, .sl .ro 1 a13, .sl .ro 4 a14, .sl .ro 6 a15, tI a16, .sl .ro 1 a17, tI a18, tI a19, tI a20, tI a21, tI a22, tI a23] 19 = a19 from cIg rfl, show cI [tI a0, tI a1, tI a2, tI a3, tI a4, tI a5, tI a6, tI a7, tI a8, tI a9, tI a10, .sl .ro 7 a11, .sl .ro 5 a12, .sl .ro 1 a13, .sl .ro 4 a14, .sl .ro 6 a15, tI a16, .sl .ro 1 a17, tI a18, tI a19, tI a20, tI a21, tI a22, tI a23] 20 = a20 from cIg rfl, show cI [tI a0, tI a1, tI a2, tI a3, tI a4, tI a5, tI a6, tI a7, tI a8, tI a9, tI a10, .sl .ro 7 a11, .sl .ro 5 a12, .sl .ro 1 a13, .sl .ro 4 a14, .sl .ro 6 a15, tI a16, .sl .ro 1 a17, tI a18, tI a19, tI a20, tI a21, tI a22, tI a23] 21 = a21 from cIg rfl]; rfl
 rw [nf_13, sET_eq, hN, show cI [tI a0, tI a1, tI a2, tI a3, tI a4, tI a5, tI a6, tI a7, tI a8, tI a9, tI a10, .sl .ro 7 a11, .sl .ro 5 a12, .sl .ro 1 a13, .sl .ro 4 a14, .sl .ro 6 a15, tI a16, .sl .ro 1 a17, tI a18, tI a19, tI a20, tI a21, tI a22, tI a23] 10 = a10 from cIg rfl, hp]
 cases hm : mIn a10 0 2 with
 | false => rfl
 | true =>
  rw [mIn_eq, Bool.and_eq_true, decide_eq_true_eq, decide_eq_true_eq] at hm
  obtain ⟨m, rfl⟩ := Int.eq_ofNat_of_zero_le hm.1
  have hm3 : m < names.length := by show m < 3; omega
  rw [names_rows, labels_rows]
  rw [show ([[tI a16], [tI (Int.ofNat ((sLen a12)))], [tI (sLens a13)], [tI (sLens a14)], [tI (Int.ofNat ((sLen a15)))], [tI a18], [tI a19], [tI a20], [tI a21]] : List (List T)) = rowsI [a16, ((a12.length : Nat) : Int), ((mLens a13 : Nat) : Int), ((mLens a14 : Nat) : Int), ((a15.length : Nat) : Int), a18, a19, a20, a21] from by rw [sLen_eq, sLen_eq, sLens_eq, sLens_eq]; rfl]
  have hv : ∀ v ∈ [a16, ((a12.length : Nat) : Int), ((mLens a13 : Nat) : Int), ((mLens a14 : Nat) : Int), ((a15.length : Nat) : Int), a18, a19, a20, a21], sIn64 v = true := by
   intro v hv
   simp only [List.mem_cons, List.not_mem_nil, or_false] at hv
   rcases hv with rfl | rfl | rfl | rfl | rfl | rfl | rfl | rfl | rfl
   ·exact wf_in64 (by simp [w])
   ·exact in64_nat (by omega)
   ·exact in64_nat (by omega)
   ·exact in64_nat (by omega)
   ·exact in64_nat (by omega)
   ·exact wf_in64 (by simp [w])
   ·exact wf_in64 (by simp [w])
   ·exact wf_in64 (by simp [w])
   ·exact wf_in64 (by simp [w])
  have hVl : [a16, ((a12.length : Nat) : Int), ((mLens a13 : Nat) : Int), ((mLens a14 : Nat) : Int), ((a15.length : Nat) : Int), a18, a19, a20, a21].length = 9 := rfl
  generalize [a16, ((a12.length : Nat) : Int), ((mLens a13 : Nat) : Int), ((mLens a14 : Nat) : Int), ((a15.length : Nat) : Int), a18, a19, a20, a21] = V at hv hVl
  have hV20 : ∀ v ∈ V, (Lib.itoa v).length ≤ 20 := fun v hm => itoa_len20 (hv v hm)
  have hnm := stName_le hm3
  have hget : names.getD m [] = names[m] := by simp [List.getD, hm3]
  rw [show ((m : Nat) : Int).toNat = m from rfl, hget]
  have o1 : sLe 0 (m : Int) = true := by rw [sLe_eq]; exact decide_eq_true (by omega)
  have o2 : sLt (m : Int) (Int.ofNat 3) = true := by rw [sLt_eq]; exact decide_eq_true (by show (m : Int) < ((3 : Nat) : Int); omega)
  generalize hnmv : names[m] = nm at hnm
  rw [rowsS_cell hm3, rowsS_okc hm3, hnmv, o1, o2, sT_im]
  simp only [Bool.and_true, Bool.not_true, cond_true, cond_false]
  rw [lp0_for0 (fun i => [.im (.string ⟨(eL nm labels V i).toArray⟩), tI (i : Int)]) 9 (x := [.im (.string ⟨(eL nm labels V 9).toArray⟩), tI ((9 : Nat) : Int)]) (by rw [eL0]; rfl) (fun i hi => ?step) ?fin]
  case fin =>
   have t : sLt ((9 : Nat) : Int) (Int.ofNat 9) = false := by rw [sLt_eq]; rfl
   simp only [tAt0, tAt1, iT_im, okT_i, okT_str, sT_im, Bool.and_true, cond_true, cond_false, t]
  case step =>
   have h1 : i < labels.length := hi
   have h2 : i < V.length := by omega
   have t : sLt (i : Int) (Int.ofNat 9) = true := by rw [sLt_eq]; exact decide_eq_true (by show (i : Int) < ((9 : Nat) : Int); omega)
   have t2 : sLe 0 (i : Int) = true := by rw [sLe_eq]; exact decide_eq_true (by omega)
   have t3 : sAdd .i64 (i : Int) 1 = ((i + 1 : Nat) : Int) := by rw [sAdd_eq, wrap64 (by omega) (by omega)]; omega
   have k1 : (Lib.itoa V[i]).length ≤ 20 := hV20 _ (List.getElem_mem _)
   have k2 : labels[i].length ≤ 8 := labels_le _ (List.getElem_mem _)
   have k3 := eL_len hnm labels_le hV20 i (by omega) (by omega)
   have c0 := rowsS_cell h1
   have c1 := rowsS_okc h1
   have c2 := rowsI_cell h2
   rw [show ((i : Nat) : Int).toNat = i from rfl] at c2
   have c3 := rowsI_okc h2
   rw [show ((i : Nat) : Int).toNat = i from rfl] at c3
   have f1 : sFit ((⟨labels[i].toArray⟩ : ByteArray).size + (⟨(Lib.itoa V[i]).toArray⟩ : ByteArray).size) = true := fitX (by rw [bsz, bsz]; omega)
   have f2 : sFit ((⟨(eL nm labels V i).toArray⟩ : ByteArray).size + (⟨(labels[i] ++ Lib.itoa V[i]).toArray⟩ : ByteArray).size) = true := fitX (by rw [bsz, bsz, List.length_append]; omega)
   simp only [tAt0, tAt1, iT_im, okT_i, okT_str, sT_im, Bool.and_true, cond_true, t, t2, t3, show ((i : Nat) : Int).toNat = i from rfl, c0, c1, c2, c3, hv _ (List.getElem_mem h2), sItoa_eq, scat, f1, f2, ← eL_succ nm h1 h2]
  simp only [Option.elim_some, LRes.elim', tAt0, tAt1, iT_im, okT_i, okT_str, sT_im, Bool.and_true, cond_true]
theorem b_et_spec {ts : List T} (hr : ts.all roT = true) (h : pToR kEngine ts = true) (w : pWf ts = true) : body lp0 ET63 11 [.ag ts] [] = some (.ret ⟨[aS (sET ts)], [], []⟩) := by
 have hp := h
 rw [pToR_eq, Bool.and_eq_true] at h
 rw [pWf_eq] at w
 obtain ⟨a0, a1, a2, a3, a4, a5, a6, a7, a8, a9, a10, a11, a12, a13, a14, a15, a16, a17, a18, a19, a20, a21, a22, a23, rfl, ga11, ga12, ga13, ga14, ga15, ga17⟩ := rowr_Engine h.1 hr
 have hl := h.2
 simp only [lenR, lenT, Bool.and_eq_true, decide_eq_true_eq] at hl
 simp only [wfR, wfT, Bool.and_eq_true] at w
 have n12 : a12.length ≤ 1048576 := by simp [hl]
 have n15 : a15.length ≤ 1048576 := by simp [hl]
 have n13 : a13.length ≤ 1048576 := by simp [hl]
 have n14 : a14.length ≤ 1048576 := by simp [hl]
 have m13 := mLens_le a13 (len0_mem (cs := a13) (by simp [hl]) ga13)
 have m14 := mLens_le a14 (len0_mem (cs := a14) (by simp [hl]) ga14)
 have hN : nums [tI a0, tI a1, tI a2, tI a3, tI a4, tI a5, tI a6, tI a7, tI a8, tI a9, tI a10, .sl .ro 7 a11, .sl .ro 5 a12, .sl .ro 1 a13, .sl .ro 4 a14, .sl .ro 6 a15, tI a16, .sl .ro 1 a17, tI a18, tI a19, tI a20, tI a21, tI a22, tI a23] = [a16, ((a12.length : Nat) : Int), ((mLens a13 : Nat) : Int), ((mLens a14 : Nat) : Int), ((a15.length : Nat) : Int), a18, a19, a20, a21] := by
  unfold nums
  rw [show cI [tI a0, tI a1, tI a2, tI a3, tI a4, tI a5, tI a6, tI a7, tI a8, tI a9, tI a10, .sl .ro 7 a11, .sl .ro 5 a12, .sl .ro 1 a13, .sl .ro 4 a14, .sl .ro 6 a15, tI a16, .sl .ro 1 a17, tI a18, tI a19, tI a20, tI a21, tI a22, tI a23] 16 = a16 from cIg rfl, show cI [tI a0, tI a1, tI a2, tI a3, tI a4, tI a5, tI a6, tI a7, tI a8, tI a9, tI a10, .sl .ro 7 a11, .sl .ro 5 a12, .sl .ro 1 a13, .sl .ro 4 a14, .sl .ro 6 a15, tI a16, .sl .ro 1 a17, tI a18, tI a19, tI a20, tI a21, tI a22, tI a23] 18 = a18 from cIg rfl, show cI [tI a0, tI a1, tI a2, tI a3, tI a4, tI a5, tI a6, tI a7, tI a8, tI a9, tI a10, .sl .ro 7 a11, .sl .ro 5 a12, .sl .ro 1 a13, .sl .ro 4 a14, .sl .ro 6 a15, tI a16, .sl .ro 1 a17, tI a18, tI a19, tI a20, tI a21, tI a22, tI a23] 19 = a19 from cIg rfl, show cI [tI a0, tI a1, tI a2, tI a3, tI a4, tI a5, tI a6, tI a7, tI a8, tI a9, tI a10, .sl .ro 7 a11, .sl .ro 5 a12, .sl .ro 1 a13, .sl .ro 4 a14, .sl .ro 6 a15, tI a16, .sl .ro 1 a17, tI a18, tI a19, tI a20, tI a21, tI a22, tI a23] 20 = a20 from cIg rfl, show cI [tI a0, tI a1, tI a2, tI a3, tI a4, tI a5, tI a6, tI a7, tI a8, tI a9, tI a10, .sl .ro 7 a11, .sl .ro 5 a12, .sl .ro 1 a13, .sl .ro 4 a14, .sl .ro 6 a15, tI a16, .sl .ro 1 a17, tI a18, tI a19, tI a20, tI a21, tI a22, tI a23] 21 = a21 from cIg rfl]; rfl
 rw [nf_11, sET_eq, hN, show cI [tI a0, tI a1, tI a2, tI a3, tI a4, tI a5, tI a6, tI a7, tI a8, tI a9, tI a10, .sl .ro 7 a11, .sl .ro 5 a12, .sl .ro 1 a13, .sl .ro 4 a14, .sl .ro 6 a15, tI a16, .sl .ro 1 a17, tI a18, tI a19, tI a20, tI a21, tI a22, tI a23] 10 = a10 from cIg rfl, hp]
 cases hm : mIn a10 0 2 with
 | false => rfl
 | true =>
  rw [mIn_eq, Bool.and_eq_true, decide_eq_true_eq, decide_eq_true_eq] at hm
  obtain ⟨m, rfl⟩ := Int.eq_ofNat_of_zero_le hm.1
  have hm3 : m < names.length := by show m < 3; omega
  rw [names_rows]
  have i16 : sIn64 a16 = true := wf_in64 (by simp [w])
  have i18 : sIn64 a18 = true := wf_in64 (by simp [w])
  have i19 : sIn64 a19 = true := wf_in64 (by simp [w])
  have i20 : sIn64 a20 = true := wf_in64 (by simp [w])
  have i21 : sIn64 a21 = true := wf_in64 (by simp [w])
  have i12 : sIn64 ((a12.length : Nat) : Int) = true := in64_nat (by omega)
  have i13 : sIn64 ((mLens a13 : Nat) : Int) = true := in64_nat (by omega)
  have i14 : sIn64 ((mLens a14 : Nat) : Int) = true := in64_nat (by omega)
  have i15 : sIn64 ((a15.length : Nat) : Int) = true := in64_nat (by omega)
  have k16 := itoa_len20 i16
  have k18 := itoa_len20 i18
  have k19 := itoa_len20 i19
  have k20 := itoa_len20 i20
  have k21 := itoa_len20 i21
  have k12 := itoa_len20 i12
  have k13 := itoa_len20 i13
  have k14 := itoa_len20 i14
  have k15 := itoa_len20 i15
  have hnm := stName_le hm3
  have hget : names.getD m [] = names[m] := by simp [List.getD, hm3]
  rw [show ((m : Nat) : Int).toNat = m from rfl, hget]
  have o1 : sLe 0 (m : Int) = true := by rw [sLe_eq]; exact decide_eq_true (by omega)
  have o2 : sLt (m : Int) (Int.ofNat 3) = true := by rw [sLt_eq]; exact decide_eq_true (by show (m : Int) < ((3 : Nat) : Int); omega)
  generalize hnmv : names[m] = nm at hnm
  rw [rowsS_cell hm3, rowsS_okc hm3, hnmv, o1, o2, sT_im, sLen_eq, sLen_eq, sLens_eq, sLens_eq]
  simp only [natI, sItoa_eq, i16, i18, i19, i20, i21, i12, i13, i14, i15, Bool.and_true, Bool.not_true, cond_true, cond_false]
  rw [eL9]
  generalize Lib.itoa a16 = x16 at k16 ⊢
  generalize Lib.itoa a18 = x18 at k18 ⊢
  generalize Lib.itoa a19 = x19 at k19 ⊢
  generalize Lib.itoa a20 = x20 at k20 ⊢
  generalize Lib.itoa a21 = x21 at k21 ⊢
  generalize Lib.itoa ((a12.length : Nat) : Int) = x12 at k12 ⊢
  generalize Lib.itoa ((mLens a13 : Nat) : Int) = x13 at k13 ⊢
  generalize Lib.itoa ((mLens a14 : Nat) : Int) = x14 at k14 ⊢
  generalize Lib.itoa ((a15.length : Nat) : Int) = x15 at k15 ⊢
  simp only [scat, bsz, List.length_append, List.length_cons, List.length_nil]
  simp (disch := omega) only [fitX, cond_true]
theorem good60 : Good Go.Proofs.Tryd.prog md0 (fun _ => .own) TL60 := good_Qd (fun hr h => b_qd_spec hr h) good59
theorem good61 : Good Go.Proofs.Tryd.prog md0 (fun _ => .own) TL61 := good_QdP (fun hr h => b_qd_impl hr h) good60
theorem good62 : Good Go.Proofs.Tryd.prog md0 (fun _ => .own) TL62 := good_Hd (fun hr h => b_hd_spec hr h) good61
theorem good63 : Good Go.Proofs.Tryd.prog md0 (fun _ => .own) TL63 := good_HdP (fun hr h => b_hd_impl hr h) good62
theorem good64 : Good Go.Proofs.Tryd.prog md0 (fun _ => .own) TL64 := good_ET (fun hr h hw => b_et_spec hr h hw) good63
theorem good65 : Good Go.Proofs.Tryd.prog md0 (fun _ => .own) TL65 := good_ET (fun hr h hw => b_et_impl hr h hw) good64

end Go.Vm
