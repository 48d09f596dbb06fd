/- DrainBound: what the functions come to -/
import Derived.Test.YtopemdjgbaonmaaGreatDBN
import Derived.Test.YtopemdjgbaonmaaGreatFLB
import Derived.Test.YtopemdjgbaonmaaGreatOkB
namespace Go.Vm
set_option linter.unusedVariables false
set_option linter.unusedSimpArgs false
theorem sLens_eq (rs : List (List T)) : sLens rs = ((mLens rs : Nat) : Int) := by rw [sLens, sld_eq]
theorem sDb_eq (ts : List T) : sDb ts = bif mSafe ts then mDb ts else -1 := by rw [sDb, sld_eq]
section
variable {P : Program} {md : FuncId → Option (List Mode)} {fl : FuncId → Fl} {l : List (Nat × GFn)} {f : Nat}
theorem good_Qd (hb : ∀ {ts : List T}, ts.all roT = true → pToR kEngine ts = true → body lp0 (EE P md fl l) f [.ag ts] [] = some (.ret (oI (sLens (ts.getD 13 .no).rws)))) (hl : Good P md fl l) : Good P md fl ((f, gQd) :: l) := .cons (fun xs ps h => by
 unfold gQd at h ⊢
 split at h
 ·simp only [Bool.and_eq_true] at h
  exact hb h.1 h.2
 ·cases h) hl
theorem good_Hd (hb : ∀ {ts : List T}, ts.all roT = true → pToR kEngine ts = true → body lp0 (EE P md fl l) f [.ag ts] [] = some (.ret (oI (sLens (ts.getD 14 .no).rws)))) (hl : Good P md fl l) : Good P md fl ((f, gHd) :: l) := .cons (fun xs ps h => by
 unfold gHd at h ⊢
 split at h
 ·simp only [Bool.and_eq_true] at h
  exact hb h.1 h.2
 ·cases h) hl
theorem good_QdP (hb : ∀ {ts : List T}, ts.all roT = true → pToR kEngine ts = true → body lp0 (EE P md fl l) f [.pt (nPO 0) 0 0 0] [.box true ts] = some (.ret ⟨[aI (sLens (ts.getD 13 .no).rws)], [], [.box true []]⟩)) (hl : Good P md fl l) : Good P md fl ((f, gQdP) :: l) := .cons (fun xs ps h => by
 unfold gQdP at h ⊢
 split at h
 ·simp only [Bool.and_eq_true] at h
  obtain ⟨⟨⟨h1, h2⟩, h3⟩, h4⟩ := h
  obtain rfl := beq_eq h1
  obtain rfl := beq_eq h2
  exact hb h3 h4
 ·cases h) hl
theorem good_HdP (hb : ∀ {ts : List T}, ts.all roT = true → pToR kEngine ts = true → body lp0 (EE P md fl l) f [.pt (nPO 0) 0 0 0] [.box true ts] = some (.ret ⟨[aI (sLens (ts.getD 14 .no).rws)], [], [.box true []]⟩)) (hl : Good P md fl l) : Good P md fl ((f, gHdP) :: l) := .cons (fun xs ps h => by
 unfold gHdP at h ⊢
 split at h
 ·simp only [Bool.and_eq_true] at h
  obtain ⟨⟨⟨h1, h2⟩, h3⟩, h4⟩ := h
  obtain rfl := beq_eq h1
  obtain rfl := beq_eq h2
  exact hb h3 h4
 ·cases h) hl
theorem good_Db (hb : ∀ {ts : List T}, ts.all roT = true → pToR kEngine ts = true → pWf ts = true → body lp0 (EE P md fl l) f [.ag ts] [] = some (.ret (oI (sDb ts)))) (hl : Good P md fl l) : Good P md fl ((f, gDb) :: l) := .cons (fun xs ps h => by
 unfold gDb at h ⊢
 split at h
 ·simp only [Bool.and_eq_true] at h
  exact hb h.1.1 h.1.2 h.2
 ·cases h) hl
end
theorem lens_fold : ∀ (cs : List (List T)) (n : Nat), cs.foldl (fun n r => n + (r.getD 0 .no).rws.length) n = n + mLens cs
 | [], n => rfl
 | r :: rs, n => by rw [List.foldl_cons, lens_fold]; unfold mLens; rw [List.map_cons, List.sum_cons]; omega
theorem lens_loop {F : List T → Option LRes} {cs : List (List T)} (d : Int → Int → List T) {ds0 : List T} (h0 : ds0 = d 0 0) (hn : cs.length ≤ 1048576) (hc : ∀ r ∈ cs, (r.getD 0 .no).rws.length ≤ 1048576)
  (hF : ∀ (i n : Nat) (hi : i < cs.length), n ≤ 1099511627776 → F (d (n : Int) i) = some (.next (d ((n + (cs[i].getD 0 .no).rws.length : Nat) : Int) ((i + 1 : Nat) : Int)))) (hE : ∀ n : Nat, F (d (n : Int) cs.length) = some (.brk (d (n : Int) cs.length))) :
  lp0 F ds0 = some (.brk (d ((mLens cs : Nat) : Int) cs.length)) := by
 have := lp0_foldl (F := F) (ds0 := ds0) cs (fun i (n : Nat) => d (n : Int) i) (fun n r => n + (r.getD 0 .no).rws.length) (fun i n => n ≤ i * 1048576) (fun n => d (n : Int) cs.length) 0 h0 (by omega)
  (fun i n hi hn => ⟨hF i n hi (by omega), by have := hc _ (List.getElem_mem hi); show _ + _ ≤ _; omega⟩) (fun n _ => hE n)
 rw [lens_fold, Nat.zero_add] at this
 exact this.2
theorem len0_mem {cs : List (List T)} (hl : lenRs 1048576 cs = true) {k' : List KT} {ks : List KT} (hs : shRs (.sl k' :: ks) cs = true) : ∀ r ∈ cs, (r.getD 0 .no).rws.length ≤ 1048576 := fun r hr => by
 have h3 := lenRs_mem hl hr
 have h1 := shRs_mem hs hr
 obtain ⟨t0, r, rfl, h0, h⟩ := shR_cons h1
 obtain ⟨fa0, a0, rfl, ga0⟩ := shT_sl h0
 rw [lenR, lenT, Bool.and_eq_true, Bool.and_eq_true, decide_eq_true_eq] at h3
 exact h3.1.1
theorem add_n (n k : Nat) (h1 : n ≤ 1099511627776) (h2 : k ≤ 1048576) : sAdd .i64 (n : Int) (Int.ofNat k) = ((n + k : Nat) : Int) := by
 rw [natI, sAdd_eq, wrap64 (by omega) (by omega)]; omega
theorem lt_t {rs : List (List T)} {i : Nat} (hi : i < rs.length) : sLt (i : Int) (Int.ofNat (sLen rs)) = true := by rw [sLen_eq, natI, sLtN]; exact decide_eq_true hi
theorem lt_f (rs : List (List T)) : sLt (rs.length : Int) (Int.ofNat (sLen rs)) = false := by rw [sLen_eq, natI, sLtN]; exact decide_eq_false (by omega)
theorem b_qd_spec {ts : List T} (hr : ts.all roT = true) (h : pToR kEngine ts = true) : body lp0 ET124 54 [.ag ts] [] = some (.ret (oI (sLens (ts.getD 13 .no).rws))) := by
 rw [pToR_eq, Bool.and_eq_true] at h
 obtain ⟨a0, a1, a2, a3, a4, a5, a6, a7, a8, a9, a10, a11, a12, a13, a14, a15, a16, a17, a18, a19, a20, a21, a22, a23, rfl, ga11, ga12, ga13, ga14, ga15, ga17⟩ := rowr_Engine h.1 hr
 have hl := h.2
 simp only [lenR, lenT, Bool.and_eq_true, decide_eq_true_eq] at hl
 have n0 : a13.length ≤ 1048576 := by simp [hl]
 have hm := len0_mem (cs := a13) (by simp [hl]) ga13
 rw [nf_54, sLens_eq]
 rw [lens_loop (cs := a13) (fun n i => [tI n, tI i]) rfl n0 hm (fun i n hi hn => ?_) (fun n => ?_)]
 ·simp only [LRes.elim', Option.elim_some, tAt0, tAt1, tAt2, iT_im, rT_sl, okT_i, okT_s, Bool.and_true, cond_true]
  rfl
 ·have h1 := shRs_get ga13 hi
  have hx := hm _ (List.getElem_mem hi)
  obtain ⟨fb0, b0, hrr, _⟩ := row_MsgS h1
  have hc0 : sCell a13 (i : Int).toNat 0 = .sl fb0 5 b0 := by rw [cell_at' hi, hrr]; rfl
  have k1 : sOkC [.sl 5] a13 (i : Int).toNat 0 = true := by rw [sOkC_eq]; simp only [okCells, ← sCell_eq, hc0]; rfl
  have ea := add1i (show i < reachBytes from Nat.lt_of_lt_of_le hi (Nat.le_trans n0 (by decide)))
  rw [hrr] at hx
  replace hx : b0.length ≤ 1048576 := hx
  simp only [tAt0, tAt1, tAt2, iT_im, rT_sl, okT_i, okT_s, Bool.and_true, Bool.true_and, cond_true, lt_t hi, le_0', k1, hc0, ea]
  rw [sLen_eq, add_n n _ hn hx, hrr]
  rfl
 ·simp only [tAt0, tAt1, tAt2, iT_im, rT_sl, okT_i, okT_s, Bool.and_true, Bool.true_and, cond_true, cond_false, lt_f]
theorem b_qd_impl {ts : List T} (hr : ts.all roT = true) (h : pToR kEngine ts = true) : body lp0 ET125 57 [.pt (nPO 0) 0 0 0] [.box true ts] = some (.ret ⟨[aI (sLens (ts.getD 13 .no).rws)], [], [.box true []]⟩) := by
 rw [pToR_eq, Bool.and_eq_true] at h
 obtain ⟨a0, a1, a2, a3, a4, a5, a6, a7, a8, a9, a10, a11, a12, a13, a14, a15, a16, a17, a18, a19, a20, a21, a22, a23, rfl, ga11, ga12, ga13, ga14, ga15, ga17⟩ := rowr_Engine h.1 hr
 have hl := h.2
 simp only [lenR, lenT, Bool.and_eq_true, decide_eq_true_eq] at hl
 have n0 : a13.length ≤ 1048576 := by simp [hl]
 have hm := len0_mem (cs := a13) (by simp [hl]) ga13
 rw [nf_57, sLens_eq]
 rw [lens_loop (cs := a13) (fun n i => [tI n, tI i]) rfl n0 hm (fun i n hi hn => ?_) (fun n => ?_)]
 ·simp only [LRes.elim', Option.elim_some, tAt0, tAt1, tAt2, iT_im, rT_sl, okT_i, okT_s, Bool.and_true, cond_true]
  rfl
 ·have h1 := shRs_get ga13 hi
  have hx := hm _ (List.getElem_mem hi)
  obtain ⟨fb0, b0, hrr, _⟩ := row_MsgS h1
  have hc0 : sCell a13 (i : Int).toNat 0 = .sl fb0 5 b0 := by rw [cell_at' hi, hrr]; rfl
  have k1 : sOkC [.sl 5] a13 (i : Int).toNat 0 = true := by rw [sOkC_eq]; simp only [okCells, ← sCell_eq, hc0]; rfl
  have ea := add1i (show i < reachBytes from Nat.lt_of_lt_of_le hi (Nat.le_trans n0 (by decide)))
  rw [hrr] at hx
  replace hx : b0.length ≤ 1048576 := hx
  simp only [tAt0, tAt1, tAt2, iT_im, rT_sl, okT_i, okT_s, Bool.and_true, Bool.true_and, cond_true, lt_t hi, le_0', k1, hc0, ea]
  rw [sLen_eq, add_n n _ hn hx, hrr]
  rfl
 ·simp only [tAt0, tAt1, tAt2, iT_im, rT_sl, okT_i, okT_s, Bool.and_true, Bool.true_and, cond_true, cond_false, lt_f]
theorem b_hd_spec {ts : List T} (hr : ts.all roT = true) (h : pToR kEngine ts = true) : body lp0 ET126 55 [.ag ts] [] = some (.ret (oI (sLens (ts.getD 14 .no).rws))) := by
 rw [pToR_eq, Bool.and_eq_true] at h
 obtain ⟨a0, a1, a2, a3, a4, a5, a6, a7, a8, a9, a10, a11, a12, a13, a14, a15, a16, a17, a18, a19, a20, a21, a22, a23, rfl, ga11, ga12, ga13, ga14, ga15, ga17⟩ := rowr_Engine h.1 hr
 have hl := h.2
 simp only [lenR, lenT, Bool.and_eq_true, decide_eq_true_eq] at hl
 have n0 : a14.length ≤ 1048576 := by simp [hl]
 have hm := len0_mem (cs := a14) (by simp [hl]) ga14
 rw [nf_55, sLens_eq]
 rw [lens_loop (cs := a14) (fun n i => [tI n, tI i]) rfl n0 hm (fun i n hi hn => ?_) (fun n => ?_)]
 ·simp only [LRes.elim', Option.elim_some, tAt0, tAt1, tAt2, iT_im, rT_sl, okT_i, okT_s, Bool.and_true, cond_true]
  rfl
 ·have h1 := shRs_get ga14 hi
  have hx := hm _ (List.getElem_mem hi)
  obtain ⟨fb0, b0, b1, b2, b3, hrr, _⟩ := row_Shard h1
  have hc0 : sCell a14 (i : Int).toNat 0 = .sl fb0 6 b0 := by rw [cell_at' hi, hrr]; rfl
  have k1 : sOkC [.sl 6] a14 (i : Int).toNat 0 = true := by rw [sOkC_eq]; simp only [okCells, ← sCell_eq, hc0]; rfl
  have ea := add1i (show i < reachBytes from Nat.lt_of_lt_of_le hi (Nat.le_trans n0 (by decide)))
  rw [hrr] at hx
  replace hx : b0.length ≤ 1048576 := hx
  simp only [tAt0, tAt1, tAt2, iT_im, rT_sl, okT_i, okT_s, Bool.and_true, Bool.true_and, cond_true, lt_t hi, le_0', k1, hc0, ea]
  rw [sLen_eq, add_n n _ hn hx, hrr]
  rfl
 ·simp only [tAt0, tAt1, tAt2, iT_im, rT_sl, okT_i, okT_s, Bool.and_true, Bool.true_and, cond_true, cond_false, lt_f]
theorem b_hd_impl {ts : List T} (hr : ts.all roT = true) (h : pToR kEngine ts = true) : body lp0 ET127 58 [.pt (nPO 0) 0 0 0] [.box true ts] = some (.ret ⟨[aI (sLens (ts.getD 14 .no).rws)], [], [.box true []]⟩) := by
 rw [pToR_eq, Bool.and_eq_true] at h
 obtain ⟨a0, a1, a2, a3, a4, a5, a6, a7, a8, a9, a10, a11, a12, a13, a14, a15, a16, a17, a18, a19, a20, a21, a22, a23, rfl, ga11, ga12, ga13, ga14, ga15, ga17⟩ := rowr_Engine h.1 hr
 have hl := h.2
 simp only [lenR, lenT, Bool.and_eq_true, decide_eq_true_eq] at hl
 have n0 : a14.length ≤ 1048576 := by simp [hl]
 have hm := len0_mem (cs := a14) (by simp [hl]) ga14
 rw [nf_58, sLens_eq]
 rw [lens_loop (cs := a14) (fun n i => [.sl .ro 4 a14, tI n, tI i]) rfl n0 hm (fun i n hi hn => ?_) (fun n => ?_)]
 ·simp only [LRes.elim', Option.elim_some, tAt0, tAt1, tAt2, iT_im, rT_sl, okT_i, okT_s, Bool.and_true, cond_true]
  rfl
 ·have h1 := shRs_get ga14 hi
  have hx := hm _ (List.getElem_mem hi)
  obtain ⟨fb0, b0, b1, b2, b3, hrr, _⟩ := row_Shard h1
  have hc0 : sCell a14 (i : Int).toNat 0 = .sl fb0 6 b0 := by rw [cell_at' hi, hrr]; rfl
  have k1 : sOkC [.sl 6, .int .i64, .int .i64, .int .i64] a14 (i : Int).toNat 0 = true := okc_sh' ga14 hi
  have ea := add1i (show i < reachBytes from Nat.lt_of_lt_of_le hi (Nat.le_trans n0 (by decide)))
  rw [hrr] at hx
  replace hx : b0.length ≤ 1048576 := hx
  simp only [tAt0, tAt1, tAt2, iT_im, rT_sl, okT_i, okT_s, Bool.and_true, Bool.true_and, cond_true, lt_t hi, le_0', k1, hc0, ea]
  rw [sLen_eq, add_n n _ hn hx, hrr]
  rfl
 ·simp only [tAt0, tAt1, tAt2, iT_im, rT_sl, okT_i, okT_s, Bool.and_true, Bool.true_and, cond_true, cond_false, lt_f]
theorem b_db_spec {ts : List T} (hr : ts.all roT = true) (h : pToR kEngine ts = true) (w : pWf ts = true) : body lp0 ET128 15 [.ag ts] [] = some (.ret (oI (sDb ts))) := by
 have h' := h
 rw [pToR_eq, Bool.and_eq_true] at h
 have h2 : pEqR kEngine ts = true := by rw [pEqR_eq, h.1, lenR_mono (by decide) h.2]; rfl
 rw [sDb_eq]
 obtain ⟨a0, a1, a2, a3, a4, a5, a6, a7, a8, a9, a10, a11, a12, a13, a14, a15, a16, a17, a18, a19, a20, a21, a22, a23, rfl, _, _, _, _, _, _⟩ := rowr_Engine h.1 hr
 rw [nf_15, h', h2, w]
 cases mSafe _ <;> rfl
theorem b_db_impl {ts : List T} (hr : ts.all roT = true) (h : pToR kEngine ts = true) (w : pWf ts = true) : body lp0 ET129 16 [.ag ts] [] = some (.ret (oI (sDb ts))) := by
 have h' := h
 rw [pToR_eq, Bool.and_eq_true] at h
 have h2 : pEqR kEngine ts = true := by rw [pEqR_eq, h.1, lenR_mono (by decide) h.2]; rfl
 rw [sDb_eq]
 obtain ⟨a0, a1, a2, a3, a4, a5, a6, a7, a8, a9, a10, a11, a12, a13, a14, a15, a16, a17, a18, a19, a20, a21, a22, a23, rfl, _, _, _, _, _, _⟩ := rowr_Engine h.1 hr
 rw [nf_16, h', h2, w]
 cases mSafe _ <;> rfl
theorem good125 : Good Go.Proofs.Tryz.prog md0 (fun _ => .own) TL125 := good_Qd (fun hr h => b_qd_spec hr h) good124
theorem good126 : Good Go.Proofs.Tryz.prog md0 (fun _ => .own) TL126 := good_QdP (fun hr h => b_qd_impl hr h) good125
theorem good127 : Good Go.Proofs.Tryz.prog md0 (fun _ => .own) TL127 := good_Hd (fun hr h => b_hd_spec hr h) good126
theorem good128 : Good Go.Proofs.Tryz.prog md0 (fun _ => .own) TL128 := good_HdP (fun hr h => b_hd_impl hr h) good127
theorem good129 : Good Go.Proofs.Tryz.prog md0 (fun _ => .own) TL129 := good_Db (fun hr h w => b_db_spec hr h w) good128
theorem good130 : Good Go.Proofs.Tryz.prog md0 (fun _ => .own) TL130 := good_Db (fun hr h w => b_db_impl hr h w) good129

end Go.Vm
