/- the next frame: what the functions come to -/
import Derived.Test.YtopemdjgbaonmaaGreatTNN
import Derived.Test.YtopemdjgbaonmaaGreatTFB
import Derived.Test.YtopemdjgbaonmaaGreatOkB
namespace Go.Vm
set_option linter.unusedVariables false
set_option linter.unusedSimpArgs false
theorem sNx_eq (b : List (List T)) (c : Bool) : sNx b c = (mNx b c).1 := by rw [sNx, sld_eq]
theorem sNb_eq (b : List (List T)) (c : Bool) : sNb b c = (mNx b c).2.1 := by rw [sNb, sld_eq]
theorem sNf_eq (j : Nat) (b : List (List T)) (c : Bool) : sNf j b c = (mNx b c).2.2.1.getD j 0 := by rw [sNf, sld_eq]
theorem sNc_eq (b : List (List T)) (c : Bool) : sNc b c = (mNx b c).2.2.2 := by rw [sNc, sld_eq]
theorem sHas_eq (r : List T) : sHas r = mHas r := by rw [sHas, sld_eq]
theorem sRow_eq (rs : List (List T)) (i : Nat) : sRow rs i = rs.getD i [] := by rw [sRow, sld_eq]
theorem pCn_eq (r : List T) : pCn r = (shR kConn r && (r.getD 0 .no).rws.all byR && decide ((r.getD 0 .no).rws.length ≤ 1048576)) := by rw [pCn, sld_eq]
theorem pRw_eq (rs : List (List T)) (i : Nat) : pRw rs i = (shRs kConn rs && decide (i < rs.length) && pCn (rs.getD i [])) := by rw [pRw, sld_eq]
theorem pWf_eq (ts : List T) : pWf ts = wfR ts := by rw [pWf, sld_eq]
theorem sRb_eq (ts : List T) (n : Int) : sRb ts n = (decide (0 ≤ n) && decide (n < ((ts.getD 11 .no).rws.length : Int)) && mHas ((ts.getD 11 .no).rws.getD n.toNat [])) := by rw [sRb, sld_eq]
section
variable {P : Program} {md : FuncId → Option (List Mode)} {fl : FuncId → Fl} {l : List (Nat × GFn)} {f : Nat}
theorem good_Dcp (hb : ∀ {b : List (List T)} {c : Bool}, pFl [kB] b = true → body lp0 (EE P md fl l) f [.ag [.sl .ro 1 b, tB c]] [] = some (.ret ⟨[.ag [.sl .own 1 b, tB c]], [], []⟩)) (hl : Good P md fl l) : Good P md fl ((f, gDcp) :: l) := .cons (fun xs ps h => by
 unfold gDcp at h ⊢
 split at h
 ·exact hb h
 ·cases h) hl
theorem good_TN (hb : ∀ {b : List (List T)} {c : Bool}, pBy b = true → body lp0 (EE P md fl l) f [.ag [.sl .ro 1 b, tB c]] [] = some (.ret ⟨[.ag [.sl .own 1 (sNx b c), tB (sNb b c)], .ag [tI (sNf 0 b c), tI (sNf 1 b c), tI (sNf 2 b c), tI (sNf 3 b c)], .c (tI (sNc b c))], [], []⟩)) (hl : Good P md fl l) : Good P md fl ((f, gTN) :: l) := .cons (fun xs ps h => by
 unfold gTN at h ⊢
 split at h
 ·exact hb h
 ·cases h) hl
theorem good_HF (h1 : ∀ {rs : List (List T)} {i : Nat}, pRw rs i = true → body lp0 (EE P md fl l) f [.pt (nPO 0) 7 i 0] [.rows .ro 7 rs] = some (.ret ⟨[aB (sHas (sRow rs i))], [], [.box true []]⟩))
  (h2 : ∀ {ts : List T}, ts.all roT = true → pCn ts = true → body lp0 (EE P md fl l) f [.pt (nPO 0) 0 0 0] [.box true ts] = some (.ret ⟨[aB (sHas ts)], [], [.box true []]⟩)) (hl : Good P md fl l) : Good P md fl ((f, gHF) :: l) := .cons (fun xs ps h => by
 unfold gHF at h ⊢
 split at h
 ·simp only [Bool.and_eq_true] at h
  obtain ⟨⟨g1, g2⟩, g3⟩ := h
  obtain rfl := beq_eq g1
  obtain rfl := beq_eq g2
  exact h1 g3
 ·simp only [Bool.and_eq_true] at h
  obtain ⟨⟨⟨g1, g2⟩, g3⟩, g4⟩ := h
  obtain rfl := beq_eq g1
  obtain rfl := beq_eq g2
  exact h2 g3 g4
 ·cases h) hl
theorem good_Rb (hb : ∀ {ts : List T} {n : Int}, ts.all roT = true → pToR kEngine ts = true → pWf ts = true → body lp0 (EE P md fl l) f [.ag ts, aI n] [] = some (.ret (oB (sRb ts n)))) (hl : Good P md fl l) : Good P md fl ((f, gRb) :: l) := .cons (fun xs ps h => by
 unfold gRb at h ⊢
 split at h
 ·simp only [Bool.and_eq_true] at h
  exact hb h.1.1 h.1.2 h.2
 ·cases h) hl
end
open Classical in
/-- how many bytes a frame takes -/
theorem tf_n {b : List (List T)} (hb : b.all byR = true) (hl : b.length ≤ 1073741823) : (mTF b).2 = -1 ∨ (mTF b).2 = 0 ∨ ∃ m : Nat, 6 ≤ m ∧ m ≤ b.length ∧ (mTF b).2 = (m : Int) := by
 by_cases h0 : b.length = 0
 ·obtain rfl := List.length_eq_zero_iff.1 h0
  have e : mTF [] = ([0, 0, 0, 0], 0) := by unfold mTF; rw [if_pos rfl]
  rw [e]; exact .inr (.inl rfl)
 ·obtain ⟨n, hn, hA⟩ := at0_nat hb (show 1 ≤ b.length by omega)
  by_cases hn3 : n = 1 ∨ n = 4 ∨ n = 9
  ·rw [mTF_hd (n := n) ⟨hb, by omega, hl, hA, hn3⟩]
   split
   ·exact .inr (.inl rfl)
   ·split
    ·exact .inl rfl
    ·split
     ·exact .inr (.inl rfl)
     ·split
      ·exact .inl rfl
      ·split
       ·exact .inr (.inl rfl)
       ·rename_i c4
        exact .inr (.inr ⟨n + 5, by omega, by omega, rfl⟩)
  ·have e1 : mTF b = ([0, 0, 0, 0], -1) := by
    unfold mTF
    rw [if_neg (fun e => h0 (by rw [e]; rfl)), if_pos (by rw [hA]; omega)]
   rw [e1]; exact .inl rfl
theorem nx_by {b : List (List T)} (hb : b.all byR = true) (c : Bool) : (mNx b c).1.all byR = true := by
 unfold mNx
 cases (!mDecOk [.sl .ro 1 b, tB c] || c) with
 | true => exact hb
 | false =>
  rw [cond_false]
  split
  ·rfl
  ·split
   ·exact hb
   ·have := cut_by hb (mTF b).2.toNat b.length
    rwa [List.take_of_length_le (by rw [List.length_drop]; omega)] at this
theorem by_nr {X : List (List T)} (h : X.all byR = true) : sNoRo (.sl .own 1 X) = true := noRo_flt (row := [kB]) rfl (by_sh h) 1
theorem shDec {b : List (List T)} (h : b.all byR = true) (c : Bool) : sShR kDecoder [.sl .ro 1 b, tB c] = true := by
 rw [sShR_eq]
 have := by_sh h
 simp [shR, shT, this]
theorem b_dcp_spec {b : List (List T)} {c : Bool} (h : pFl [kB] b = true) : body lp0 ET115 123 [.ag [.sl .ro 1 b, tB c]] [] = some (.ret ⟨[.ag [.sl .own 1 b, tB c]], [], []⟩) := by
 have h' := h
 rw [pFl_eq] at h'
 simp only [Bool.and_eq_true] at h'
 rw [nf_123, h, noRo_flt h'.1.2 h'.1.1 1]; rfl
theorem b_dcp_impl {b : List (List T)} {c : Bool} (h : pFl [kB] b = true) : body lp0 ET116 146 [.ag [.sl .ro 1 b, tB c]] [] = some (.ret ⟨[.ag [.sl .own 1 b, tB c]], [], []⟩) := by
 have h' := h
 rw [pFl_eq] at h'
 simp only [Bool.and_eq_true] at h'
 rw [nf_146, h, noRo_flt h'.1.2 h'.1.1 1]; rfl
theorem cutT {b : List (List T)} (m : Nat) : (bif Nat.beq m 0 then b else sCut true m (sLen b - m) b) = b.drop m := by
 cases m with
 | zero => rfl
 | succ m => show sCut true (m + 1) _ b = _; rw [sCut_eq]; rfl
theorem b_tn_spec {b : List (List T)} {c : Bool} (h : pBy b = true) : body lp0 ET117 92 [.ag [.sl .ro 1 b, tB c]] [] = some (.ret ⟨[.ag [.sl .own 1 (sNx b c), tB (sNb b c)], .ag [tI (sNf 0 b c), tI (sNf 1 b c), tI (sNf 2 b c), tI (sNf 3 b c)], .c (tI (sNc b c))], [], []⟩) := by
 have h' := h
 rw [pBy_eq, Bool.and_eq_true, decide_eq_true_eq] at h'
 obtain ⟨hb, hl⟩ := h'
 have hfl : pFl [kB] b = true := fl_of hb (by omega)
 rw [nf_92, shDec hb, h, hfl, by_nr hb, cond_true]
 simp only [sNx_eq, sNb_eq, sNf_eq, sNc_eq]
 cases hd : mDecOk [.sl .ro 1 b, tB c] with
 | false =>
  have e : mNx b c = (b, c, [0, 0, 0, 0], 2) := by unfold mNx; rw [hd]; rfl
  simp only [e, Bool.not_false, cond_true, Option.elim_some, vAt0, okVl_b, bV_b, Bool.and_true]
  rfl
 | true =>
  cases c with
  | true =>
   have e : mNx b true = (b, true, [0, 0, 0, 0], 2) := by unfold mNx; rw [hd]; rfl
   simp only [e, Bool.not_true, cond_false, cond_true, Option.elim_some, vAt0, okVl_b, bV_b, Bool.and_true]
   rfl
  | false =>
   simp only [Bool.not_true, cond_false, cond_true, Option.elim_some, vAt0, okVl_b, bV_b, Bool.and_true]
   rcases tf_n hb hl with hn | hn | ⟨m, m6, ml, hn⟩
   ·have e : mNx b false = ([], true, [0, 0, 0, 0], 2) := by unfold mNx; rw [hd]; rw [hn]; rfl
    have e1 : sLt (sTN b) 0 = true := by rw [sTN_eq, hn, sLt_eq]; rfl
    rw [e, e1]; rfl
   ·have e : mNx b false = (b, false, [0, 0, 0, 0], 1) := by unfold mNx; rw [hd]; rw [hn]; rfl
    have e1 : sLt (sTN b) 0 = false := by rw [sTN_eq, hn, sLt_eq]; rfl
    have e2 : sEq (sTN b) 0 = true := by rw [sTN_eq, hn, sEq_eq]; rfl
    rw [e, e1, e2]; rfl
   ·have e : mNx b false = (b.drop m, false, (mTF b).1, 0) := by
     unfold mNx
     rw [hd, hn, if_neg (by omega), if_neg (by omega), Int.toNat_natCast]; rfl
    have e1 : sLt (sTN b) 0 = false := by rw [sTN_eq, hn, sLt_eq]; exact decide_eq_false (by omega)
    have e2 : sEq (sTN b) 0 = false := by rw [sTN_eq, hn, sEq_eq]; exact decide_eq_false (by omega)
    have e3 : sLe 0 (sTN b) = true := by rw [sTN_eq, hn]; exact le_0' m
    have e4 : sLe (sTN b) (Int.ofNat (sLen b)) = true := by rw [sTN_eq, hn, sLen_eq, natI, sLe_eq]; exact decide_eq_true (by omega)
    have e5 : (sTN b).toNat = m := by rw [sTN_eq, hn, Int.toNat_natCast]
    have hdr : (b.drop m).all byR = true := by
     have := cut_by hb m b.length
     rwa [List.take_of_length_le (by rw [List.length_drop]; omega)] at this
    have hfl2 : pFl [kB] (b.drop m) = true := fl_of hdr (by rw [List.length_drop]; omega)
    rw [e, e1, e2, e3, e4, e5, cutT, hfl2, by_nr hdr]
    simp only [sTF_eq, Bool.and_true, cond_true, cond_false]
theorem b_tn_impl {b : List (List T)} {c : Bool} (h : pBy b = true) : body lp0 ET118 127 [.ag [.sl .ro 1 b, tB c]] [] = some (.ret ⟨[.ag [.sl .own 1 (sNx b c), tB (sNb b c)], .ag [tI (sNf 0 b c), tI (sNf 1 b c), tI (sNf 2 b c), tI (sNf 3 b c)], .c (tI (sNc b c))], [], []⟩) := by
 have h' := h
 rw [pBy_eq, Bool.and_eq_true, decide_eq_true_eq] at h'
 obtain ⟨hb, hl⟩ := h'
 have hfl : pFl [kB] b = true := fl_of hb (by omega)
 rw [nf_127, shDec hb, h, hfl, by_nr hb, cond_true]
 simp only [sNx_eq, sNb_eq, sNf_eq, sNc_eq]
 cases hd : mDecOk [.sl .ro 1 b, tB c] with
 | false =>
  have e : mNx b c = (b, c, [0, 0, 0, 0], 2) := by unfold mNx; rw [hd]; rfl
  simp only [e, Bool.not_false, cond_true, Option.elim_some, vAt0, okVl_b, bV_b, Bool.and_true]
  rfl
 | true =>
  cases c with
  | true =>
   have e : mNx b true = (b, true, [0, 0, 0, 0], 2) := by unfold mNx; rw [hd]; rfl
   simp only [e, Bool.not_true, cond_false, cond_true, Option.elim_some, vAt0, okVl_b, bV_b, Bool.and_true]
   rfl
  | false =>
   simp only [Bool.not_true, cond_false, cond_true, Option.elim_some, vAt0, okVl_b, bV_b, Bool.and_true]
   rcases tf_n hb hl with hn | hn | ⟨m, m6, ml, hn⟩
   ·have e : mNx b false = ([], true, [0, 0, 0, 0], 2) := by unfold mNx; rw [hd]; rw [hn]; rfl
    have e1 : sEq (sTN b) (Int.negSucc 0) = true := by rw [sTN_eq, hn, sEq_eq]; rfl
    rw [e, e1]; rfl
   ·have e : mNx b false = (b, false, [0, 0, 0, 0], 1) := by unfold mNx; rw [hd]; rw [hn]; rfl
    have e1 : sEq (sTN b) (Int.negSucc 0) = false := by rw [sTN_eq, hn, sEq_eq]; rfl
    have e2 : sEq (sTN b) 0 = true := by rw [sTN_eq, hn, sEq_eq]; rfl
    rw [e, e1, e2]; rfl
   ·have e : mNx b false = (b.drop m, false, (mTF b).1, 0) := by
     unfold mNx
     rw [hd, hn, if_neg (by omega), if_neg (by omega), Int.toNat_natCast]; rfl
    have e1 : sEq (sTN b) (Int.negSucc 0) = false := by rw [sTN_eq, hn, sEq_eq]; exact decide_eq_false (by omega)
    have e2 : sEq (sTN b) 0 = false := by rw [sTN_eq, hn, sEq_eq]; exact decide_eq_false (by omega)
    have e3 : sLe 0 (sTN b) = true := by rw [sTN_eq, hn]; exact le_0' m
    have e4 : sLe (sTN b) (Int.ofNat (sLen b)) = true := by rw [sTN_eq, hn, sLen_eq, natI, sLe_eq]; exact decide_eq_true (by omega)
    have e5 : (sTN b).toNat = m := by rw [sTN_eq, hn, Int.toNat_natCast]
    have hdr : (b.drop m).all byR = true := by
     have := cut_by hb m b.length
     rwa [List.take_of_length_le (by rw [List.length_drop]; omega)] at this
    have hfl2 : pFl [kB] (b.drop m) = true := fl_of hdr (by rw [List.length_drop]; omega)
    rw [e, e1, e2, e3, e4, e5, cutT, hfl2, by_nr hdr]
    simp only [sTF_eq, Bool.and_true, cond_true, cond_false]
theorem mDecOk_fl (f : Fl) (a : List (List T)) (c : Bool) : mDecOk [.sl f 1 a, tB c] = mDecOk [.sl .ro 1 a, tB c] := by rw [mDecOk_eq, mDecOk_eq]; rfl
theorem mHas_row (f : Fl) (a0 : List (List T)) (a1 : Bool) (a2 a3 a4 : Int) (a5 a6 : Bool) : mHas [.sl f 1 a0, tB a1, tI a2, tI a3, tI a4, tB a5, tB a6] = (mDecOk [.sl .ro 1 a0, tB a1] && !a1 && decide ((mTF a0).2 ≠ 0)) := by
 unfold mHas cB'
 show (mDecOk [.sl f 1 a0, tB a1] && !bT (tB a1) && decide ((mTF a0).2 ≠ 0)) = _
 rw [mDecOk_fl, bT_im]
theorem nc_has {a : List (List T)} (hb : a.all byR = true) (hl : a.length ≤ 1073741823) (hd : mDecOk [.sl .ro 1 a, tB false] = true) : (!sEq (sNc a false) 1) = decide ((mTF a).2 ≠ 0) ∧ (sEq (sNc a false) 0 || sEq (sNc a false) 2) = decide ((mTF a).2 ≠ 0) := by
 rw [sNc_eq]
 rcases tf_n hb hl with hn | hn | ⟨m, m6, ml, hn⟩
 ·have e : mNx a false = ([], true, [0, 0, 0, 0], 2) := by unfold mNx; rw [hd]; rw [hn]; rfl
  rw [e, hn, sEq_eq, sEq_eq, sEq_eq]; exact ⟨rfl, rfl⟩
 ·have e : mNx a false = (a, false, [0, 0, 0, 0], 1) := by unfold mNx; rw [hd]; rw [hn]; rfl
  rw [e, hn, sEq_eq, sEq_eq, sEq_eq]; exact ⟨rfl, rfl⟩
 ·have e : mNx a false = (a.drop m, false, (mTF a).1, 0) := by
   unfold mNx
   rw [hd, hn, if_neg (by omega), if_neg (by omega), Int.toNat_natCast]; rfl
  rw [e, hn, sEq_eq, sEq_eq, sEq_eq, decide_eq_true (show (m : Int) ≠ 0 by omega)]; exact ⟨rfl, rfl⟩
theorem has_nf {a0 : List (List T)} {a1 : Bool} (hb : a0.all byR = true) (hl : a0.length ≤ 1048576) :
  (Option.elim (bif sShR kDecoder [.sl .ro 1 a0, tB a1] then bif !mDecOk [.sl .ro 1 a0, tB a1] then some [Value.bool true] else some [.bool a1] else none) none fun val => bif okVl .bool (vAt val 0) && true then bif bV (vAt val 0) then some (LRes.ret { rets := [aB false], outs := [], pos := [PO.box true []] }) else bif pBy a0 then bif sNoRo (.sl .own 1 (sNx a0 a1)) && true && true then some (.ret { rets := [aB !sEq (sNc a0 a1) 1], outs := [], pos := [PO.box true []] }) else none else none else none)
   = some (.ret ⟨[aB (mDecOk [.sl .ro 1 a0, tB a1] && !a1 && decide ((mTF a0).2 ≠ 0))], [], [.box true []]⟩) := by
 have hp : pBy a0 = true := by rw [pBy_eq, hb, decide_eq_true (by omega)]; rfl
 have hnr : sNoRo (.sl .own 1 (sNx a0 a1)) = true := by rw [sNx_eq]; exact by_nr (nx_by hb a1)
 rw [shDec hb, hp, hnr, cond_true]
 cases hd : mDecOk [.sl .ro 1 a0, tB a1] with
 | false =>
  simp only [Bool.not_false, cond_true, Option.elim_some, vAt0, okVl_b, bV_b, Bool.and_true]
  rfl
 | true =>
  cases a1 with
  | true =>
   simp only [Bool.not_true, cond_true, cond_false, Option.elim_some, vAt0, okVl_b, bV_b, Bool.and_true]
   rfl
  | false =>
   simp only [Bool.not_true, cond_true, cond_false, Option.elim_some, vAt0, okVl_b, bV_b, Bool.and_true, (nc_has hb (by omega) hd).1]
   rfl
theorem b_hasBox {ts : List T} (hr : ts.all roT = true) (h : pCn ts = true) : body lp0 ET119 97 [.pt (nPO 0) 0 0 0] [.box true ts] = some (.ret ⟨[aB (sHas ts)], [], [.box true []]⟩) := by
 rw [pCn_eq] at h
 simp only [Bool.and_eq_true, decide_eq_true_eq] at h
 obtain ⟨⟨hs, hb⟩, hl⟩ := h
 obtain ⟨a0, a1, a2, a3, a4, a5, a6, rfl, _⟩ := rowr_Conn hs hr
 have hb : a0.all byR = true := hb
 have hl : a0.length ≤ 1048576 := hl
 rw [nf_97_b, has_nf hb hl, sHas_eq, mHas_row]
theorem cellN {rs : List (List T)} {i : Nat} (hi : i < rs.length) (j : Nat) : sCell rs i j = rs[i].getD j .no := by
 have := cell_at' hi j
 rwa [Int.toNat_natCast] at this
theorem b_hasRow {rs : List (List T)} {i : Nat} (h : pRw rs i = true) : body lp0 ET119 97 [.pt (nPO 0) 7 i 0] [.rows .ro 7 rs] = some (.ret ⟨[aB (sHas (sRow rs i))], [], [.box true []]⟩) := by
 rw [pRw_eq] at h
 simp only [Bool.and_eq_true, decide_eq_true_eq] at h
 obtain ⟨⟨hs, hi⟩, hc⟩ := h
 rw [getD_at hi, pCn_eq] at hc
 simp only [Bool.and_eq_true, decide_eq_true_eq] at hc
 obtain ⟨⟨hs1, hb⟩, hl⟩ := hc
 obtain ⟨fa0, a0, a1, a2, a3, a4, a5, a6, hr, _⟩ := row_Conn hs1
 rw [hr] at hb hl
 have hb : a0.all byR = true := hb
 have hl : a0.length ≤ 1048576 := hl
 have hc0 : sCell rs i 0 = .sl fa0 1 a0 := by rw [cellN hi, hr]; rfl
 have hc1 : sCell rs i 1 = tB a1 := by rw [cellN hi, hr]; rfl
 have k1 : sOkC [.sl 1, .bool] rs i 0 = true := by rw [sOkC_eq]; simp only [okCells, ← sCell_eq, hc0, hc1]; rfl
 have k2 : sOkC [.bool] rs i 1 = true := by rw [sOkC_eq]; simp only [okCells, ← sCell_eq, hc1]; rfl
 rw [nf_97, sHas_eq, sRow_eq, getD_at hi, hr, mHas_row, ← has_nf hb hl]
 simp only [k1, k2, hc0, hc1, slT_sl, rT_sl, bT_im, cond_true]
theorem wf_byR {rs : List (List T)} (hs : shRs [kB] rs = true) (hw : wfRs rs = true) : rs.all byR = true := by
 rw [List.all_eq_true]
 intro r hr
 obtain ⟨n, rfl, _⟩ := row_Byte (shRs_mem hs hr)
 have := wfRs_mem hw hr
 simp only [wfR, wfT, Bool.and_true] at this
 have h2 : (decide (IntKind.u8.min ≤ n) && decide (n ≤ IntKind.u8.max)) = true := this
 simp only [Bool.and_eq_true, decide_eq_true_eq] at h2
 have m1 : IntKind.u8.min = 0 := by decide
 have m2 : IntKind.u8.max = 255 := by decide
 unfold byR
 simp only [Bool.and_eq_true, decide_eq_true_eq]
 omega
theorem conn_cn {cs : List (List T)} (hs : shRs kConn cs = true) (hw : wfRs cs = true) (hl : lenRs 1048576 cs = true) : ∀ r ∈ cs, pCn r = true := fun r hr => by
 have h1 := shRs_mem hs hr
 have h2 := wfRs_mem hw hr
 have h3 := lenRs_mem hl hr
 obtain ⟨fa0, a0, a1, a2, a3, a4, a5, a6, rfl, ga⟩ := row_Conn h1
 simp only [wfR, wfT, Bool.and_eq_true] at h2
 simp only [lenR, lenT, Bool.and_eq_true, decide_eq_true_eq] at h3
 rw [pCn_eq, h1]
 show (true && a0.all byR && decide (a0.length ≤ 1048576)) = true
 rw [wf_byR ga h2.1, decide_eq_true h3.1.1]; rfl
theorem in_len (n : Int) (k : Nat) (hk : k ≤ 1048576) : mIn n 0 (sSub .i64 (Int.ofNat k) 1) = (decide (0 ≤ n) && decide (n < (k : Int))) := by
 rw [sSub_eq, natI, wrap64 (by omega) (by omega), mIn_eq]
 by_cases h : n < (k : Int)
 ·rw [decide_eq_true h, decide_eq_true (show n ≤ (k : Int) - 1 by omega)]
 ·rw [decide_eq_false h, decide_eq_false (show ¬ n ≤ (k : Int) - 1 by omega)]
theorem b_rb_spec {ts : List T} {n : Int} (hr : ts.all roT = true) (h : pToR kEngine ts = true) (w : pWf ts = true) : body lp0 ET120 94 [.ag ts, aI n] [] = some (.ret (oB (sRb ts n))) := by
 rw [pToR_eq, Bool.and_eq_true] at h
 rw [pWf_eq] at w
 obtain ⟨a0, a1, a2, a3, a4, a5, a6, a7, a8, a9, a10, a11, a12, a13, a14, a15, a16, a17, a18, a19, a20, a21, a22, a23, rfl, ga11, ga12, ga13, ga14, ga15, ga17⟩ := rowr_Engine h.1 hr
 have hl := h.2
 simp only [lenR, lenT, Bool.and_eq_true, decide_eq_true_eq] at hl
 simp only [wfR, wfT, Bool.and_eq_true] at w
 have n11 : a11.length ≤ 1048576 := by simp [hl]
 have hcn := conn_cn ga11 (by simp [w]) (by simp [hl])
 rw [nf_94, sRb_eq, sLen_eq, in_len n _ n11]
 show _ = some (LRes.ret (oB (decide (0 ≤ n) && decide (n < (a11.length : Int)) && mHas (a11.getD n.toNat []))))
 by_cases c1 : 0 ≤ n ∧ n < (a11.length : Int)
 ·obtain ⟨m, rfl⟩ := Int.eq_ofNat_of_zero_le c1.1
  have hm : m < a11.length := by omega
  have hc := hcn _ (List.getElem_mem hm)
  rw [pCn_eq] at hc
  simp only [Bool.and_eq_true, decide_eq_true_eq] at hc
  obtain ⟨⟨hs1, hb⟩, hlb⟩ := hc
  obtain ⟨fb0, b0, b1, b2, b3, b4, b5, b6, hrr, _⟩ := row_Conn hs1
  rw [hrr] at hb hlb
  have hb : b0.all byR = true := hb
  have hlb : b0.length ≤ 1048576 := hlb
  have hc0 : sCell a11 m 0 = .sl fb0 1 b0 := by rw [cellN hm, hrr]; rfl
  have hc1 : sCell a11 m 1 = tB b1 := by rw [cellN hm, hrr]; rfl
  have k1 : sOkC [.sl 1, .bool] a11 m 0 = true := by rw [sOkC_eq]; simp only [okCells, ← sCell_eq, hc0, hc1]; rfl
  have hp : pBy b0 = true := by rw [pBy_eq, hb, decide_eq_true (by omega)]; rfl
  have hnr : sNoRo (.sl .own 1 (sNx b0 b1)) = true := by rw [sNx_eq]; exact by_nr (nx_by hb b1)
  rw [decide_eq_true c1.1, decide_eq_true c1.2, natI, getD_at (show ((m : Int)).toNat < a11.length by rw [Int.toNat_natCast]; exact hm)]
  simp only [Int.toNat_natCast, hrr, mHas_row, le_0', sLtN, decide_eq_true hm, k1, hc0, hc1, slT_sl, rT_sl, bT_im, hp, hnr, shDec hb, Bool.and_true, Bool.true_and, Bool.not_true, cond_true, cond_false]
  cases hd : mDecOk [.sl .ro 1 b0, tB b1] with
  | false =>
   have e : mNx b0 b1 = (b0, b1, [0, 0, 0, 0], 2) := by unfold mNx; rw [hd]; rfl
   have e0 : sEq (sNc b0 b1) 0 = false := by rw [sNc_eq, e, sEq_eq]; rfl
   have e2 : sEq (sNc b0 b1) 2 = true := by rw [sNc_eq, e, sEq_eq]; rfl
   simp only [e0, e2, cond_true, cond_false, Option.elim_some, vAt0, okVl_b, bV_b, Bool.false_and]
  | true =>
   cases b1 with
   | true =>
    have e : mNx b0 true = (b0, true, [0, 0, 0, 0], 2) := by unfold mNx; rw [hd]; rfl
    have e0 : sEq (sNc b0 true) 0 = false := by rw [sNc_eq, e, sEq_eq]; rfl
    have e2 : sEq (sNc b0 true) 2 = true := by rw [sNc_eq, e, sEq_eq]; rfl
    simp only [e0, e2, cond_true, cond_false, Option.elim_some, vAt0, okVl_b, bV_b, Bool.not_true, Bool.true_and, Bool.false_and]
   | false =>
    have key := (nc_has (a := b0) hb (by omega) hd).2
    rw [← key]
    cases sEq (sNc b0 false) 0 <;> cases sEq (sNc b0 false) 2 <;> simp only [cond_true, cond_false, Option.elim_some, vAt0, okVl_b, bV_b, Bool.not_false, Bool.true_and, Bool.or_true, Bool.or_false, Bool.false_or, Bool.true_or]
 ·have e : (decide (0 ≤ n) && decide (n < (a11.length : Int))) = false := by
   cases hq : (decide (0 ≤ n) && decide (n < (a11.length : Int))) with
   | false => rfl
   | true => simp only [Bool.and_eq_true, decide_eq_true_eq] at hq; exact absurd hq c1
  rw [e]
  simp only [Bool.not_false, cond_true, Bool.false_and]
theorem good116 : Good Go.Proofs.Tryz.prog md0 (fun _ => .own) TL116 := good_Dcp (fun h => b_dcp_spec h) good115
theorem good117 : Good Go.Proofs.Tryz.prog md0 (fun _ => .own) TL117 := good_Dcp (fun h => b_dcp_impl h) good116
theorem good118 : Good Go.Proofs.Tryz.prog md0 (fun _ => .own) TL118 := good_TN (fun h => b_tn_spec h) good117
theorem good119 : Good Go.Proofs.Tryz.prog md0 (fun _ => .own) TL119 := good_TN (fun h => b_tn_impl h) good118
theorem good120 : Good Go.Proofs.Tryz.prog md0 (fun _ => .own) TL120 := good_HF (fun h => b_hasRow h) (fun h => b_hasBox h) good119
theorem good121 : Good Go.Proofs.Tryz.prog md0 (fun _ => .own) TL121 := good_Rb (fun hr h w => b_rb_spec hr h w) good120

end Go.Vm
