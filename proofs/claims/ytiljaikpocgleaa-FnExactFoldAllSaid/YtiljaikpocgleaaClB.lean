/- copies: what they come to -/
import Derived.Test.YtiljaikpocgleaaClN
import Derived.Test.YtiljaikpocgleaaOkB
namespace Go.Vm
set_option linter.unusedVariables false
set_option linter.unusedSimpArgs false
theorem pFl_eq (row : List KT) (rs : List (List T)) : pFl row rs = (shRs row rs && row.all KT.flat && decide (rs.length ≤ 2147483647)) := by rw [pFl, sld_eq]
theorem shR_im : ∀ {row : List KT} {r : List T}, row.all KT.flat = true → shR row r = true → r.all T.isIm = true
 | [], r, _, h => by obtain rfl := shR_nil h; rfl
 | k :: ks, r, hf, h => by
  rw [List.all_cons, Bool.and_eq_true] at hf
  obtain ⟨t, ts, rfl, h1, h2⟩ := shR_cons h
  rw [List.all_cons, shR_im hf.2 h2, Bool.and_true]
  cases k with
  | int => obtain ⟨n, rfl⟩ := shT_int h1; rfl
  | bool => obtain ⟨n, rfl⟩ := shT_bool h1; rfl
  | str => obtain ⟨n, rfl⟩ := shT_str h1; rfl
  | _ => cases hf.1
theorem pFl_flat {row : List KT} {rs : List (List T)} (h : pFl row rs = true) : sFlat rs = true := by
 rw [pFl_eq] at h
 simp only [Bool.and_eq_true, decide_eq_true_eq] at h
 rw [sFlat_eq, flatRows, List.all_eq_true]
 exact fun r hr => shR_im h.1.2 (shRs_mem h.1.1 hr)
theorem pFl_len {row : List KT} {rs : List (List T)} (h : pFl row rs = true) : rs.length ≤ 2147483647 := by
 rw [pFl_eq] at h
 simp only [Bool.and_eq_true, decide_eq_true_eq] at h
 exact h.2
section
variable {P : Program} {md : FuncId → Option (List Mode)} {fl : FuncId → Fl} {l : List (Nat × GFn)} {f : Nat}
theorem good_Clone1 {row : List KT} {k : Nat} (hk : row.length = k) (h1 : ∀ {rs}, pFl row rs = true → bodyS lp0 (EE P md fl l) f [.c (.sl .ro k rs)] [] (stNn [.c (.sl .ro k rs)] k rs) = some (.ret ⟨[.c (.sl .own k rs)], [], []⟩))
  (h0 : bodyS lp0 (EE P md fl l) f [.c (.sl .ro k [])] [] (stNl [.c (.sl .ro k [])] k) = some (.ret ⟨[.c (.sl .own k [])], [], []⟩)) (hl : Good P md fl l) : Good P md fl ((f, gClone row) :: l) := .nil1 (fun xs ps h => by
 unfold gClone at h ⊢
 split at h
 ·rename_i sz rs
  rw [Bool.and_eq_true] at h
  obtain rfl : sz = k := (beq_eq h.1).trans hk
  exact ⟨sz, rs, [], rfl, rfl, h1 h.2, fun e => by subst e; exact h0⟩
 ·cases h) hl
theorem good_Grow (hb : ∀ {n : Int}, 0 ≤ n → n < 4294967296 → body lp0 (EE P md fl l) f [.c (.im (.slice none 0 0)), aI n] [] = some (.ret ⟨[.c (.sl .own 1 [])], [], []⟩)) (hl : Good P md fl l) : Good P md fl ((f, gGrow) :: l) := .cons (fun xs ps h => by
 unfold gGrow at h ⊢
 split at h
 ·rw [Bool.and_eq_true, sLe_iff, sLt_iff] at h; exact hb h.1 h.2
 ·cases h) hl
theorem good_Concat (hb : ∀ {a b : List (List T)}, pFl [kB] a = true → pFl [kB] b = true → body lp0 (EE P md fl l) f [.c (.sl .ro 1 [[.sl .ro 1 a], [.sl .own 1 b]])] [] = some (.ret ⟨[.c (.sl .own 1 (sApp a b))], [], []⟩)) (hl : Good P md fl l) : Good P md fl ((f, gConcat) :: l) := .cons (fun xs ps h => by
 unfold gConcat at h ⊢
 split at h
 ·rw [Bool.and_eq_true] at h; exact hb h.1 h.2
 ·cases h) hl
end
theorem fit0 {rs : List (List T)} (h : rs.length ≤ 2147483647) : sFit (sLen [] + sLen rs) = true := by
 rw [sFit_eq, sLen_eq, sLen_eq, Nat.blt_eq]; simp; omega
theorem b_cloneA {rs : List (List T)} (h : pFl kAggT rs = true) : bodyS lp0 ET48 64 [.c (.sl .ro 6 rs)] [] (stNn [.c (.sl .ro 6 rs)] 6 rs) = some (.ret ⟨[.c (.sl .own 6 rs)], [], []⟩) := by
 rw [nf_64, pFl_flat h, fit0 (pFl_len h), sApp_eq]; rfl
theorem b_cloneA0 : bodyS lp0 ET48 64 [.c (.sl .ro 6 [])] [] (stNl [.c (.sl .ro 6 [])] 6) = some (.ret ⟨[.c (.sl .own 6 [])], [], []⟩) := nf_64_l _ _
theorem b_grow {n : Int} (h0 : 0 ≤ n) (h1 : n < 4294967296) : body lp0 ET49 145 [.c (.im (.slice none 0 0)), aI n] [] = some (.ret ⟨[.c (.sl .own 1 [])], [], []⟩) := by
 rw [nf_145]
 have e : sSub .i64 n (sSub .i64 0 0) = n := by
  rw [sSub_eq, sSub_eq, show IntKind.i64.wrap (0 - 0) = 0 from wrap64 (by omega) (by omega), wrap64 (by omega) (by omega)]; omega
 have l0 : sLt n 0 = false := by rw [sLt_eq]; exact decide_eq_false (by omega)
 have l1 : sLt n 4294967296 = true := by rw [sLt_eq]; exact decide_eq_true (by omega)
 have l2 : sLe 0 n = true := by rw [sLe_eq]; exact decide_eq_true (by omega)
 have l3 : sLe 0 0 = true := by rw [sLe_eq]; rfl
 have l4 : sLe 0 (Int.ofNat n.toNat) = true := by rw [sLe_eq]; exact decide_eq_true (by show (0 : Int) ≤ ((n.toNat : Nat) : Int); omega)
 have l5 : ∀ rs, sCut false (Int.toNat 0) (Int.toNat 0 - Int.toNat 0) rs = [] := fun rs => by rw [sCut_eq]; simp [cut]
 simp only [e, l0, l1, l2, l3, l4, l5, sEq_rfl, Bool.and_true, cond_true, cond_false]
 cases sLt 0 n <;> rfl
def cS (a b : List (List T)) : Nat → Int
 | 0 => 0
 | 1 => ((a.length : Nat) : Int)
 | _ => ((a.length + b.length : Nat) : Int)
def cR (a b : List (List T)) : Nat → List (List T)
 | 0 => []
 | 1 => a
 | _ => a ++ b
theorem b_concat {a b : List (List T)} (ha : pFl [kB] a = true) (hb : pFl [kB] b = true) : body lp0 ET50 131 [.c (.sl .ro 1 [[.sl .ro 1 a], [.sl .own 1 b]])] [] = some (.ret ⟨[.c (.sl .own 1 (sApp a b))], [], []⟩) := by
 rw [nf_131]
 have la := pFl_len ha
 have lb := pFl_len hb
 have L2 : sLen [[T.sl .ro 1 a], [.sl .own 1 b]] = 2 := by rw [sLen_eq]; rfl
 have c0 : sCell [[T.sl .ro 1 a], [.sl .own 1 b]] (0 : Int).toNat 0 = .sl .ro 1 a := by rw [sCell_eq]; rfl
 have c1 : sCell [[T.sl .ro 1 a], [.sl .own 1 b]] (1 : Int).toNat 0 = .sl .own 1 b := by rw [sCell_eq]; rfl
 have k0 : sOkC [.sl 1] [[T.sl .ro 1 a], [.sl .own 1 b]] (0 : Int).toNat 0 = true := by rw [sOkC_eq]; rfl
 have k1 : sOkC [.sl 1] [[T.sl .ro 1 a], [.sl .own 1 b]] (1 : Int).toNat 0 = true := by rw [sOkC_eq]; rfl
 have t0 : sLt (0 : Int) (Int.ofNat 2) = true := by rw [sLt_eq]; rfl
 have t1 : sLt (1 : Int) (Int.ofNat 2) = true := by rw [sLt_eq]; rfl
 have t2 : sLt (2 : Int) (Int.ofNat 2) = false := by rw [sLt_eq]; rfl
 have u0 : sLe (0 : Int) 0 = true := by rw [sLe_eq]; rfl
 have u1 : sLe (0 : Int) 1 = true := by rw [sLe_eq]; rfl
 have a0 : sAdd .i64 (0 : Int) 1 = 1 := by rw [sAdd_eq]; rfl
 have a1 : sAdd .i64 (1 : Int) 1 = 2 := by rw [sAdd_eq]; rfl
 have s0 : sAdd .i64 0 (Int.ofNat (sLen a)) = (a.length : Int) := by rw [sAdd_eq, sLen_eq, natI, wrap64 (by omega) (by omega)]; omega
 have s1 : sAdd .i64 (a.length : Int) (Int.ofNat (sLen b)) = ((a.length + b.length : Nat) : Int) := by rw [sAdd_eq, sLen_eq, natI, wrap64 (by omega) (by omega)]; omega
 have n0 : sLt (a.length : Int) 0 = false := by rw [sLt_eq]; exact decide_eq_false (by omega)
 have n1 : sLt ((a.length + b.length : Nat) : Int) 0 = false := by rw [sLt_eq]; exact decide_eq_false (by omega)
 have f0 : sFit (sLen [] + sLen a) = true := fit0 la
 have f1 : sFit (sLen a + sLen b) = true := by rw [sFit_eq, sLen_eq, sLen_eq, Nat.blt_eq]; omega
 have g1 : sLe 0 ((a.length + b.length : Nat) : Int) = true := by rw [sLe_eq]; exact decide_eq_true (by omega)
 have g2 : sLt ((a.length + b.length : Nat) : Int) 4294967296 = true := by rw [sLt_eq]; exact decide_eq_true (by omega)
 have nr : sNoRo (.sl .own 1 []) = true := by rw [sNoRo_eq]; rfl
 rw [lp0_for0 (fun i => [tI (cS a b i), tI (i : Int)]) 2 (x := [tI (cS a b 2), tI 2]) (by rfl) (fun i hi => ?_) ?_]
 ·simp only [cS, LRes.elim', Option.elim_some, tAt0, tAt1, iT_im, okT_i, Bool.and_true, cond_true, g1, g2, nr]
  rw [lp0_for0 (fun i => [.sl .own 1 (cR a b i), tI (Int.ofNat (sLen (cR a b i))), tI (i : Int)]) 2 (x := [.sl .own 1 (cR a b 2), tI (Int.ofNat (sLen (cR a b 2))), tI 2]) (by rfl) (fun i hi => ?_) ?_]
  ·simp only [cR, LRes.elim', Option.elim_some, tAt0, tAt1, tAt2, iT_im, rT_sl, okT_i, okT_s, Bool.and_true, cond_true, sApp_eq]
  ·simp only [cR, tAt0, tAt1, tAt2, iT_im, rT_sl, okT_i, okT_s, Bool.and_true, cond_true, cond_false, L2, show ((2 : Nat) : Int) = 2 from rfl, t2]; rfl
  ·match i, hi with
   | 0, _ => simp only [cR, tAt0, tAt1, tAt2, iT_im, rT_sl, okT_i, okT_s, slT_sl, Bool.and_true, Bool.true_and, cond_true, L2, show ((0 : Nat) : Int) = 0 from rfl, c0, k0, t0, u0, a0, f0, pFl_flat ha, sApp_eq, List.nil_append]; rfl
   | 1, _ => simp only [cR, tAt0, tAt1, tAt2, iT_im, rT_sl, okT_i, okT_s, slT_sl, Bool.and_true, Bool.true_and, cond_true, L2, show ((1 : Nat) : Int) = 1 from rfl, c1, k1, t1, u1, a1, f1, pFl_flat hb, sApp_eq]; rfl
 ·simp only [cS, tAt0, tAt1, iT_im, okT_i, Bool.and_true, cond_true, cond_false, L2, show ((2 : Nat) : Int) = 2 from rfl, t2]
 ·match i, hi with
  | 0, _ => simp only [cS, tAt0, tAt1, iT_im, rT_sl, okT_i, Bool.and_true, Bool.true_and, cond_true, cond_false, L2, show ((0 : Nat) : Int) = 0 from rfl, c0, k0, t0, u0, a0, s0, n0]; rfl
  | 1, _ => simp only [cS, tAt0, tAt1, iT_im, rT_sl, okT_i, Bool.and_true, Bool.true_and, cond_true, cond_false, L2, show ((1 : Nat) : Int) = 1 from rfl, c1, k1, t1, u1, a1, s1, n1]; rfl
theorem good49 : Good Go.Proofs.Try.prog md0 (fun _ => .own) TL49 := good_Clone1 (rfl) (fun h => b_cloneA h) b_cloneA0 good48
theorem good50 : Good Go.Proofs.Try.prog md0 (fun _ => .own) TL50 := good_Grow (b_grow) good49
theorem good51 : Good Go.Proofs.Try.prog md0 (fun _ => .own) TL51 := good_Concat (b_concat) good50

end Go.Vm
