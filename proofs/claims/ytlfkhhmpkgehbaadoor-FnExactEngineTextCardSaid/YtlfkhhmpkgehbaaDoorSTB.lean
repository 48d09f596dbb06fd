/- texts of setups: the bodies -/
import Derived.Test.YtlfkhhmpkgehbaaDoorSTN
import Derived.Test.YtlfkhhmpkgehbaaDoorSTP
import Derived.Test.YtlfkhhmpkgehbaaDoorTxL
import Derived.Test.YtlfkhhmpkgehbaaDoorOkB
namespace Go.Vm
open Go.Proofs
set_option linter.unusedVariables false
set_option linter.unusedSimpArgs false
theorem good_Itoa {l : List (Nat × GFn)} (hf : itoaL_ren.f 171 = 65) (hl : Good Go.Proofs.Tryd.prog md0 (fun _ => .own) l) : Good Go.Proofs.Tryd.prog md0 (fun _ => .own) ((65, gItoa) :: l) := .ext (fun xs pos h hG => by
 unfold gItoa at h ⊢
 split at h
 ·exact itoa_sound (ρ := itoaL_ren) itoaL ⟨_, Go.Proofs.Tryd.func65, by kernel_rfl, by kernel_rfl⟩ tabIs not_drw h (by kernel_rfl)
 ·cases h) hl
theorem good_Join {l : List (Nat × GFn)} (hf : joinL_ren.f 156 = 30) (hl : Good Go.Proofs.Tryd.prog md0 (fun _ => .own) l) : Good Go.Proofs.Tryd.prog md0 (fun _ => .own) ((30, gJoin) :: l) := .ext (fun xs pos h hG => by
 unfold gJoin at h ⊢
 split at h
 ·exact join_sound (ρ := joinL_ren) Go.Proofs.joinL joinX ⟨_, Go.Proofs.Tryd.func30, by kernel_rfl, by kernel_rfl⟩ not_drw h (by kernel_rfl)
 ·cases h) hl
section
variable {P : Program} {md : FuncId → Option (List Mode)} {fl : FuncId → Fl} {l : List (Nat × GFn)} {f : Nat}
theorem good_Num (hb : ∀ {n : Int}, sIn64 n = true → body lp0 (EE P md fl l) f [aI n] [] = some (.ret ⟨[aS (sItoa n)], [], []⟩)) (hl : Good P md fl l) : Good P md fl ((f, gNum) :: l) := .cons (fun xs ps h => by
 unfold gNum at h ⊢
 split at h
 ·exact hb h
 ·cases h) hl
theorem good_Vals (hb : ∀ a0 a1 a2 a3 a4 a5 a6 a7 a8 : Int, body lp0 (EE P md fl l) f [.ag [tI a0, tI a1, tI a2, tI a3, tI a4, tI a5, tI a6, tI a7, tI a8]] [] = some (.ret ⟨[.c (.sl .own 1 [[tI a0], [tI a1], [tI a2], [tI a3], [tI a4], [tI a5], [tI a6], [tI a7], [tI a8]])], [], []⟩)) (hl : Good P md fl l) : Good P md fl ((f, gVals) :: l) := .cons (fun xs ps h => by
 unfold gVals at h ⊢
 split at h
 ·exact hb _ _ _ _ _ _ _ _ _
 ·cases h) hl
theorem good_Nums (hb : ∀ a0 a1 a2 a3 a4 a5 a6 a7 a8 : Int, body lp0 (EE P md fl l) f [.pt (nPO 0) 0 0 0] [.box true [tI a0, tI a1, tI a2, tI a3, tI a4, tI a5, tI a6, tI a7, tI a8]] = some (.ret ⟨[.c (.sl .own 1 [[tI a0], [tI a1], [tI a2], [tI a3], [tI a4], [tI a5], [tI a6], [tI a7], [tI a8]])], [], [.box true []]⟩)) (hl : Good P md fl l) : Good P md fl ((f, gNums) :: l) := .cons (fun xs ps h => by
 unfold gNums at h ⊢
 split at h
 ·rw [Bool.and_eq_true] at h
  obtain rfl := beq_eq h.1
  obtain rfl := beq_eq h.2
  exact hb _ _ _ _ _ _ _ _ _
 ·cases h) hl
theorem good_SetT (hb : ∀ {ts : List T}, shR kSetup ts = true → body lp0 (EE P md fl l) f [.ag ts] [] = some (.ret ⟨[aS (sSetT ts), aB (mSetupOk ts)], [], []⟩)) (hl : Good P md fl l) : Good P md fl ((f, gSetT) :: l) := .cons (fun xs ps h => by
 unfold gSetT at h ⊢
 split at h
 ·rw [Bool.and_eq_true, sShR_eq] at h; exact hb h.2
 ·cases h) hl
end
theorem b_decimal {n : Int} (h : sIn64 n = true) : body lp0 ET52 29 [aI n] [] = some (.ret ⟨[aS (sItoa n)], [], []⟩) := by rw [nf_29, h]; rfl
theorem b_vals (a0 a1 a2 a3 a4 a5 a6 a7 a8 : Int) : body lp0 ET55 25 [.ag [tI a0, tI a1, tI a2, tI a3, tI a4, tI a5, tI a6, tI a7, tI a8]] [] = some (.ret ⟨[.c (.sl .own 1 [[tI a0], [tI a1], [tI a2], [tI a3], [tI a4], [tI a5], [tI a6], [tI a7], [tI a8]])], [], []⟩) := nf_25 ..
theorem b_nums (a0 a1 a2 a3 a4 a5 a6 a7 a8 : Int) : body lp0 ET56 28 [.pt (nPO 0) 0 0 0] [.box true [tI a0, tI a1, tI a2, tI a3, tI a4, tI a5, tI a6, tI a7, tI a8]] = some (.ret ⟨[.c (.sl .own 1 [[tI a0], [tI a1], [tI a2], [tI a3], [tI a4], [tI a5], [tI a6], [tI a7], [tI a8]])], [], [.box true []]⟩) := nf_28 ..
theorem byte48 {d : Nat} (h : d < 10) : sWrap .u8 (sAdd .i64 48 (d : Int)) = ((48 + d : Nat) : Int) := by
 rw [sWrap_eq, sAdd_eq, wrap64 (by omega) (by omega)]
 have : (48 + (d : Int)) % 256 = 48 + d := by omega
 unfold IntKind.wrap
 simp [IntKind.bits, IntKind.signed]
 omega
theorem str1 (c : Nat) : sStr [[.im (.int .u8 (c : Int))]] = ⟨[UInt8.ofNat c].toArray⟩ := by rw [sStr_eq]; rfl
theorem bytes1 (c : Int) : sBytesOk [[.im (.int .u8 c)]] = true := by rw [sBytesOk_eq]; rfl
theorem fitN {n : Nat} (h : n ≤ 1000000) : sFit n = true := by rw [sFit_eq, Nat.blt_eq]; omega
theorem b_num {n : Int} (h : sIn64 n = true) : body lp0 ET53 26 [aI n] [] = some (.ret ⟨[aS (sItoa n)], [], []⟩) := by
 rw [sIn64_eq, Bool.and_eq_true, decide_eq_true_eq, decide_eq_true_eq] at h
 rw [nf_26, sEq_eq]
 by_cases h0 : n = 0
 ·subst h0
  rw [sItoa_eq, Lib.itoa, if_neg (by decide), show (0 : Int).toNat = 0 from rfl, Lib.decDigits_one (by decide)]; rfl
 ·rw [decide_eq_false h0, cond_false]
  have hN : Lib.nDigits n.natAbs ≤ 19 := nDig_le 18 _ (by omega)
  rw [lp0_for0 (fun k => [tI (xk n k), .im (.string ⟨(dl k n.natAbs).toArray⟩)]) (Lib.nDigits n.natAbs) (x := [tI 0, .im (.string ⟨(Lib.decDigits n.natAbs).toArray⟩)]) (by rw [xk0]; rfl) (fun k hk => ?step) ?fin]
  case fin => simp only [tAt0, tAt1, iT_im, okT_i, okT_str, sT_im, xk_end, dl_all, sEq_rfl, Bool.and_true, Bool.not_true, cond_true, cond_false]
  case step =>
   have hne := xk_ne h0 hk
   have hr := xk_rem n k
   have hd : n.natAbs / 10 ^ k % 10 < 10 := Nat.mod_lt _ (by decide)
   have hle := xk_le n k
   have q1 : sEq (xk n k) 0 = false := by rw [sEq_eq]; exact decide_eq_false hne
   have q2 : sEq 10 0 = false := by rw [sEq_eq]; rfl
   have q3 : sQuo .i64 (xk n k) 10 = xk n (k + 1) := by
    rw [sQuo_eq, xk_quo]
    have := xk_le1 n k
    exact wrap64 (by omega) (by omega)
   have q4 : sFit ((⟨[UInt8.ofNat (48 + n.natAbs / 10 ^ k % 10)].toArray⟩ : ByteArray).size + (⟨(dl k n.natAbs).toArray⟩ : ByteArray).size) = true := fitN (by rw [bsz, bsz, dl_len, List.length_singleton]; omega)
   have q5 : sCat ⟨[UInt8.ofNat (48 + n.natAbs / 10 ^ k % 10)].toArray⟩ ⟨(dl k n.natAbs).toArray⟩ = ⟨(dl (k + 1) n.natAbs).toArray⟩ := by rw [scat, dl_succ]; rfl
   simp only [tAt0, tAt1, iT_im, okT_i, okT_str, sT_im, Bool.and_true, Bool.not_false, cond_true, q1, q2, q3, bytes1]
   rw [sRem_eq, hr]
   by_cases hn : n < 0
   ·rw [if_pos hn]
    by_cases hz : n.natAbs / 10 ^ k % 10 = 0
    ·rw [hz] at q4 q5 ⊢
     rw [show (-((0 : Nat) : Int)) = ((0 : Nat) : Int) from rfl]
     have l0 : sLt ((0 : Nat) : Int) 0 = false := by rw [sLt_eq]; rfl
     simp only [l0, cond_false, byte48 (d := 0) (by decide), str1, q4, q5, cond_true]
    ·have l0 : sLt (-((n.natAbs / 10 ^ k % 10 : Nat) : Int)) 0 = true := by rw [sLt_eq]; exact decide_eq_true (by omega)
     have l1 : sNeg .i64 (-((n.natAbs / 10 ^ k % 10 : Nat) : Int)) = ((n.natAbs / 10 ^ k % 10 : Nat) : Int) := by
      rw [sNeg_eq]
      generalize n.natAbs / 10 ^ k % 10 = d at hd
      rw [wrap64 (by omega) (by omega)]; omega
     simp only [l0, l1, cond_true, byte48 hd, str1, q4, q5]
   ·rw [if_neg hn]
    have l0 : sLt ((n.natAbs / 10 ^ k % 10 : Nat) : Int) 0 = false := by rw [sLt_eq]; exact decide_eq_false (by omega)
    simp only [l0, cond_false, cond_true, byte48 hd, str1, q4, q5]
  have f1 : sFit ((⟨⟨[45]⟩⟩ : ByteArray).size + (⟨(Lib.decDigits n.natAbs).toArray⟩ : ByteArray).size) = true := fitN (by rw [bsz, bsz, Lib.decDigits_length]; show 1 + _ ≤ _; omega)
  have c1 : sCat ⟨⟨[45]⟩⟩ ⟨(Lib.decDigits n.natAbs).toArray⟩ = ⟨(45 :: Lib.decDigits n.natAbs).toArray⟩ := scat [45] _
  simp only [Option.elim_some, LRes.elim', tAt0, tAt1, iT_im, okT_i, okT_str, sT_im, Bool.and_true, cond_true, f1, c1, sItoa_eq, Lib.itoa, sLt_eq]
  by_cases hn : n < 0
  ·rw [decide_eq_true hn, if_pos hn]; rfl
  ·rw [decide_eq_false hn, if_neg hn, show n.toNat = n.natAbs by omega]; rfl
theorem setup_nums {a0 a1 a2 a3 a4 a5 a6 a7 a8 : Int} (h : mSetupOk [tI a0, tI a1, tI a2, tI a3, tI a4, tI a5, tI a6, tI a7, tI a8] = true) : ∀ v ∈ [a0, a1, a2, a3, a4, a5, a6, a7, a8], 0 ≤ v ∧ v ≤ 1000 := by
 rw [mSetupOk_eq] at h
 simp only [Bool.and_eq_true, mIn_eq, decide_eq_true_eq, cI0, cI1, cI2, cI3, cI4, cI5, cI6, cI7, cI8] at h
 simp only [List.mem_cons, List.not_mem_nil, or_false]
 omega
theorem setT_ok {a0 a1 a2 a3 a4 a5 a6 a7 a8 : Int} (h : mSetupOk [tI a0, tI a1, tI a2, tI a3, tI a4, tI a5, tI a6, tI a7, tI a8] = true) : sSetT [tI a0, tI a1, tI a2, tI a3, tI a4, tI a5, tI a6, tI a7, tI a8] = ⟨(jL [a0, a1, a2, a3, a4, a5, a6, a7, a8] 9).toArray⟩ := by
 rw [sSetT, sld_eq, setT, h, cond_true, jL]
 simp only [List.map_cons, List.map_nil, iT_im, List.take_succ_cons, List.take_zero]
theorem setT_no {ts : List T} (h : mSetupOk ts = false) : sSetT ts = ⟨⟨[]⟩⟩ := by rw [sSetT, sld_eq, setT, h]; rfl
theorem b_setT_spec {ts : List T} (h : shR kSetup ts = true) : body lp0 ET57 7 [.ag ts] [] = some (.ret ⟨[aS (sSetT ts), aB (mSetupOk ts)], [], []⟩) := by
 have hs : sShR kSetup ts = true := by rw [sShR_eq]; exact h
 obtain ⟨a0, a1, a2, a3, a4, a5, a6, a7, a8, rfl, _⟩ := row_Setup h
 rw [nf_7, hs, cond_true]
 cases hok : mSetupOk [tI a0, tI a1, tI a2, tI a3, tI a4, tI a5, tI a6, tI a7, tI a8] with
 | false => rw [setT_no hok]; rfl
 | true =>
  rw [setT_ok hok]
  have hv := setup_nums hok
  have hl : [a0, a1, a2, a3, a4, a5, a6, a7, a8].length = 9 := rfl
  rw [show ([[tI a0], [tI a1], [tI a2], [tI a3], [tI a4], [tI a5], [tI a6], [tI a7], [tI a8]] : List (List T)) = rowsI [a0, a1, a2, a3, a4, a5, a6, a7, a8] from rfl]
  generalize [a0, a1, a2, a3, a4, a5, a6, a7, a8] = V at hv hl
  have hm : ∀ v ∈ V, (Lib.itoa v).length ≤ 4 := fun v hm => itoa_len (hv v hm).1 (by have := (hv v hm).2; show v < 10000; omega)
  rw [rowsI_noRo, Bool.not_true, cond_false, Bool.and_true, cond_true]
  rw [lp0_for0 (fun i => [.im (.string ⟨(jL V i).toArray⟩), tI (i : Int)]) 9 (x := [.im (.string ⟨(jL V 9).toArray⟩), tI ((9 : Nat) : Int)]) (by rfl) (fun i hi => ?step) ?fin]
  case fin =>
   have t : sLt ((9 : Nat) : Int) (Int.ofNat 9) = false := by rw [sLt_eq]; rfl
   simp only [tAt0, tAt1, iT_im, okT_i, okT_str, sT_im, Bool.and_true, cond_true, cond_false, rowsI_len, hl, t]
  case step =>
   have hi' : i < V.length := by omega
   have t : sLt (i : Int) (Int.ofNat 9) = true := by rw [sLt_eq]; exact decide_eq_true (by show (i : Int) < ((9 : Nat) : Int); omega)
   have t2 : sLe 0 (i : Int) = true := by rw [sLe_eq]; exact decide_eq_true (by omega)
   have t3 : sAdd .i64 (i : Int) 1 = ((i + 1 : Nat) : Int) := by rw [sAdd_eq, wrap64 (by omega) (by omega)]; omega
   have hvi := hv V[i] (List.getElem_mem _)
   have hmi := hm V[i] (List.getElem_mem _)
   have hj := jL_len hm i (by omega)
   have n1 : sIn64 V[i] = true := in64 (by omega) (by omega)
   have c0 : sCat ⟨(jL V i).toArray⟩ ⟨⟨[32]⟩⟩ = ⟨(jL V i ++ [32]).toArray⟩ := scat _ [32]
   have f0 : sFit ((⟨(jL V i).toArray⟩ : ByteArray).size + (⟨⟨[32]⟩⟩ : ByteArray).size) = true := fitN (by rw [bsz]; show _ + 1 ≤ _; omega)
   have f1 : sFit ((⟨(jL V i ++ [32]).toArray⟩ : ByteArray).size + (⟨(Lib.itoa V[i]).toArray⟩ : ByteArray).size) = true := fitN (by rw [bsz, bsz, List.length_append, List.length_singleton]; omega)
   have f2 : sFit ((⟨(jL V i).toArray⟩ : ByteArray).size + (⟨(Lib.itoa V[i]).toArray⟩ : ByteArray).size) = true := fitN (by rw [bsz, bsz]; omega)
   simp only [tAt0, tAt1, iT_im, okT_i, okT_str, sT_im, Bool.and_true, cond_true, rowsI_len, hl, t, t2, t3, rowsI_okc hi', rowsI_cell hi', n1, sItoa_eq, c0, f0, f1, f2, scat]
   rw [jL_succ hi', sLt_eq]
   by_cases hz : i = 0
   ·subst hz
    rw [if_pos rfl, jL0]; rfl
   ·rw [if_neg hz, decide_eq_true (by omega)]; rfl
  simp only [Option.elim_some, LRes.elim', tAt0, tAt1, iT_im, okT_i, okT_str, sT_im, Bool.and_true, cond_true]
theorem b_setT_impl {ts : List T} (h : shR kSetup ts = true) : body lp0 ET58 9 [.ag ts] [] = some (.ret ⟨[aS (sSetT ts), aB (mSetupOk ts)], [], []⟩) := by
 have hs : sShR kSetup ts = true := by rw [sShR_eq]; exact h
 obtain ⟨a0, a1, a2, a3, a4, a5, a6, a7, a8, rfl, _⟩ := row_Setup h
 rw [nf_9, hs, cond_true]
 cases hok : mSetupOk [tI a0, tI a1, tI a2, tI a3, tI a4, tI a5, tI a6, tI a7, tI a8] with
 | false => rw [setT_no hok]; rfl
 | true =>
  rw [setT_ok hok]
  have hv := setup_nums hok
  have hl : [a0, a1, a2, a3, a4, a5, a6, a7, a8].length = 9 := rfl
  rw [show ([[tI a0], [tI a1], [tI a2], [tI a3], [tI a4], [tI a5], [tI a6], [tI a7], [tI a8]] : List (List T)) = rowsI [a0, a1, a2, a3, a4, a5, a6, a7, a8] from rfl]
  generalize [a0, a1, a2, a3, a4, a5, a6, a7, a8] = V at hv hl
  have hm : ∀ v ∈ V, (Lib.itoa v).length ≤ 4 := fun v hm => itoa_len (hv v hm).1 (by have := (hv v hm).2; show v < 10000; omega)
  rw [rowsI_noRo, Bool.not_true, cond_false, Bool.and_true, cond_true]
  have wl : ∀ i, i ≤ 9 → (wordsI V i).length = i := fun i hi => by rw [wordsI, List.length_map, List.length_take]; omega
  rw [lp0_for0 (fun i => [.sl .own 1 (wordsI V i), tI (Int.ofNat (sLen (wordsI V i))), tI (i : Int)]) 9 (x := [.sl .own 1 (wordsI V 9), tI (Int.ofNat (sLen (wordsI V 9))), tI ((9 : Nat) : Int)]) (by rw [sLen_eq]; rfl) (fun i hi => ?step) ?fin]
  case fin =>
   have t : sLt ((9 : Nat) : Int) (Int.ofNat 9) = false := by rw [sLt_eq]; rfl
   simp only [tAt0, tAt1, tAt2, iT_im, rT_sl, okT_i, okT_s, Bool.and_true, cond_true, cond_false, rowsI_len, hl, t]; rfl
  case step =>
   have hi' : i < V.length := by omega
   have t : sLt (i : Int) (Int.ofNat 9) = true := by rw [sLt_eq]; exact decide_eq_true (by show (i : Int) < ((9 : Nat) : Int); omega)
   have t2 : sLe 0 (i : Int) = true := by rw [sLe_eq]; exact decide_eq_true (by omega)
   have t3 : sAdd .i64 (i : Int) 1 = ((i + 1 : Nat) : Int) := by rw [sAdd_eq, wrap64 (by omega) (by omega)]; omega
   have hvi := hv V[i] (List.getElem_mem _)
   have n1 : sIn64 V[i] = true := in64 (by omega) (by omega)
   have fl : sFlat [[.im (.string (sItoa V[i]))]] = true := by rw [sFlat_eq]; rfl
   have ft : sFit (sLen (wordsI V i) + sLen [[.im (.string (sItoa V[i]))]]) = true := fitN (by rw [sLen_eq, sLen_eq, wl i (by omega)]; show i + 1 ≤ _; omega)
   simp only [tAt0, tAt1, tAt2, iT_im, rT_sl, okT_i, okT_s, Bool.and_true, cond_true, rowsI_len, hl, t, t2, t3, rowsI_okc hi', rowsI_cell hi', n1, fl, ft, sApp_eq, ← wordsI_succ hi']
  have pj : pJoin (wordsI V 9) ⟨⟨[32]⟩⟩ = true := by
   have := jL_len hm 9 (by omega)
   rw [pJoin_eq, wordsI_str, wl 9 (by omega), wordsI_join, decide_eq_true (by decide), decide_eq_true (by omega)]; rfl
  simp only [Option.elim_some, LRes.elim', tAt0, tAt1, tAt2, iT_im, rT_sl, okT_i, okT_s, Bool.and_true, cond_true, pj, sJoin_eq, wordsI_join]
theorem good52 : Good Go.Proofs.Tryd.prog md0 (fun _ => .own) TL52 := good_Itoa (by rfl) good51
theorem good53 : Good Go.Proofs.Tryd.prog md0 (fun _ => .own) TL53 := good_Num (fun h => b_decimal h) good52
theorem good54 : Good Go.Proofs.Tryd.prog md0 (fun _ => .own) TL54 := good_Num (fun h => b_num h) good53
theorem good55 : Good Go.Proofs.Tryd.prog md0 (fun _ => .own) TL55 := good_Join (by rfl) good54
theorem good56 : Good Go.Proofs.Tryd.prog md0 (fun _ => .own) TL56 := good_Vals (b_vals) good55
theorem good57 : Good Go.Proofs.Tryd.prog md0 (fun _ => .own) TL57 := good_Nums (b_nums) good56
theorem good58 : Good Go.Proofs.Tryd.prog md0 (fun _ => .own) TL58 := good_SetT (fun h => b_setT_spec h) good57
theorem good59 : Good Go.Proofs.Tryd.prog md0 (fun _ => .own) TL59 := good_SetT (fun h => b_setT_impl h) good58

end Go.Vm
