/- a new engine: each function -/
import Derived.Test.YtmfbonhdjpmbkaaMkB
import Derived.Test.YtmfbonhdjpmbkaaOkB
import Derived.Test.YtmfbonhdjpmbkaaDa5
import Derived.Test.YtmfbonhdjpmbkaaNEN
namespace Go.Vm
set_option linter.unusedVariables false
set_option linter.unusedSimpArgs false
theorem sI_eq (b : Bool) (x : Int) : sI b x = bif b then x else 0 := by rw [sI, sld_eq]
theorem sNeS_eq (b : Bool) (n : Int) : sNeS b n = bif b then List.replicate n.toNat [.sl .own 5 []] else [] := by rw [sNeS, sld_eq]
theorem sNeH_eq (b : Bool) (n : Int) : sNeH b n = bif b then List.replicate n.toNat [.sl .own 6 [], tI (-1), tI 0, tI 0] else [] := by rw [sNeH, sld_eq]
theorem sNeM_eq (b : Bool) (n : Int) : sNeM b n = bif b then List.replicate n.toNat [tI (-1)] else [] := by rw [sNeM, sld_eq]
section
variable {P : Program} {md : FuncId → Option (List Mode)} {fl : FuncId → Fl} {l : List (Nat × GFn)} {f : Nat}
theorem good_NewShard (hb : body lp0 (EE P md fl l) f [] [] = some (.ret ⟨[.ag [.sl .own 6 [], tI (-1), tI 0, tI 0]], [], []⟩)) (hl : Good P md fl l) : Good P md fl ((f, gNewShard) :: l) := .cons (fun xs ps h => by
  unfold gNewShard at h ⊢
  split at h
  · exact hb
  · cases h) hl
noncomputable def oNew (a0 a1 a2 a3 a4 a5 a6 a7 a8 : Int) : Out := ⟨[.ag [tI (sI (mSetupOk [tI a0, tI a1, tI a2, tI a3, tI a4, tI a5, tI a6, tI a7, tI a8]) a0), tI (sI (mSetupOk [tI a0, tI a1, tI a2, tI a3, tI a4, tI a5, tI a6, tI a7, tI a8]) a1), tI (sI (mSetupOk [tI a0, tI a1, tI a2, tI a3, tI a4, tI a5, tI a6, tI a7, tI a8]) a2), tI (sI (mSetupOk [tI a0, tI a1, tI a2, tI a3, tI a4, tI a5, tI a6, tI a7, tI a8]) a3), tI (sI (mSetupOk [tI a0, tI a1, tI a2, tI a3, tI a4, tI a5, tI a6, tI a7, tI a8]) a4), tI (sI (mSetupOk [tI a0, tI a1, tI a2, tI a3, tI a4, tI a5, tI a6, tI a7, tI a8]) a5), tI (sI (mSetupOk [tI a0, tI a1, tI a2, tI a3, tI a4, tI a5, tI a6, tI a7, tI a8]) a6), tI (sI (mSetupOk [tI a0, tI a1, tI a2, tI a3, tI a4, tI a5, tI a6, tI a7, tI a8]) a7), tI (sI (mSetupOk [tI a0, tI a1, tI a2, tI a3, tI a4, tI a5, tI a6, tI a7, tI a8]) a8), tI 0, tI 0, .sl .own 7 [], .sl .own 5 [], .sl .own 1 (sNeS (mSetupOk [tI a0, tI a1, tI a2, tI a3, tI a4, tI a5, tI a6, tI a7, tI a8]) a1), .sl .own 4 (sNeH (mSetupOk [tI a0, tI a1, tI a2, tI a3, tI a4, tI a5, tI a6, tI a7, tI a8]) a1), .sl .own 6 [], tI (sI (mSetupOk [tI a0, tI a1, tI a2, tI a3, tI a4, tI a5, tI a6, tI a7, tI a8]) (-1)), .sl .own 1 (sNeM (mSetupOk [tI a0, tI a1, tI a2, tI a3, tI a4, tI a5, tI a6, tI a7, tI a8]) a1), tI 0, tI 0, tI 0, tI 0, tI 0, tI 0], aB (mSetupOk [tI a0, tI a1, tI a2, tI a3, tI a4, tI a5, tI a6, tI a7, tI a8])], [], []⟩
theorem good_NewEngine (hb : ∀ a0 a1 a2 a3 a4 a5 a6 a7 a8 : Int, body lp0 (EE P md fl l) f [.ag [tI a0, tI a1, tI a2, tI a3, tI a4, tI a5, tI a6, tI a7, tI a8]] [] = some (.ret (oNew a0 a1 a2 a3 a4 a5 a6 a7 a8))) (hl : Good P md fl l) : Good P md fl ((f, gNewEngine) :: l) := .cons (fun xs ps h => by
  unfold gNewEngine at h ⊢
  split at h
  · exact hb _ _ _ _ _ _ _ _ _
  · cases h) hl
end
theorem b_newShard_spec : body lp0 ET84 90 [] [] = some (.ret ⟨[.ag [.sl .own 6 [], tI (-1), tI 0, tI 0]], [], []⟩) := nf_90 lp0
theorem b_newShard_impl : body lp0 ET85 92 [] [] = some (.ret ⟨[.ag [.sl .own 6 [], tI (-1), tI 0, tI 0]], [], []⟩) := nf_92 lp0
theorem shSetup (a0 a1 a2 a3 a4 a5 a6 a7 a8 : Int) : sShR kSetup [tI a0, tI a1, tI a2, tI a3, tI a4, tI a5, tI a6, tI a7, tI a8] = true := by rw [sShR_eq]; simp [shR, shT]
theorem set1 {a0 a1 a2 a3 a4 a5 a6 a7 a8 : Int} (h : mSetupOk [tI a0, tI a1, tI a2, tI a3, tI a4, tI a5, tI a6, tI a7, tI a8] = true) : ∃ n : Nat, a1 = (n : Int) ∧ n ≤ 4 := by
  rw [mSetupOk_eq] at h
  simp only [Bool.and_eq_true, mIn_eq, decide_eq_true_eq] at h
  have h1 := h.1.1.1.1.1.1.1.2
  have e : cI [tI a0, tI a1, tI a2, tI a3, tI a4, tI a5, tI a6, tI a7, tI a8] 1 = a1 := by unfold cI; exact iT_im _ _
  rw [e] at h1
  exact ⟨a1.toNat, by omega, by omega⟩
theorem rep_succ {α : Type} (i : Nat) (x : α) : List.replicate i x ++ [x] = List.replicate (i + 1) x := by rw [List.replicate_succ']
theorem b_newEngine_spec (a0 a1 a2 a3 a4 a5 a6 a7 a8 : Int) : body lp0 ET86 40 [.ag [tI a0, tI a1, tI a2, tI a3, tI a4, tI a5, tI a6, tI a7, tI a8]] [] = some (.ret (oNew a0 a1 a2 a3 a4 a5 a6 a7 a8)) := by
  rw [nf_40, shSetup, cond_true]
  unfold oNew
  cases hok : mSetupOk [tI a0, tI a1, tI a2, tI a3, tI a4, tI a5, tI a6, tI a7, tI a8] with
  | false =>
    simp only [Bool.not_false, cond_true, sI_eq, sNeS_eq, sNeH_eq, sNeM_eq, cond_false]
  | true =>
    obtain ⟨n, rfl, hn⟩ := set1 hok
    simp only [Bool.not_true, cond_false, sI_eq, sNeS_eq, sNeH_eq, sNeM_eq, cond_true, Int.toNat_natCast, sEq_rfl, le_0', Bool.true_and, Bool.and_true]
    rw [lp0_for0 (fun i => [tI a0, tI (n : Int), tI a2, tI a3, tI a4, tI a5, tI a6, tI a7, tI a8, tI 0, tI 0, tI (Int.ofNat 0), tI (Int.ofNat 0), tI (Int.ofNat i), tI (Int.ofNat i), tI (Int.ofNat 0), tI (Int.negSucc 0), tI (Int.ofNat i), tI 0, tI 0, tI 0, tI 0, tI 0, tI 0, .sl .own 7 [], .sl .own 5 [], .sl .own 1 (List.replicate i [.sl .own 5 []]), .sl .own 4 (List.replicate i [.sl .own 6 [], tI (Int.negSucc 0), tI (Int.ofNat 0), tI (Int.ofNat 0)]), .sl .own 6 [], .sl .own 1 (List.replicate i [tI (Int.negSucc 0)]), tI (i : Int)]) n (by rfl) (fun i hi => ?_) (x := [tI a0, tI (n : Int), tI a2, tI a3, tI a4, tI a5, tI a6, tI a7, tI a8, tI 0, tI 0, tI (Int.ofNat 0), tI (Int.ofNat 0), tI (Int.ofNat n), tI (Int.ofNat n), tI (Int.ofNat 0), tI (Int.negSucc 0), tI (Int.ofNat n), tI 0, tI 0, tI 0, tI 0, tI 0, tI 0, .sl .own 7 [], .sl .own 5 [], .sl .own 1 (List.replicate n [.sl .own 5 []]), .sl .own 4 (List.replicate n [.sl .own 6 [], tI (Int.negSucc 0), tI (Int.ofNat 0), tI (Int.ofNat 0)]), .sl .own 6 [], .sl .own 1 (List.replicate n [tI (Int.negSucc 0)]), tI (n : Int)]) ?_]
    · simp only [Option.elim_some, LRes.elim', tAt0, tAtS, okT_i, okT_s, rT_sl, iT_im, Bool.and_true, cond_true]
      rfl
    · have h1 : sLt (n : Int) (n : Int) = false := by rw [sLt_eq]; exact decide_eq_false (by omega)
      simp only [tAt0, tAtS, okT_i, okT_s, rT_sl, iT_im, Bool.and_true, Bool.true_and, cond_true, cond_false, h1]
      rfl
    · have h1 : sLt (i : Int) (n : Int) = true := by rw [sLt_eq]; exact decide_eq_true (by omega)
      have h2 : ∀ {r : List T}, sFit (i + sLen [r]) = true := fun {r} => by rw [sFit_eq, sLen_eq]; exact Nat.ble_eq_true_of_le (by show i + 1 + 1 ≤ 4294967296; omega)
      have h3 : sFlat [[tI (Int.negSucc 0)]] = true := by rw [sFlat_eq]; rfl
      have h4 : ∀ {r : List T}, sLen (List.replicate i r) = i := fun {r} => by rw [sLen_eq, List.length_replicate]
      have h5 : ∀ {r : List T}, sLen (List.replicate (i + 1) r) = i + 1 := fun {r} => by rw [sLen_eq, List.length_replicate]
      simp only [tAt0, tAtS, okT_i, okT_s, rT_sl, iT_im, Bool.and_true, Bool.true_and, cond_true, h1, h2, h3, sApp_eq, rep_succ, h4, h5, add1i (show i < reachBytes from Nat.lt_of_lt_of_le hi (Nat.le_trans hn (by decide)))]
      rfl
theorem b_newEngine_impl (a0 a1 a2 a3 a4 a5 a6 a7 a8 : Int) : body lp0 ET87 42 [.ag [tI a0, tI a1, tI a2, tI a3, tI a4, tI a5, tI a6, tI a7, tI a8]] [] = some (.ret (oNew a0 a1 a2 a3 a4 a5 a6 a7 a8)) := by
  rw [nf_42, shSetup, cond_true]
  unfold oNew
  cases hok : mSetupOk [tI a0, tI a1, tI a2, tI a3, tI a4, tI a5, tI a6, tI a7, tI a8] with
  | false =>
    simp only [Bool.not_false, cond_true, sI_eq, sNeS_eq, sNeH_eq, sNeM_eq, cond_false]
  | true =>
    obtain ⟨n, rfl, hn⟩ := set1 hok
    simp only [Bool.not_true, cond_false, sI_eq, sNeS_eq, sNeH_eq, sNeM_eq, cond_true, Int.toNat_natCast, sEq_rfl, le_0', Bool.true_and, Bool.and_true, show sLt (n : Int) 4294967296 = true from (by rw [sLt_eq]; exact decide_eq_true (by omega)), sRep_eq]
    rw [lp0_for0 (fun i => [tI a0, tI (n : Int), tI a2, tI a3, tI a4, tI a5, tI a6, tI a7, tI a8, tI 0, tI 0, tI (Int.ofNat 0), tI (Int.ofNat 0), tI (Int.ofNat n), tI (Int.ofNat i), tI (Int.ofNat 0), tI (Int.negSucc 0), tI (Int.ofNat i), tI 0, tI 0, tI 0, tI 0, tI 0, tI 0, .sl .own 7 [], .sl .own 5 [], .sl .own 1 (List.replicate n [.sl .own 5 []]), .sl .own 4 (List.replicate i [.sl .own 6 [], tI (Int.negSucc 0), tI (Int.ofNat 0), tI (Int.ofNat 0)]), .sl .own 6 [], .sl .own 1 (List.replicate i [tI (Int.negSucc 0)]), tI (i : Int)]) n (by rfl) (fun i hi => ?_) (x := [tI a0, tI (n : Int), tI a2, tI a3, tI a4, tI a5, tI a6, tI a7, tI a8, tI 0, tI 0, tI (Int.ofNat 0), tI (Int.ofNat 0), tI (Int.ofNat n), tI (Int.ofNat n), tI (Int.ofNat 0), tI (Int.negSucc 0), tI (Int.ofNat n), tI 0, tI 0, tI 0, tI 0, tI 0, tI 0, .sl .own 7 [], .sl .own 5 [], .sl .own 1 (List.replicate n [.sl .own 5 []]), .sl .own 4 (List.replicate n [.sl .own 6 [], tI (Int.negSucc 0), tI (Int.ofNat 0), tI (Int.ofNat 0)]), .sl .own 6 [], .sl .own 1 (List.replicate n [tI (Int.negSucc 0)]), tI (n : Int)]) ?_]
    · simp only [Option.elim_some, LRes.elim', tAt0, tAtS, okT_i, okT_s, rT_sl, iT_im, Bool.and_true, cond_true]
      rfl
    · have h1 : sLt (n : Int) (n : Int) = false := by rw [sLt_eq]; exact decide_eq_false (by omega)
      simp only [tAt0, tAtS, okT_i, okT_s, rT_sl, iT_im, Bool.and_true, Bool.true_and, cond_true, cond_false, h1]
      rfl
    · have h1 : sLt (i : Int) (n : Int) = true := by rw [sLt_eq]; exact decide_eq_true (by omega)
      have h2 : ∀ {r : List T}, sFit (i + sLen [r]) = true := fun {r} => by rw [sFit_eq, sLen_eq]; exact Nat.ble_eq_true_of_le (by show i + 1 + 1 ≤ 4294967296; omega)
      have h3 : sFlat [[tI (Int.negSucc 0)]] = true := by rw [sFlat_eq]; rfl
      have h4 : ∀ {r : List T}, sLen (List.replicate i r) = i := fun {r} => by rw [sLen_eq, List.length_replicate]
      have h5 : ∀ {r : List T}, sLen (List.replicate (i + 1) r) = i + 1 := fun {r} => by rw [sLen_eq, List.length_replicate]
      simp only [tAt0, tAtS, okT_i, okT_s, rT_sl, iT_im, Bool.and_true, Bool.true_and, cond_true, h1, h2, h3, sApp_eq, rep_succ, h4, h5, add1i (show i < reachBytes from Nat.lt_of_lt_of_le hi (Nat.le_trans hn (by decide)))]
      rfl
theorem good85 : Good Go.Proofs.Try.prog md0 (fun _ => .own) TL85 := good_NewShard (b_newShard_spec) good84
theorem good86 : Good Go.Proofs.Try.prog md0 (fun _ => .own) TL86 := good_NewShard (b_newShard_impl) good85
theorem good87 : Good Go.Proofs.Try.prog md0 (fun _ => .own) TL87 := good_NewEngine (b_newEngine_spec) good86
theorem good88 : Good Go.Proofs.Try.prog md0 (fun _ => .own) TL88 := good_NewEngine (b_newEngine_impl) good87

theorem mixed : Go.Proofs.Try.prog.follows .mixedOrders = true := by kernel_rfl
theorem sEqR_rfl (a : List T) : sEqR a a = true := sEqR_iff.2 rfl
theorem sMk_nil (k : Int) : sMk [] k = [] := by rw [sMk_eq]; simp [mkRs]
theorem sMkN_nil (k : Int) : sMkN [] k = k := by rw [sMkN_eq]; simp [mkRs]
structure Sm (row : List KT) (rs : List (List T)) : Prop where
  sh : shRs row rs = true
  ao : aoRs rs = true
  le : lenRs 1048576 rs = true
  ln : rs.length ≤ 1048576
  cn : cnRs rs ≤ 1000
theorem sm_nil (row : List KT) : Sm row [] := ⟨by unfold shRs; rfl, by unfold aoRs; rfl, by unfold lenRs; rfl, by simp, by simp [cnRs]⟩
theorem sm_rep {row : List KT} {r : List T} (n : Nat) (hn : n ≤ 4) (h1 : shR row r = true) (h2 : aoR r = true) (h3 : lenR 1048576 r = true) (h4 : cnR r ≤ 100) : Sm row (List.replicate n r) := by
  have key : ∀ n, n ≤ 4 → shRs row (List.replicate n r) = true ∧ aoRs (List.replicate n r) = true ∧ lenRs 1048576 (List.replicate n r) = true ∧ cnRs (List.replicate n r) ≤ 100 * n := by
    intro n
    induction n with
    | zero => intro _; refine ⟨?_, ?_, ?_, ?_⟩ <;> simp [shRs, aoRs, lenRs, cnRs]
    | succ n ih =>
      intro hn
      obtain ⟨i1, i2, i3, i4⟩ := ih (by omega)
      rw [List.replicate_succ]
      exact ⟨by rw [shRs, h1, i1]; rfl, by rw [aoRs, h2, i2]; rfl, by rw [lenRs, h3, i3]; rfl, by rw [cnRs]; omega⟩
  obtain ⟨i1, i2, i3, i4⟩ := key n hn
  exact ⟨i1, i2, i3, by rw [List.length_replicate]; omega, by omega⟩
theorem Sm.pMk {row : List KT} {rs : List (List T)} (h : Sm row rs) (k : Int) : pMk row rs k = true := by
  rw [pMk_eq, h.sh, h.ao, h.le, decide_eq_true h.ln]; rfl
theorem Sm.noRo {row : List KT} {rs : List (List T)} (h : Sm row rs) (sz : Nat) : sNoRo (.sl .own sz rs) = true := by
  rw [sNoRo_eq, T.noRo]; exact aoRs_noRo h.ao
theorem sm_models (a0 a1 a2 a3 a4 a5 a6 a7 a8 : Int) : Sm [.sl kMsg] (sNeS (mSetupOk [tI a0, tI a1, tI a2, tI a3, tI a4, tI a5, tI a6, tI a7, tI a8]) a1) ∧ Sm kShard (sNeH (mSetupOk [tI a0, tI a1, tI a2, tI a3, tI a4, tI a5, tI a6, tI a7, tI a8]) a1) ∧ Sm [kI] (sNeM (mSetupOk [tI a0, tI a1, tI a2, tI a3, tI a4, tI a5, tI a6, tI a7, tI a8]) a1) := by
  cases hok : mSetupOk [tI a0, tI a1, tI a2, tI a3, tI a4, tI a5, tI a6, tI a7, tI a8] with
  | false => rw [sNeS_eq, sNeH_eq, sNeM_eq]; exact ⟨sm_nil _, sm_nil _, sm_nil _⟩
  | true =>
    obtain ⟨n, rfl, hn⟩ := set1 hok
    rw [sNeS_eq, sNeH_eq, sNeM_eq]
    simp only [cond_true, Int.toNat_natCast]
    refine ⟨sm_rep n hn ?_ ?_ ?_ ?_, sm_rep n hn ?_ ?_ ?_ ?_, sm_rep n hn ?_ ?_ ?_ ?_⟩ <;> simp [shR, shT, shRs, aoR, aoT, aoRs, lenR, lenT, lenRs, cnR, cnT, cnRs]
theorem b_L (a0 a1 a2 a3 a4 a5 a6 a7 a8 : Int) : body lp0 ET88 11 [.ag [tI a0, tI a1, tI a2, tI a3, tI a4, tI a5, tI a6, tI a7, tI a8]] [] = some (.ret (oB true)) := by
  rw [nf_11]
  obtain ⟨hS, hH, hM⟩ := sm_models a0 a1 a2 a3 a4 a5 a6 a7 a8
  generalize sNeS (mSetupOk [tI a0, tI a1, tI a2, tI a3, tI a4, tI a5, tI a6, tI a7, tI a8]) a1 = S at hS ⊢
  generalize sNeH (mSetupOk [tI a0, tI a1, tI a2, tI a3, tI a4, tI a5, tI a6, tI a7, tI a8]) a1 = H at hH ⊢
  generalize sNeM (mSetupOk [tI a0, tI a1, tI a2, tI a3, tI a4, tI a5, tI a6, tI a7, tI a8]) a1 = M at hM ⊢
  have p1 : pToR kSetup [tI a0, tI a1, tI a2, tI a3, tI a4, tI a5, tI a6, tI a7, tI a8] = true := by rw [pToR_eq]; simp [shR, shT, lenR, lenT]
  have q1 : ∀ {row : List KT} {k : Int}, pMk row [] k = true := fun {row k} => (sm_nil row).pMk k
  have q2 : ∀ {sz : Nat}, sNoRo (.sl .own sz []) = true := fun {sz} => (sm_nil []).noRo sz
  have c1 := hS.cn
  have c2 := hH.cn
  have c3 := hM.cn
  have k1 : sMkN S 1 = 1 + cnRs S := sMkN_cn (by omega) (by omega)
  have k2 : sMkN H (sMkN S 1) = sMkN S 1 + cnRs H := sMkN_cn (by omega) (by omega)
  have g0 : ∀ {row : List KT} {k : Int}, 0 ≤ k → k ≤ 100000 → pHe row [] k = true := fun {row k} h0 h1 => by
    have := pHe_mk (q1 (row := row) (k := k)) h0 (by simp [cnRs]; omega)
    rwa [sMk_nil] at this
  have e1 := g0 (row := kConn) (k := 1) (by omega) (by omega)
  have e2 := g0 (row := kMsg) (k := 1) (by omega) (by omega)
  have e3 := pHe_mk (hS.pMk 1) (by omega) (by omega)
  have e4 := pHe_mk (hH.pMk (sMkN S 1)) (by omega) (by omega)
  have e5 := g0 (row := kAggT) (k := sMkN H (sMkN S 1)) (by omega) (by omega)
  have e6 := pHe_mk (hM.pMk (sMkN H (sMkN S 1))) (by omega) (by omega)
  have e7 := he_ge e6
  rw [sMkN_idem] at e7
  have lm : ∀ {rs : List (List T)}, rs.length ≤ 1048576 → decide (rs.length ≤ reachBytes) = true := fun h => decide_eq_true (Nat.le_trans h (by decide))
  have lr : ∀ {rs : List (List T)}, lenRs 1048576 rs = true → lenRs reachBytes rs = true := fun h => lenRs_mono (by decide) h
  have p3 : pEqR kEngine [tI (sI (mSetupOk [tI a0, tI a1, tI a2, tI a3, tI a4, tI a5, tI a6, tI a7, tI a8]) a0), tI (sI (mSetupOk [tI a0, tI a1, tI a2, tI a3, tI a4, tI a5, tI a6, tI a7, tI a8]) a1), tI (sI (mSetupOk [tI a0, tI a1, tI a2, tI a3, tI a4, tI a5, tI a6, tI a7, tI a8]) a2), tI (sI (mSetupOk [tI a0, tI a1, tI a2, tI a3, tI a4, tI a5, tI a6, tI a7, tI a8]) a3), tI (sI (mSetupOk [tI a0, tI a1, tI a2, tI a3, tI a4, tI a5, tI a6, tI a7, tI a8]) a4), tI (sI (mSetupOk [tI a0, tI a1, tI a2, tI a3, tI a4, tI a5, tI a6, tI a7, tI a8]) a5), tI (sI (mSetupOk [tI a0, tI a1, tI a2, tI a3, tI a4, tI a5, tI a6, tI a7, tI a8]) a6), tI (sI (mSetupOk [tI a0, tI a1, tI a2, tI a3, tI a4, tI a5, tI a6, tI a7, tI a8]) a7), tI (sI (mSetupOk [tI a0, tI a1, tI a2, tI a3, tI a4, tI a5, tI a6, tI a7, tI a8]) a8), tI (Int.ofNat 0), tI (Int.ofNat 0), .sl .ro 7 [], .sl .ro 5 [], .sl .ro 1 (S), .sl .ro 4 (H), .sl .ro 6 [], tI (sI (mSetupOk [tI a0, tI a1, tI a2, tI a3, tI a4, tI a5, tI a6, tI a7, tI a8]) (Int.negSucc 0)), .sl .ro 1 (M), tI (Int.ofNat 0), tI (Int.ofNat 0), tI (Int.ofNat 0), tI (Int.ofNat 0), tI (Int.ofNat 0), tI (Int.ofNat 0)] = true := by
    rw [pEqR_eq]
    simp [shR, shT, lenR, lenT, hS.sh, hH.sh, hM.sh, lr hS.le, lr hH.le, lr hM.le, lm hS.ln, lm hH.ln, lm hM.ln, shRs, lenRs, of_decide_eq_true (lm hS.ln), of_decide_eq_true (lm hH.ln), of_decide_eq_true (lm hM.ln)]
  have p4 : pMkE kEngine [tI (sI (mSetupOk [tI a0, tI a1, tI a2, tI a3, tI a4, tI a5, tI a6, tI a7, tI a8]) a0), tI (sI (mSetupOk [tI a0, tI a1, tI a2, tI a3, tI a4, tI a5, tI a6, tI a7, tI a8]) a1), tI (sI (mSetupOk [tI a0, tI a1, tI a2, tI a3, tI a4, tI a5, tI a6, tI a7, tI a8]) a2), tI (sI (mSetupOk [tI a0, tI a1, tI a2, tI a3, tI a4, tI a5, tI a6, tI a7, tI a8]) a3), tI (sI (mSetupOk [tI a0, tI a1, tI a2, tI a3, tI a4, tI a5, tI a6, tI a7, tI a8]) a4), tI (sI (mSetupOk [tI a0, tI a1, tI a2, tI a3, tI a4, tI a5, tI a6, tI a7, tI a8]) a5), tI (sI (mSetupOk [tI a0, tI a1, tI a2, tI a3, tI a4, tI a5, tI a6, tI a7, tI a8]) a6), tI (sI (mSetupOk [tI a0, tI a1, tI a2, tI a3, tI a4, tI a5, tI a6, tI a7, tI a8]) a7), tI (sI (mSetupOk [tI a0, tI a1, tI a2, tI a3, tI a4, tI a5, tI a6, tI a7, tI a8]) a8), tI (Int.ofNat 0), tI (Int.ofNat 0), .sl .own 7 [], .sl .own 5 [], .sl .own 1 (S), .sl .own 4 (H), .sl .own 6 [], tI (sI (mSetupOk [tI a0, tI a1, tI a2, tI a3, tI a4, tI a5, tI a6, tI a7, tI a8]) (Int.negSucc 0)), .sl .own 1 (M), tI (Int.ofNat 0), tI (Int.ofNat 0), tI (Int.ofNat 0), tI (Int.ofNat 0), tI (Int.ofNat 0), tI (Int.ofNat 0)] = true := by
    rw [pMkE_eq]
    simp [shR, shT, aoR, aoT, hS.sh, hH.sh, hM.sh, hS.ao, hH.ao, hM.ao, shRs, aoRs]
  have p5 : pHeE kEngine [tI (sI (mSetupOk [tI a0, tI a1, tI a2, tI a3, tI a4, tI a5, tI a6, tI a7, tI a8]) a0), tI (sI (mSetupOk [tI a0, tI a1, tI a2, tI a3, tI a4, tI a5, tI a6, tI a7, tI a8]) a1), tI (sI (mSetupOk [tI a0, tI a1, tI a2, tI a3, tI a4, tI a5, tI a6, tI a7, tI a8]) a2), tI (sI (mSetupOk [tI a0, tI a1, tI a2, tI a3, tI a4, tI a5, tI a6, tI a7, tI a8]) a3), tI (sI (mSetupOk [tI a0, tI a1, tI a2, tI a3, tI a4, tI a5, tI a6, tI a7, tI a8]) a4), tI (sI (mSetupOk [tI a0, tI a1, tI a2, tI a3, tI a4, tI a5, tI a6, tI a7, tI a8]) a5), tI (sI (mSetupOk [tI a0, tI a1, tI a2, tI a3, tI a4, tI a5, tI a6, tI a7, tI a8]) a6), tI (sI (mSetupOk [tI a0, tI a1, tI a2, tI a3, tI a4, tI a5, tI a6, tI a7, tI a8]) a7), tI (sI (mSetupOk [tI a0, tI a1, tI a2, tI a3, tI a4, tI a5, tI a6, tI a7, tI a8]) a8), tI (Int.ofNat 0), tI (Int.ofNat 0), .sl .ro 7 [], .sl .ro 5 [], .sl .ro 1 (sMk S 1), .sl .ro 4 (sMk H (sMkN S 1)), .sl .ro 6 [], tI (sI (mSetupOk [tI a0, tI a1, tI a2, tI a3, tI a4, tI a5, tI a6, tI a7, tI a8]) (Int.negSucc 0)), .sl .ro 1 (sMk M (sMkN H (sMkN S 1))), tI (Int.ofNat 0), tI (Int.ofNat 0), tI (Int.ofNat 0), tI (Int.ofNat 0), tI (Int.ofNat 0), tI (Int.ofNat 0)] = true := by
    rw [pHeE_eq]
    simp [shR, shT, sMk_eq, mkRs_sh, hS.sh, hH.sh, hM.sh, shRs]
  have r1 : ∀ k, sNoRo (.sl .own 1 (sMk S k)) = true := fun k => noRo_mk hS.ao
  have r2 : ∀ k, sNoRo (.sl .own 4 (sMk H k)) = true := fun k => noRo_mk hH.ao
  have r3 : ∀ k, sNoRo (.sl .own 1 (sMk M k)) = true := fun k => noRo_mk hM.ao
  simp only [p1, p3, q1, q2, hS.pMk, hH.pMk, hM.pMk, hS.noRo, hH.noRo, hM.noRo, sMk_nil, sMkN_nil, sMk_idem, sMkN_idem, p4, List.getD_cons_zero, List.getD_cons_succ, r1, r2, r3, p5, e1, e2, e3, e4, e5, e6, e7, sEq_rfl, sBeq_rfl, sEqR_rfl, Option.elim_some, vAt0, okVl_b, bV_b, Bool.and_true, Bool.true_and, Bool.not_true, Bool.not_false, cond_true, cond_false]
theorem law_FnExactNewEngine (ts : List T) (h : okKR kSetup ts = true) :
    Sound Go.Proofs.Try.prog (modesOf ET88 11) 11 [.ag ts] [] ⟨[.c (.im (.bool true))], [], []⟩ ∧ ([.ag ts] : List A).all A.ro = true := by
  obtain ⟨h1, h2, h3, h4⟩ := okKR_sh h
  obtain ⟨a0, a1, a2, a3, a4, a5, a6, a7, a8, rfl, _⟩ := row_Setup h1
  exact ⟨body_sound rfl mixed (good88.soundG mixed) (b_L a0 a1 a2 a3 a4 a5 a6 a7 a8), by simp only [List.all_cons, List.all_nil, Bool.and_true]; exact h3⟩
end Go.Vm
