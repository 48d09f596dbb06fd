/- the law says true -/
import Derived.Test.YtlfkhhmpkgehbaaDoorLEngineTextN
import Derived.Test.YtlfkhhmpkgehbaaDoorEXB
namespace Go.Vm
set_option linter.unusedVariables false
set_option linter.unusedSimpArgs false
theorem sBeq_rfl (a : Bool) : sBeq a a = true := by rw [sBeq_eq]; simp
theorem sSeq_rfl (a : ByteArray) : sSeq a a = true := by rw [sSeq_eq]; simp
theorem sEqR_rfl (a : List T) : sEqR a a = true := sEqR_iff.2 rfl
theorem b_L {ts : List T} (hr : ts.all roT = true) (hs : shR kEngine ts = true) (hl : lenR reachBytes ts = true) (hw : wfR ts = true) : body lp0 ET65 4 [.ag ts] [] = some (.ret (oB true)) := by
 have hz : sSzR ts 1048576 < 0 ∨ lenR 1048576 ts = true := by
  rw [sSzR_eq]
  by_cases h : szR ts 1048576 < 0
  ·exact .inl h
  ·exact .inr ((szR_le ts 1048576 (by omega)).2.2 (by omega))
 have hp : pSzR kEngine ts 1048576 = true := by rw [pSzR_eq, hs, hl]; rfl
 obtain ⟨a0, a1, a2, a3, a4, a5, a6, a7, a8, a9, a10, a11, a12, a13, a14, a15, a16, a17, a18, a19, a20, a21, a22, a23, rfl, g11, g12, g13, g14, g15, g17⟩ := rowr_Engine hs hr
 rw [nf_4, hp, cond_true, sLt_eq]
 by_cases hneg : sSzR [tI a0, tI a1, tI a2, tI a3, tI a4, tI a5, tI a6, tI a7, tI a8, tI a9, tI a10, .sl .ro 7 a11, .sl .ro 5 a12, .sl .ro 1 a13, .sl .ro 4 a14, .sl .ro 6 a15, tI a16, .sl .ro 1 a17, tI a18, tI a19, tI a20, tI a21, tI a22, tI a23] 1048576 < 0
 ·rw [decide_eq_true hneg]; rfl
 ·rw [decide_eq_false hneg, cond_false]
  have hz := hz.resolve_left hneg
  have p1 : pToR kEngine [tI a0, tI a1, tI a2, tI a3, tI a4, tI a5, tI a6, tI a7, tI a8, tI a9, tI a10, .sl .ro 7 a11, .sl .ro 5 a12, .sl .ro 1 a13, .sl .ro 4 a14, .sl .ro 6 a15, tI a16, .sl .ro 1 a17, tI a18, tI a19, tI a20, tI a21, tI a22, tI a23] = true := by rw [pToR_eq, hs, hz]; rfl
  have p2 : pToR kEngine [tI a0, tI a1, tI a2, tI a3, tI a4, tI a5, tI a6, tI a7, tI a8, tI a9, tI a10, .sl .ro 7 (sOwn a11), .sl .ro 5 (sOwn a12), .sl .ro 1 (sOwn a13), .sl .ro 4 (sOwn a14), .sl .ro 6 (sOwn a15), tI a16, .sl .ro 1 (sOwn a17), tI a18, tI a19, tI a20, tI a21, tI a22, tI a23] = true := by
   rw [pToR_eq]
   simp only [sOwn_eq, shR, shT, lenR, lenT, shRs_own, lenRs_own, ownRs_length] at hs hz ⊢
   rw [hs, hz]; rfl
  have p3 : pEqR kEngine [tI a0, tI a1, tI a2, tI a3, tI a4, tI a5, tI a6, tI a7, tI a8, tI a9, tI a10, .sl .ro 7 (sOwn a11), .sl .ro 5 (sOwn a12), .sl .ro 1 (sOwn a13), .sl .ro 4 (sOwn a14), .sl .ro 6 (sOwn a15), tI a16, .sl .ro 1 (sOwn a17), tI a18, tI a19, tI a20, tI a21, tI a22, tI a23] = true := by
   rw [pToR_eq, Bool.and_eq_true] at p2
   rw [pEqR_eq, p2.1, lenR_mono (by decide) p2.2]; rfl
  have p4 : pWf [tI a0, tI a1, tI a2, tI a3, tI a4, tI a5, tI a6, tI a7, tI a8, tI a9, tI a10, .sl .ro 7 (sOwn a11), .sl .ro 5 (sOwn a12), .sl .ro 1 (sOwn a13), .sl .ro 4 (sOwn a14), .sl .ro 6 (sOwn a15), tI a16, .sl .ro 1 (sOwn a17), tI a18, tI a19, tI a20, tI a21, tI a22, tI a23] = true := by
   rw [pWf_eq]
   simp only [sOwn_eq, wfR, wfT, wfRs_own] at hw ⊢
   exact hw
  simp only [p1, p2, p3, p4, noRo_sOwn, sEq_rfl, sBeq_rfl, sSeq_rfl, sEqR_rfl, Bool.and_true, Bool.true_and, cond_true, Bool.not_true, cond_false]
theorem mixed : Go.Proofs.Tryd.prog.follows .mixedOrders = true := by kernel_rfl
theorem law_FnExactEngineText (ts : List T) (h : okKR kEngine ts = true) :
  Sound Go.Proofs.Tryd.prog (modesOf ET65 4) 4 [.ag ts] [] ⟨[.c (.im (.bool true))], [], []⟩ ∧ ([.ag ts] : List A).all A.ro = true := by
 obtain ⟨h1, h2, h3, h4⟩ := okKR_sh h
 exact ⟨body_sound rfl mixed (good65.soundG mixed) (b_L h3 h1 h2 h4), by simp only [List.all_cons, List.all_nil, Bool.and_true]; exact h3⟩
end Go.Vm
