/- CountsAdd: its functions -/
import Derived.Test.YtmoebcnkdccheaaCntN
import Derived.Test.YtmoebcnkdccheaaFltB
namespace Go.Vm
set_option linter.unusedVariables false
set_option linter.unusedSimpArgs false
theorem b_counts_spec {ts : List T} (hr : ts.all roT = true) (h : pToR kEngine ts = true) : body lp0 ET94 40 [.ag ts] [] = some (.ret (oB (mCounts ts))) := by
  have h' := h
  rw [pToR_eq, Bool.and_eq_true] at h
  have h2 : pEqR kEngine ts = true := by rw [pEqR_eq, h.1, lenR_mono (by decide) h.2]; rfl
  have e : mCounts ts = (mSafe ts && decide (cI ts 18 = IntKind.i64.wrap (IntKind.i64.wrap (IntKind.i64.wrap (cI ts 19 + cI ts 20) + cI ts 21) + sFlight ts))) := by rw [mCounts, sld_eq]
  obtain ⟨a0, a1, a2, a3, a4, a5, a6, a7, a8, a9, a10, a11, a12, a13, a14, a15, a16, a17, a18, a19, a20, a21, a22, a23, rfl, _, _, _, _, _, _⟩ := rowr_Engine h.1 hr
  rw [nf_40, e, h', h2]
  simp only [cond_true, bifV, Option.elim_some, vAt0, okVl_b, bV_b, Bool.and_true, cB1, sEq_eq, sAdd_eq, cI, List.getD_cons_succ, List.getD_cons_zero, iT_im]
theorem b_counts_impl {ts : List T} (hr : ts.all roT = true) (h : pToR kEngine ts = true) : body lp0 ET95 41 [.ag ts] [] = some (.ret (oB (mCounts ts))) := by
  have h' := h
  rw [pToR_eq, Bool.and_eq_true] at h
  have h2 : pEqR kEngine ts = true := by rw [pEqR_eq, h.1, lenR_mono (by decide) h.2]; rfl
  have e : mCounts ts = (mSafe ts && decide (cI ts 18 = IntKind.i64.wrap (IntKind.i64.wrap (IntKind.i64.wrap (cI ts 19 + cI ts 20) + cI ts 21) + sFlight ts))) := by rw [mCounts, sld_eq]
  obtain ⟨a0, a1, a2, a3, a4, a5, a6, a7, a8, a9, a10, a11, a12, a13, a14, a15, a16, a17, a18, a19, a20, a21, a22, a23, rfl, _, _, _, _, _, _⟩ := rowr_Engine h.1 hr
  rw [nf_41, e, h', h2]
  simp only [cond_true, bifV, Option.elim_some, vAt0, okVl_b, bV_b, Bool.and_true, cB1, sEq_eq, sAdd_eq, cI, List.getD_cons_succ, List.getD_cons_zero, iT_im]
theorem good95 : Good Go.Proofs.Try.prog md0 (fun _ => .own) TL95 := good_R (fun hr h => b_counts_spec hr h) good94
theorem good96 : Good Go.Proofs.Try.prog md0 (fun _ => .own) TL96 := good_R (fun hr h => b_counts_impl hr h) good95

end Go.Vm
