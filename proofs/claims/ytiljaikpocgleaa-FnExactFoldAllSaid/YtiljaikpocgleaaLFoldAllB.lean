/- the law says true -/
import Derived.Test.YtiljaikpocgleaaLFoldAllN
import Derived.Test.YtiljaikpocgleaaFOL
namespace Go.Vm
set_option linter.unusedVariables false
set_option linter.unusedSimpArgs false
theorem b_L {rs : List (List T)} {n : Int} (hs : shRs kFrame rs = true) (hl : lenRs reachBytes rs = true) (hn : rs.length ≤ reachBytes) : body lp0 ET77 7 [.c (.sl .ro 4 rs), aI n] [] = some (.ret (oB true)) := by
 rw [nf_7, pSz_of hs hl hn (by decide) (by decide), cond_true, sLt_eq]
 by_cases hneg : sSz rs 1048576 < 0
 ·rw [decide_eq_true hneg]; rfl
 ·have p1 := (szS_to hs (by decide) (by decide) hneg).1
  obtain ⟨m1, m2, m3, _⟩ := own_all (k := 1) 6291456 (by decide) p1 (by decide) (by decide)
  obtain ⟨r1, r2, r3, r4, r5, r6⟩ := (res_FA (n := n) (pTo_own p1)).all
  rw [decide_eq_false hneg, cond_false]
  simp only [p1, pTo_own p1, pTo_pEq (pTo_own p1), noRo_sOwn, m1, m2, lt0F m3, r1, r2, r3, r4, r5, r6, sMkN_idem, sEq_rfl, sBeq_self, sEqS_rfl, List.getD_cons_zero, Option.elim_some, vAt0, okVl_b, bV_b, Bool.and_true, Bool.true_and, cond_true, Bool.not_true, cond_false]
theorem mixed : Go.Proofs.Try.prog.follows .mixedOrders = true := by kernel_rfl
theorem law_FnExactFoldAll (rs : List (List T)) (h : okKRs kFrame rs = true) (hn : rs.length ≤ reachBytes) (n : Int) (w : (Lit.int .i64 n).wf = true) :
  Sound Go.Proofs.Try.prog (modesOf ET77 7) 7 [.c (.sl .ro 4 rs), aI n] [] ⟨[.c (.im (.bool true))], [], []⟩ ∧ ([.c (.sl .ro 4 rs), aI n] : List A).all A.ro = true := by
 obtain ⟨h1, h2, _⟩ := okKRs_sh h
 exact ⟨body_sound rfl mixed (good77.soundG mixed) (b_L h1 h2 hn), rfl⟩
end Go.Vm
