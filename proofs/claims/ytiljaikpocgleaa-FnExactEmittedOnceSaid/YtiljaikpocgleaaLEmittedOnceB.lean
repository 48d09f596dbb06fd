/- the law says true -/
import Derived.Test.YtiljaikpocgleaaLEmittedOnceN
import Derived.Test.YtiljaikpocgleaaEOB
namespace Go.Vm
set_option linter.unusedVariables false
set_option linter.unusedSimpArgs false
theorem b_L {rs : List (List T)} (hs : shRs kAggT rs = true) (hl : lenRs reachBytes rs = true) (hn : rs.length ≤ reachBytes) : body lp0 ET42 4 [.c (.sl .ro 6 rs)] [] = some (.ret (oB true)) := by
 rw [nf_4, pSz_of hs hl hn (by decide) (by decide), cond_true, sLt_eq]
 by_cases hneg : sSz rs 1048576 < 0
 ·rw [decide_eq_true hneg]; rfl
 ·have p1 := (szS_to hs (by decide) (by decide) hneg).1
  rw [decide_eq_false hneg, cond_false]
  simp only [p1, pTo_pEq (pTo_own p1), noRo_sOwn, sBeq_self, sEqS_rfl, Bool.and_true, Bool.true_and, cond_true, Bool.not_true, cond_false]
theorem mixed : Go.Proofs.Try.prog.follows .mixedOrders = true := by kernel_rfl
theorem law_FnExactEmittedOnce (rs : List (List T)) (h : okKRs kAggT rs = true) (hn : rs.length ≤ reachBytes) :
  Sound Go.Proofs.Try.prog (modesOf ET42 4) 4 [.c (.sl .ro 6 rs)] [] ⟨[.c (.im (.bool true))], [], []⟩ ∧ ([.c (.sl .ro 6 rs)] : List A).all A.ro = true := by
 obtain ⟨h1, h2, _⟩ := okKRs_sh h
 exact ⟨body_sound rfl mixed (good42.soundG mixed) (b_L h1 h2 hn), rfl⟩
end Go.Vm
