/- the law says true -/
import Derived.Test.YtiljaikpocgleaaLMergeListsN
import Derived.Test.YtiljaikpocgleaaFOL
namespace Go.Vm
set_option linter.unusedVariables false
set_option linter.unusedSimpArgs false
theorem b_L {rs ss : List (List T)} (hs : shRs kAggT rs = true) (hl : lenRs reachBytes rs = true) (hn : rs.length ≤ reachBytes) (hs' : shRs kAggT ss = true) (hl' : lenRs reachBytes ss = true) (hn' : ss.length ≤ reachBytes) : body lp0 ET77 6 [.c (.sl .ro 6 rs), .c (.sl .ro 6 ss)] [] = some (.ret (oB true)) := by
 rw [nf_6, pSz_of hs hl hn (by decide) (by decide), cond_true, sLt_eq]
 by_cases hneg : sSz rs 1048576 < 0
 ·rw [decide_eq_true hneg]; rfl
 ·obtain ⟨p1, z1⟩ := szS_to hs (by decide) (by decide) hneg
  rw [decide_eq_false hneg, cond_false, pSz_of hs' hl' hn' (by omega) z1, cond_true, sLt_eq]
  by_cases hneg2 : sSz ss (sSz rs 1048576) < 0
  ·rw [decide_eq_true hneg2]; rfl
  ·have p2 := (szS_to hs' (by omega) z1 hneg2).1
   obtain ⟨m1, m2, m3, m4⟩ := own_all (k := 1) 6291456 (by decide) p1 (by decide) (by decide)
   obtain ⟨m5, m6, m7, _⟩ := own_all (k := sMkN (sOwn rs) 1) 6291456 (by decide) p2 m3 (by omega)
   obtain ⟨r1, r2, r3, r4, r5, r6⟩ := (res_ML (pTo_own p1) (pTo_own p2)).all
   rw [decide_eq_false hneg2, cond_false]
   simp only [p1, p2, pTo_own p1, pTo_own p2, pTo_pEq (pTo_own p1), pTo_pEq (pTo_own p2), noRo_sOwn, m1, m2, m5, m6, lt0F m7, r1, r2, r3, r4, r5, r6, sMkN_idem, sEq_rfl, sBeq_self, sEqS_rfl, List.getD_cons_zero, Option.elim_some, vAt0, okVl_b, bV_b, Bool.and_true, Bool.true_and, cond_true, Bool.not_true, cond_false]
theorem mixed : Go.Proofs.Try.prog.follows .mixedOrders = true := by kernel_rfl
theorem law_FnExactMergeLists (rs : List (List T)) (h : okKRs kAggT rs = true) (hn : rs.length ≤ reachBytes) (ss : List (List T)) (h' : okKRs kAggT ss = true) (hn' : ss.length ≤ reachBytes) :
  Sound Go.Proofs.Try.prog (modesOf ET77 6) 6 [.c (.sl .ro 6 rs), .c (.sl .ro 6 ss)] [] ⟨[.c (.im (.bool true))], [], []⟩ ∧ ([.c (.sl .ro 6 rs), .c (.sl .ro 6 ss)] : List A).all A.ro = true := by
 obtain ⟨h1, h2, _⟩ := okKRs_sh h
 obtain ⟨h3, h4, _⟩ := okKRs_sh h'
 exact ⟨body_sound rfl mixed (good77.soundG mixed) (b_L h1 h2 hn h3 h4 hn'), rfl⟩
end Go.Vm
