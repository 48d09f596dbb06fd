/- The order of Aggs in the program and in the reference. -/
import Derived.Test.YtmfbonhdjpmbkaaPBx0
import Derived.Test.YtmfbonhdjpmbkaaPBx2
import Derived.Test.YtmfbonhdjpmbkaaPBx4
import Derived.Test.YtmfbonhdjpmbkaaAid
import Derived.Test.YtmfbonhdjpmbkaaPureAggB
namespace Go.Proofs.Ytmfbonhdjpmbkaa.PureB
open Go.RowKit Go.Proofs.Ytmfbonhdjpmbkaa.PB Go.Proofs.YtmfbonhdjpmbkaaW.PrintWords Go.Proofs.YtmfbonhdjpmbkaaW.PrintLast Go.Proofs.YtmfbonhdjpmbkaaW.PrintMore Go.Proofs.Ytmfbonhdjpmbkaa.Aid
set_option linter.unusedVariables false
theorem specAhead_eq (a b : S77) : spec_l05Ahead.f a.f0 a.f1 a.f2 a.f3 a.f4 a.f5 b.f0 b.f1 b.f2 b.f3 b.f4 b.f5 = some (ahead a b) := by
  simp only [spec_l05Ahead.f, ahead]
  by_cases h1 : a.f0 < b.f0
  · simp [h1]
  · by_cases h2 : a.f0 = b.f0
    · simp [h2]
    · simp [h1, h2]
/-- -1, 0, 1: as cmp.Compare tells. -/
def cmpI (a b : Int) : Int := if a < b then -1 else if a > b then 1 else 0
theorem compare_eq (a b : Int) : cmp_Compare_int.f a b = some (cmpI a b) := by
  simp only [cmp_Compare_int.f, cmp_isNaN_int.f, Option.bind_some, bne_self_eq_false, Bool.false_eq_true, if_false, cmpI]
  split
  · rfl
  · split <;> rfl
def orderI (a b : S77) : Int := if cmpI a.f0 b.f0 ≠ 0 then cmpI a.f0 b.f0 else cmpI a.f1 b.f1
theorem or_ev (x y : Int) : Ev (fun k => cmp_Or_int.f k [x, y]) (if x ≠ 0 then x else y) := by
  by_cases hx : x = 0
  · subst hx
    by_cases hy : y = 0
    · subst hy
      refine Ev.of (fun k => cmp_Or_int.mono [0, 0] k) (k := 3) ?_
      simp [cmp_Or_int.f, cmp_Or_int.l0, rd, wrap64]
    · refine Ev.of (fun k => cmp_Or_int.mono [0, y] k) (k := 2) ?_
      simp [cmp_Or_int.f, cmp_Or_int.l0, rd, wrap64, hy]
  · refine Ev.of (fun k => cmp_Or_int.mono [x, y] k) (k := 1) ?_
    simp [cmp_Or_int.f, cmp_Or_int.l0, rd, hx]
theorem aggOrder_ev (a b : S77) : Ev (fun k => impl_aggOrder.f k a.f0 a.f1 a.f2 a.f3 a.f4 a.f5 b.f0 b.f1 b.f2 b.f3 b.f4 b.f5) (orderI a b) := by
  simp only [impl_aggOrder.f, compare_eq, Option.bind_some]
  exact Ev.bind (or_ev _ _) (Ev.now _)
theorem orderI_neg (a b : S77) : (orderI a b < 0) ↔ ahead a b = true := by
  simp only [orderI, cmpI, ahead, decide_eq_true_eq]
  repeat' split
  all_goals omega
theorem orderI_zero (a b : S77) : (orderI a b = 0) ↔ (a.f0 = b.f0 ∧ a.f1 = b.f1) := by
  simp only [orderI, cmpI]
  repeat' split
  all_goals omega

end Go.Proofs.Ytmfbonhdjpmbkaa.PureB
