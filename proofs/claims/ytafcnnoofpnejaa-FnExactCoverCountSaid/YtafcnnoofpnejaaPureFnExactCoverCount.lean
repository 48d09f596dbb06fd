/- CoverCount of the program and CoverCount of the reference give the same number, for all arguments. No condition. -/
import Derived.Test.YtafcnnoofpnejaaPFnExactCoverCountx1
namespace Go.Proofs.Ytafcnnoofpnejaa.Pure
open Go.RowKit Go.Proofs.Ytafcnnoofpnejaa.PFnExactCoverCount Go.Proofs.YtafcnnoofpnejaaW.PrintWords Go.Proofs.YtafcnnoofpnejaaW.PrintLast

theorem FnExactCoverCount : laws_FnExactCoverCount.Pure := by
  intro a0 a1 _ _
  simp only [laws_FnExactCoverCount.f, spec_CoverCount.f, impl_CoverCount.f, spec_l11Fine.f, spec_l01In.f, impl_within.f, impl_isSize.f]
  by_cases c1 : 1 ≤ a0
  · by_cases c2 : a0 ≤ 1000000
    · by_cases c3 : 1 ≤ a1
      · by_cases c4 : a1 ≤ 1000000
        · have c5 : ¬ a1 = 0 := by omega
          simp [c1, c2, c3, c4, c5]
        · simp [c1, c2, c3, c4]
      · simp [c1, c2, c3]
    · simp [c1, c2]
  · simp [c1]

end Go.Proofs.Ytafcnnoofpnejaa.Pure
