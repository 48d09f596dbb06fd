/- SlideEnd of the program and SlideEnd of the reference give the same number, for all arguments. No condition. -/
import Derived.Test.YtafcnnoofpnejaaPFnExactSlideEndx1
namespace Go.Proofs.Ytafcnnoofpnejaa.Pure
open Go.RowKit Go.Proofs.Ytafcnnoofpnejaa.PFnExactSlideEnd Go.Proofs.YtafcnnoofpnejaaW.PrintWords Go.Proofs.YtafcnnoofpnejaaW.PrintLast

theorem FnExactSlideEnd : laws_FnExactSlideEnd.Pure := by
  intro a0 a1 a2 _ _ _
  simp only [laws_FnExactSlideEnd.f, spec_SlideEnd.f, impl_SlideEnd.f, spec_l11Fine.f, spec_l01In.f, impl_within.f, impl_isSize.f, impl_isTime.f]
  by_cases b1 : 0 ≤ a0
  · by_cases b2 : a0 ≤ 1000000
    · by_cases c1 : 1 ≤ a1
      · by_cases c2 : a1 ≤ 1000000
        · by_cases c3 : 1 ≤ a2
          · by_cases c4 : a2 ≤ 1000000
            · simp [b1, b2, c1, c2, c3, c4]
            · simp [b1, b2, c1, c2, c3, c4]
          · simp [b1, b2, c1, c2, c3]
        · simp [b1, b2, c1, c2]
      · simp [b1, b2, c1]
    · simp [b1, b2]
  · simp [b1]

end Go.Proofs.Ytafcnnoofpnejaa.Pure
