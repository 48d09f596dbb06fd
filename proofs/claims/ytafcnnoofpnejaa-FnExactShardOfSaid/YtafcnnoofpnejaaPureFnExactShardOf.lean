/- ShardOf of the program and ShardOf of the reference give the same number, for all arguments. No condition. -/
import Derived.Test.YtafcnnoofpnejaaPFnExactShardOfx1
namespace Go.Proofs.Ytafcnnoofpnejaa.Pure
open Go.RowKit Go.Proofs.Ytafcnnoofpnejaa.PFnExactShardOf Go.Proofs.YtafcnnoofpnejaaW.PrintWords Go.Proofs.YtafcnnoofpnejaaW.PrintLast

theorem FnExactShardOf : laws_FnExactShardOf.Pure := by
  intro a0 a1 _ _
  simp only [laws_FnExactShardOf.f, spec_ShardOf.f, impl_ShardOf.f, spec_l01In.f, impl_within.f, impl_isKey.f, impl_areShards.f]
  by_cases c1 : 0 ≤ a0
  · by_cases c2 : a0 ≤ 65535
    · by_cases c3 : 1 ≤ a1
      · by_cases c4 : a1 ≤ 4
        · have c5 : ¬ a1 = 0 := by omega
          simp [c1, c2, c3, c4, c5]
        · simp [c1, c2, c3, c4]
      · simp [c1, c2, c3]
    · simp [c1, c2]
  · simp [c1]

end Go.Proofs.Ytafcnnoofpnejaa.Pure
