/- SessionOk of the program and of the reference give the same answer, for all arguments. No condition. -/
import Derived.Test.YtafcnnoofpnejaaPFnExactSessionOkx1
namespace Go.Proofs.Ytafcnnoofpnejaa.Pure
open Go.RowKit Go.Proofs.Ytafcnnoofpnejaa.PFnExactSessionOk Go.Proofs.YtafcnnoofpnejaaW.PrintWords Go.Proofs.YtafcnnoofpnejaaW.PrintLast

theorem session_in (a b c : Int) : spec_l01In.f a b c = some (decide (b ≤ a ∧ a ≤ c)) := by
  by_cases h : b ≤ a <;> simp [spec_l01In.f, h]
theorem session_within (a b c : Int) : impl_within.f a b c = some (decide (b ≤ a ∧ a ≤ c)) := by
  by_cases h : b ≤ a <;> simp [impl_within.f, h]
theorem FnExactSessionOk (a b c d e : Int) {p : Prop} (_ : p) : laws_FnExactSessionOk.f a b c d e = some true := by
  simp only [laws_FnExactSessionOk.f, laws_toSession.f, spec_SessionOk.f, impl_SessionOk.f, impl_isKey.f, impl_isTime.f, impl_isSum.f, session_in, session_within, Option.bind_some, decide_eq_true_eq]
  by_cases h1 : 0 ≤ a ∧ a ≤ 65535
  · by_cases h2 : 0 ≤ b ∧ b ≤ 1000000
    · by_cases h3 : 0 ≤ c ∧ c ≤ 1000000
      · by_cases h4 : b ≤ c
        · by_cases h5 : 1 ≤ d ∧ d ≤ 1000000000
          · have h6 : 0 ≤ b ∧ b ≤ c := by omega
            simp [h1, h2, h3, h4, h5]
          · have h6 : 0 ≤ b ∧ b ≤ c := by omega
            simp [h1, h2, h3, h4, h5]
        · have h6 : ¬ (0 ≤ b ∧ b ≤ c) := by omega
          simp [h1, h2, h3, h4]
      · simp [h1, h2, h3]
    · by_cases h3 : 0 ≤ c ∧ c ≤ 1000000
      · have h6 : ¬ (0 ≤ b ∧ b ≤ c) := by omega
        simp [h1, h2, h3, h6]
      · simp [h1, h2, h3]
  · simp [h1]

end Go.Proofs.Ytafcnnoofpnejaa.Pure
