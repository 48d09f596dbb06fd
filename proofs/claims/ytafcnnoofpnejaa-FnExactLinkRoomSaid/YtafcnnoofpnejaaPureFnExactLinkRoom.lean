/- LinkRoom of the program and of the reference give the same answer, for all arguments. No condition. -/
import Derived.Test.YtafcnnoofpnejaaPFnExactLinkRoomx1
namespace Go.Proofs.Ytafcnnoofpnejaa.Pure
open Go.RowKit Go.Proofs.Ytafcnnoofpnejaa.PFnExactLinkRoom Go.Proofs.YtafcnnoofpnejaaW.PrintWords Go.Proofs.YtafcnnoofpnejaaW.PrintLast

theorem LinkRoom_in (a b c : Int) : spec_l01In.f a b c = some (decide (b ≤ a ∧ a ≤ c)) := by
  by_cases h : b ≤ a <;> simp [spec_l01In.f, h]
theorem LinkRoom_within (a b c : Int) : impl_within.f a b c = some (decide (b ≤ a ∧ a ≤ c)) := by
  by_cases h : b ≤ a <;> simp [impl_within.f, h]
theorem LinkRoom_setup (a b c d e f g h i : Int) : impl_SetupOk.f a b c d e f g h i = spec_SetupOk.f a b c d e f g h i ∧ ∃ r, spec_SetupOk.f a b c d e f g h i = some r := by
  simp only [spec_SetupOk.f, impl_SetupOk.f, impl_areShards.f, LinkRoom_in, LinkRoom_within, Option.bind_some, true_and]
  repeat' split
  all_goals exact ⟨_, rfl⟩
theorem FnExactLinkRoom (a b c d e f g h i : Int) {p : Prop} (_ : p) : laws_FnExactLinkRoom.f a b c d e f g h i = some true := by
  obtain ⟨h1, r, h2⟩ := LinkRoom_setup a b c d e f g h i
  simp only [laws_FnExactLinkRoom.f, laws_toSetup.f, spec_LinkRoom.f, impl_LinkRoom.f, Option.bind_some, h1, h2]
  cases r <;> simp

end Go.Proofs.Ytafcnnoofpnejaa.Pure
