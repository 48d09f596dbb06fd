/- DefaultSetup of the program and of the reference give the same setup. No condition. -/
import Derived.Test.YtmfbonhdjpmbkaaPFnExactDefaultSetupx1
namespace Go.Proofs.Ytmfbonhdjpmbkaa.Pure
open Go.RowKit Go.Proofs.Ytmfbonhdjpmbkaa.PFnExactDefaultSetup Go.Proofs.YtmfbonhdjpmbkaaW.PrintWords Go.Proofs.YtmfbonhdjpmbkaaW.PrintLast

theorem FnExactDefaultSetup : laws_FnExactDefaultSetup.Pure := by
  simp [laws_FnExactDefaultSetup.Pure, laws_FnExactDefaultSetup.f, spec_DefaultSetup.f, impl_DefaultSetup.f, laws_eqSetup.f]

end Go.Proofs.Ytmfbonhdjpmbkaa.Pure
