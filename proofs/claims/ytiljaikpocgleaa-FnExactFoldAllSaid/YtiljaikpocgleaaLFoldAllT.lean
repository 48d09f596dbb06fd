/- the law: its table -/
import Derived.Test.YtiljaikpocgleaaFOT
namespace Go.Vm
set_option linter.unusedVariables false
noncomputable section
noncomputable def ET77 : Env := EE Go.Proofs.Try.prog md0 (fun _ => .own) TL77

end
end Go.Vm
