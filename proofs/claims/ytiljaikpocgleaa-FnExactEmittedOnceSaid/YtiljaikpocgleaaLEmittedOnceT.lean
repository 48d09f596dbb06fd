/- the law: its table -/
import Derived.Test.YtiljaikpocgleaaEOT
namespace Go.Vm
set_option linter.unusedVariables false
noncomputable section
noncomputable def ET42 : Env := EE Go.Proofs.Try.prog md0 (fun _ => .own) TL42

end
end Go.Vm
