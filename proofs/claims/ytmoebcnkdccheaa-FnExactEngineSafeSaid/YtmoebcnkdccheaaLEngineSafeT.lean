/- the law: its table -/
import Derived.Test.YtmoebcnkdccheaaOkT
namespace Go.Vm
set_option linter.unusedVariables false
noncomputable section
noncomputable def ET92 : Env := EE Go.Proofs.Try.prog md0 (fun _ => .own) TL92

end
end Go.Vm
