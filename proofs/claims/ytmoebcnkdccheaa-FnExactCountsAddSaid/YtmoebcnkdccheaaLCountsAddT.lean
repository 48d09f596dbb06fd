/- the law: its table -/
import Derived.Test.YtmoebcnkdccheaaCntT
namespace Go.Vm
set_option linter.unusedVariables false
noncomputable section
noncomputable def ET96 : Env := EE Go.Proofs.Try.prog md0 (fun _ => .own) TL96

end
end Go.Vm
