/- the law: its table -/
import Derived.Test.YtlfkhhmpkgehbaaDoorEXT
namespace Go.Vm
set_option linter.unusedVariables false
noncomputable section
noncomputable def ET65 : Env := EE Go.Proofs.Tryd.prog md0 (fun _ => .own) TL65

end
end Go.Vm
