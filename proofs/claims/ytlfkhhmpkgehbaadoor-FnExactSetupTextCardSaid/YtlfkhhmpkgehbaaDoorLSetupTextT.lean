/- the law: its table -/
import Derived.Test.YtlfkhhmpkgehbaaDoorSTT
namespace Go.Vm
set_option linter.unusedVariables false
noncomputable section
noncomputable def ET59 : Env := EE Go.Proofs.Tryd.prog md0 (fun _ => .own) TL59

end
end Go.Vm
