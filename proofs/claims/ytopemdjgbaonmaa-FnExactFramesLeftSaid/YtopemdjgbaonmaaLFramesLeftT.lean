/- the law: its table -/
import Derived.Test.YtopemdjgbaonmaaFLT
namespace Go.Vm
set_option linter.unusedVariables false
noncomputable section
noncomputable def ET124 : Env := EE Go.Proofs.Try.prog md0 (fun _ => .own) TL124

end
end Go.Vm
