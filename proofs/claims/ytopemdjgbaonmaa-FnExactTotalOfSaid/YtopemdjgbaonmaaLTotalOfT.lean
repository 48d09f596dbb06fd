/- the law: its table -/
import Derived.Test.YtopemdjgbaonmaaTOT
namespace Go.Vm
set_option linter.unusedVariables false
noncomputable section
noncomputable def ET100 : Env := EE Go.Proofs.Try.prog md0 (fun _ => .own) TL100

end
end Go.Vm
