/- the law: its table -/
import Derived.Test.YtopemdjgbaonmaaGreatART
namespace Go.Vm
set_option linter.unusedVariables false
noncomputable section
noncomputable def ET145 : Env := EE Go.Proofs.Tryz.prog md0 (fun _ => .own) TL145

end
end Go.Vm
