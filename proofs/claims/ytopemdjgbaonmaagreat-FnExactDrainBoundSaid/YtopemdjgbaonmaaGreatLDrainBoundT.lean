/- the law: its table -/
import Derived.Test.YtopemdjgbaonmaaGreatDBT
namespace Go.Vm
set_option linter.unusedVariables false
noncomputable section
noncomputable def ET130 : Env := EE Go.Proofs.Tryz.prog md0 (fun _ => .own) TL130

end
end Go.Vm
