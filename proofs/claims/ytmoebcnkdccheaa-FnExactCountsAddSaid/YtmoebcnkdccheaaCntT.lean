/- CountsAdd: the table -/
import Derived.Test.YtmoebcnkdccheaaFltT
namespace Go.Vm
set_option linter.unusedVariables false
noncomputable section
def mCounts : List T → Bool := sld fun ts => mSafe ts && decide (cI ts 18 = IntKind.i64.wrap (IntKind.i64.wrap (IntKind.i64.wrap (cI ts 19 + cI ts 20) + cI ts 21) + sFlight ts))
noncomputable def ET94 : Env := EE Go.Proofs.Try.prog md0 (fun _ => .own) TL94
noncomputable def TL95 : List (Nat × GFn) := (40, gR mCounts (fun ts => pToR kEngine ts)) :: TL94
noncomputable def ET95 : Env := EE Go.Proofs.Try.prog md0 (fun _ => .own) TL95
noncomputable def TL96 : List (Nat × GFn) := (41, gR mCounts (fun ts => pToR kEngine ts)) :: TL95

end
end Go.Vm
