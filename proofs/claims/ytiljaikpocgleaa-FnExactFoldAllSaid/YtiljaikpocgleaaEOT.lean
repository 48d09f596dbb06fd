/- EmittedOnce: the table -/
import Derived.Test.YtiljaikpocgleaaMkT
import Derived.Test.YtiljaikpocgleaaOkT
namespace Go.Vm
set_option linter.unusedVariables false
noncomputable section
def sameWK (r x : List T) : Bool := decide (cI r 0 = cI x 0) && decide (cI r 1 = cI x 1)
def onceB : List (List T) → Bool
 | [] => true
 | r :: rs => rs.all (fun x => !sameWK r x) && onceB rs
def sOnce : List (List T) → Bool := sld fun rs => rs.all mAggOk && onceB rs
noncomputable def ET56 : Env := EE Go.Proofs.Try.prog md0 (fun _ => .own) TL56
noncomputable def TL57 : List (Nat × GFn) := (58, gAggs mAreAggs) :: TL56
noncomputable def ET57 : Env := EE Go.Proofs.Try.prog md0 (fun _ => .own) TL57
noncomputable def TL58 : List (Nat × GFn) := (20, gAggs sOnce) :: TL57
noncomputable def ET58 : Env := EE Go.Proofs.Try.prog md0 (fun _ => .own) TL58
noncomputable def TL59 : List (Nat × GFn) := (22, gAggs sOnce) :: TL58

end
end Go.Vm
