/- EmittedOnce: the table -/
import Derived.Test.YtiljaikpocgleaaOkT
import Derived.Test.YtiljaikpocgleaaOkT
namespace Go.Vm
set_option linter.unusedVariables false
noncomputable section
def sameWK (r x : List T) : Bool := decide (cI r 0 = cI x 0) && decide (cI r 1 = cI x 1)
def onceB : List (List T) → Bool
 | [] => true
 | r :: rs => rs.all (fun x => !sameWK r x) && onceB rs
def sOnce : List (List T) → Bool := sld fun rs => rs.all mAggOk && onceB rs
noncomputable def ET39 : Env := EE Go.Proofs.Try.prog md0 (fun _ => .own) TL39
noncomputable def TL40 : List (Nat × GFn) := (58, gAggs mAreAggs) :: TL39
noncomputable def ET40 : Env := EE Go.Proofs.Try.prog md0 (fun _ => .own) TL40
noncomputable def TL41 : List (Nat × GFn) := (20, gAggs sOnce) :: TL40
noncomputable def ET41 : Env := EE Go.Proofs.Try.prog md0 (fun _ => .own) TL41
noncomputable def TL42 : List (Nat × GFn) := (22, gAggs sOnce) :: TL41

end
end Go.Vm
