/- copies: the table -/
import Derived.Test.YtiljaikpocgleaaOkT
namespace Go.Vm
set_option linter.unusedVariables false
noncomputable section
/-- flat rows of a shape, not too many -/
def pFl : List KT → List (List T) → Bool := sld fun row rs => shRs row rs && row.all KT.flat && decide (rs.length ≤ 2147483647)
def gClone (row : List KT) : GFn
 | [.c (.sl .ro sz rs)], [] => (Nat.beq sz row.length && pFl row rs, ⟨[.c (.sl .own sz rs)], [], []⟩)
 | _, _ => gNo
def gGrow : GFn
 | [.c (.im (.slice none 0 0)), aI n], [] => (sLe 0 n && sLt n 4294967296, ⟨[.c (.sl .own 1 [])], [], []⟩)
 | _, _ => gNo
def gConcat : GFn
 | [.c (.sl .ro 1 [[.sl .ro 1 a], [.sl .own 1 b]])], [] => (pFl [kB] a && pFl [kB] b, ⟨[.c (.sl .own 1 (sApp a b))], [], []⟩)
 | _, _ => gNo
noncomputable def ET48 : Env := EE Go.Proofs.Try.prog md0 (fun _ => .own) TL48
noncomputable def TL49 : List (Nat × GFn) := (64, gClone kAggT) :: TL48
noncomputable def ET49 : Env := EE Go.Proofs.Try.prog md0 (fun _ => .own) TL49
noncomputable def TL50 : List (Nat × GFn) := (145, gGrow) :: TL49
noncomputable def ET50 : Env := EE Go.Proofs.Try.prog md0 (fun _ => .own) TL50
noncomputable def TL51 : List (Nat × GFn) := (131, gConcat) :: TL50

end
end Go.Vm
