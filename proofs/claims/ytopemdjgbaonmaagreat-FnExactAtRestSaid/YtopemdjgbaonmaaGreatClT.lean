/- copies: the table -/
import Derived.Test.YtopemdjgbaonmaaGreatOkT
namespace Go.Vm
set_option linter.unusedVariables false
noncomputable section
/-- flat rows of a shape, not too many -/
def pFl : List KT → List (List T) → Bool := sld fun row rs => shRs row rs && row.all KT.flat && decide (rs.length ≤ 2147483647)
def gClone (row : List KT) : GFn
 | [.c (.sl .ro sz rs)], [] => (Nat.beq sz row.length && pFl row rs, ⟨[.c (.sl .own sz rs)], [], []⟩)
 | _, _ => gNo
def gGrow : GFn
 | [.c (.im (.slice none 0 0)), aI n], [] => (sLe 0 n && sLt n 4294967296, ⟨[.c (.sl .own 1 [])], [], []⟩)
 | _, _ => gNo
def gConcat : GFn
 | [.c (.sl .ro 1 [[.sl .ro 1 a], [.sl .own 1 b]])], [] => (pFl [kB] a && pFl [kB] b, ⟨[.c (.sl .own 1 (sApp a b))], [], []⟩)
 | _, _ => gNo
noncomputable def ET92 : Env := EE Go.Proofs.Tryz.prog md0 (fun _ => .own) TL92
noncomputable def TL93 : List (Nat × GFn) := (147, gClone [kB]) :: TL92
noncomputable def ET93 : Env := EE Go.Proofs.Tryz.prog md0 (fun _ => .own) TL93
noncomputable def TL94 : List (Nat × GFn) := (100, gClone kAggT) :: TL93
noncomputable def ET94 : Env := EE Go.Proofs.Tryz.prog md0 (fun _ => .own) TL94
noncomputable def TL95 : List (Nat × GFn) := (155, gGrow) :: TL94
noncomputable def ET95 : Env := EE Go.Proofs.Tryz.prog md0 (fun _ => .own) TL95
noncomputable def TL96 : List (Nat × GFn) := (143, gConcat) :: TL95

end
end Go.Vm
