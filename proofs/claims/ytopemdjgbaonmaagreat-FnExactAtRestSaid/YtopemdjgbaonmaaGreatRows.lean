/-
  No cell of these rows narrows 'for every input' (looked for: loops, veiled, ifaces, maps, wideKeys, modest, calm, conditions, laid).
  DERIVED. THE GIVEN ROWS OF THIS SEAT. 3 by the template 'for every input the law returns true; each argument reads behind the call as it read before'; 0 by the template 'total and deterministic' (their statements: YtopemdjgbaonmaaGreatTotals.lean).
  GIVEN WITH THE SEED: the statements are not yours to turn. If you find one false, say at which input.
  Laid BY PROGRAM, IN A SANDBOX (cutbox-rows.mjs): the forced cells as the released guide's own fill.sh prints them over the translation a29ba80c6c8838ae… (all of the seat's roots in one cut). By AI agents, Wed Nov 11 2026. No macro, syntax, notation, axiom, sorry.
-/
import Derived.Test.YtopemdjgbaonmaaGreatChecked
import GoSem.Claim
import GoSem.ClaimJoined
import GoSem.ClaimMapViews
import Derived.JoinedTies
import Derived.KernelRfl
namespace Go.Proofs.YtopemdjgbaonmaaGreat
/- THE CELL 'sum', in the pinned program and in every row, IS THE sha256 OF THE DUMP (.gsa) THAT YtopemdjgbaonmaaGreatProg.lean LOADS. Nothing in Lean hashes anything: it is a label: what it is worth is what the hold of that sum in a sandbox is worth. -/
noncomputable def Tryz.pinned : Pinned := { name := "ytopemdjgbaonmaagreat", sum := "a29ba80c6c8838aeaf251234e686829333990909f75a4926972c190c1efa9caf", checked := Tryz.checked }
namespace Rows
def none {H : Type} : Left H := { results := [], args := [] }

/-- 'laws.FnExactRoundOps': WHATEVER THE INPUT: true; the input reads as it did. -/
def fnExactRoundOpsSpec : ChangeSpec := { name := "fnExactRoundOps", fn := fun _ => fun
  | [d] => { results := [.lit (.bool true)], args := [d] }
  | _ => none }
def fnExactRoundOpsRow : OpenClaim := { program := "ytopemdjgbaonmaagreat", sum := "a29ba80c6c8838aeaf251234e686829333990909f75a4926972c190c1efa9caf", func := "loop.example/g00728/laws.FnExactRoundOps", spec := "fnExactRoundOps", unfollowed := true, recurses := true, apart := false }
def FnExactRoundOpsSaid : Prop := fnExactRoundOpsRow.holds Tryz.pinned (OpenSpec.ofChange fnExactRoundOpsSpec)

/-- ITS FALSE NEIGHBOUR: 'it returns false'. Refute it at one input. -/
def fnExactRoundOpsWrong : ChangeSpec := { name := "fnExactRoundOps", fn := fun _ => fun
  | [d] => { results := [.lit (.bool false)], args := [d] }
  | _ => none }
def FnExactRoundOpsWrongFalsely : Prop := fnExactRoundOpsRow.holds Tryz.pinned (OpenSpec.ofChange fnExactRoundOpsWrong)

/-- 'laws.FnExactDrainBound': WHATEVER THE INPUT: true; the input reads as it did. -/
def fnExactDrainBoundSpec : ChangeSpec := { name := "fnExactDrainBound", fn := fun _ => fun
  | [d] => { results := [.lit (.bool true)], args := [d] }
  | _ => none }
def fnExactDrainBoundRow : OpenClaim := { program := "ytopemdjgbaonmaagreat", sum := "a29ba80c6c8838aeaf251234e686829333990909f75a4926972c190c1efa9caf", func := "loop.example/g00728/laws.FnExactDrainBound", spec := "fnExactDrainBound", unfollowed := true, recurses := true, apart := false }
def FnExactDrainBoundSaid : Prop := fnExactDrainBoundRow.holds Tryz.pinned (OpenSpec.ofChange fnExactDrainBoundSpec)

/-- ITS FALSE NEIGHBOUR: 'it returns false'. Refute it at one input. -/
def fnExactDrainBoundWrong : ChangeSpec := { name := "fnExactDrainBound", fn := fun _ => fun
  | [d] => { results := [.lit (.bool false)], args := [d] }
  | _ => none }
def FnExactDrainBoundWrongFalsely : Prop := fnExactDrainBoundRow.holds Tryz.pinned (OpenSpec.ofChange fnExactDrainBoundWrong)

/-- 'laws.FnExactAtRest': WHATEVER THE INPUT: true; the input reads as it did. -/
def fnExactAtRestSpec : ChangeSpec := { name := "fnExactAtRest", fn := fun _ => fun
  | [d] => { results := [.lit (.bool true)], args := [d] }
  | _ => none }
def fnExactAtRestRow : OpenClaim := { program := "ytopemdjgbaonmaagreat", sum := "a29ba80c6c8838aeaf251234e686829333990909f75a4926972c190c1efa9caf", func := "loop.example/g00728/laws.FnExactAtRest", spec := "fnExactAtRest", unfollowed := true, recurses := true, apart := false }
def FnExactAtRestSaid : Prop := fnExactAtRestRow.holds Tryz.pinned (OpenSpec.ofChange fnExactAtRestSpec)

/-- ITS FALSE NEIGHBOUR: 'it returns false'. Refute it at one input. -/
def fnExactAtRestWrong : ChangeSpec := { name := "fnExactAtRest", fn := fun _ => fun
  | [d] => { results := [.lit (.bool false)], args := [d] }
  | _ => none }
def FnExactAtRestWrongFalsely : Prop := fnExactAtRestRow.holds Tryz.pinned (OpenSpec.ofChange fnExactAtRestWrong)

/- THE SECOND FORM. 'bulk': how many values and letters a reading holds, each counted each time it is reached (what is shared counts as often as it is met; a slice's spare places count too). A statement '..UptoSaid' is the law's where the arguments, and the package variables that the reading takes, are together of bulk at most 1048576: NARROWER than '..Said'. Prove '..Said' where nothing that the law and all that it calls make is longer than what came in: it says more and counts as full. Else prove '..UptoSaid'. A law counts once. -/
mutual
def uptoBulk {H : Type} : DataW H → Nat
  | .lit (.string bytes) => bytes.length + 1
  | .lit _ => 1
  | .nil => 1
  | .ptr d => uptoBulk d + 1
  | .slice elems spare => uptoBulkAll elems + uptoBulkAll spare + 1
  | .agg parts => uptoBulkAll parts + 1
  | .iface _ d => uptoBulk d + 1
  | .map entries => uptoBulkEntries entries + 1
  | .held _ => 1
def uptoBulkAll {H : Type} : List (DataW H) → Nat
  | [] => 0
  | d :: r => uptoBulk d + uptoBulkAll r
def uptoBulkEntries {H : Type} : List (Lit × DataW H) → Nat
  | [] => 0
  | x :: r => uptoBulkEntry x + uptoBulkEntries r
def uptoBulkEntry {H : Type} : Lit × DataW H → Nat
  | (.string bytes, d) => bytes.length + uptoBulk d + 1
  | (_, d) => uptoBulk d + 1
 end
def uptoSmall : (H : Type) → List (DataW H) → Bool := fun _ ds => decide (uptoBulkAll ds ≤ 1048576)
def OpenSpec.upto (s : _root_.Go.ChangeSpec) : _root_.Go.OpenSpec := { _root_.Go.OpenSpec.ofChange s with cond := some uptoSmall }

/-- 'laws.FnExactRoundOps', WHERE WHAT IT READS IS OF BULK AT MOST 1048576: true; the input reads as it did. -/
def fnExactRoundOpsUptoRow : OpenClaim := { program := "ytopemdjgbaonmaagreat", sum := "a29ba80c6c8838aeaf251234e686829333990909f75a4926972c190c1efa9caf", func := "loop.example/g00728/laws.FnExactRoundOps", spec := "fnExactRoundOps", unfollowed := true, recurses := true, apart := false, narrowed := true }
def FnExactRoundOpsUptoSaid : Prop := fnExactRoundOpsUptoRow.holds Tryz.pinned (OpenSpec.upto fnExactRoundOpsSpec)

/-- 'laws.FnExactDrainBound', WHERE WHAT IT READS IS OF BULK AT MOST 1048576: true; the input reads as it did. -/
def fnExactDrainBoundUptoRow : OpenClaim := { program := "ytopemdjgbaonmaagreat", sum := "a29ba80c6c8838aeaf251234e686829333990909f75a4926972c190c1efa9caf", func := "loop.example/g00728/laws.FnExactDrainBound", spec := "fnExactDrainBound", unfollowed := true, recurses := true, apart := false, narrowed := true }
def FnExactDrainBoundUptoSaid : Prop := fnExactDrainBoundUptoRow.holds Tryz.pinned (OpenSpec.upto fnExactDrainBoundSpec)

/-- 'laws.FnExactAtRest', WHERE WHAT IT READS IS OF BULK AT MOST 1048576: true; the input reads as it did. -/
def fnExactAtRestUptoRow : OpenClaim := { program := "ytopemdjgbaonmaagreat", sum := "a29ba80c6c8838aeaf251234e686829333990909f75a4926972c190c1efa9caf", func := "loop.example/g00728/laws.FnExactAtRest", spec := "fnExactAtRest", unfollowed := true, recurses := true, apart := false, narrowed := true }
def FnExactAtRestUptoSaid : Prop := fnExactAtRestUptoRow.holds Tryz.pinned (OpenSpec.upto fnExactAtRestSpec)

end Rows
end Go.Proofs.YtopemdjgbaonmaaGreat
