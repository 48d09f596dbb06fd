/-
  No cell of these rows narrows 'for every input' (looked for: loops, veiled, ifaces, maps, wideKeys, modest, calm, conditions, laid).
  DERIVED. THE GIVEN ROWS OF THIS SEAT. 7 by the template 'for every input the law returns true; each argument reads behind the call as it read before'; 0 by the template 'total and deterministic' (their statements: YtiljaikpocgleaaTotals.lean).
  GIVEN WITH THE SEED: the statements are not yours to turn. If you find one false, say at which input.
  Laid BY PROGRAM, IN A SANDBOX (cutbox-rows.mjs): the forced cells as the released guide's own fill.sh prints them over the translation 46785f389f8448b2… (all of the seat's roots in one cut). By AI agents, Wed Nov 11 2026. No macro, syntax, notation, axiom, sorry.
-/
import Derived.Test.YtiljaikpocgleaaChecked
import GoSem.Claim
import GoSem.ClaimJoined
import GoSem.ClaimMapViews
import Derived.JoinedTies
import Derived.KernelRfl
namespace Go.Proofs.Ytiljaikpocgleaa
/- THE CELL 'sum', in the pinned program and in every row, IS THE sha256 OF THE DUMP (.gsa) THAT YtiljaikpocgleaaProg.lean LOADS. Nothing in Lean hashes anything: it is a label: what it is worth is what the hold of that sum in a sandbox is worth. -/
noncomputable def Try.pinned : Pinned := { name := "ytiljaikpocgleaa", sum := "46785f389f8448b2c510343192d3854c74bdfb3ead46f5b7d1cf279b89e04a03", checked := Try.checked }
namespace Rows
def none {H : Type} : Left H := { results := [], args := [] }

/-- 'laws.FnExactEventsIn': WHATEVER THE INPUT: true; the input reads as it did. -/
def fnExactEventsInSpec : ChangeSpec := { name := "fnExactEventsIn", fn := fun _ => fun
  | [d] => { results := [.lit (.bool true)], args := [d] }
  | _ => none }
def fnExactEventsInRow : OpenClaim := { program := "ytiljaikpocgleaa", sum := "46785f389f8448b2c510343192d3854c74bdfb3ead46f5b7d1cf279b89e04a03", func := "loop.example/g00728/laws.FnExactEventsIn", spec := "fnExactEventsIn", plainKeys := false, apart := false }
def FnExactEventsInSaid : Prop := fnExactEventsInRow.holds Try.pinned (OpenSpec.ofChange fnExactEventsInSpec)

/-- ITS FALSE NEIGHBOUR: 'it returns false'. Refute it at one input. -/
def fnExactEventsInWrong : ChangeSpec := { name := "fnExactEventsIn", fn := fun _ => fun
  | [d] => { results := [.lit (.bool false)], args := [d] }
  | _ => none }
def FnExactEventsInWrongFalsely : Prop := fnExactEventsInRow.holds Try.pinned (OpenSpec.ofChange fnExactEventsInWrong)

/-- 'laws.FnExactEmittedOnce': WHATEVER THE INPUT: true; the input reads as it did. -/
def fnExactEmittedOnceSpec : ChangeSpec := { name := "fnExactEmittedOnce", fn := fun _ => fun
  | [d] => { results := [.lit (.bool true)], args := [d] }
  | _ => none }
def fnExactEmittedOnceRow : OpenClaim := { program := "ytiljaikpocgleaa", sum := "46785f389f8448b2c510343192d3854c74bdfb3ead46f5b7d1cf279b89e04a03", func := "loop.example/g00728/laws.FnExactEmittedOnce", spec := "fnExactEmittedOnce", plainKeys := false, apart := false }
def FnExactEmittedOnceSaid : Prop := fnExactEmittedOnceRow.holds Try.pinned (OpenSpec.ofChange fnExactEmittedOnceSpec)

/-- ITS FALSE NEIGHBOUR: 'it returns false'. Refute it at one input. -/
def fnExactEmittedOnceWrong : ChangeSpec := { name := "fnExactEmittedOnce", fn := fun _ => fun
  | [d] => { results := [.lit (.bool false)], args := [d] }
  | _ => none }
def FnExactEmittedOnceWrongFalsely : Prop := fnExactEmittedOnceRow.holds Try.pinned (OpenSpec.ofChange fnExactEmittedOnceWrong)

/-- 'laws.FnExactKeyTotals': WHATEVER THE INPUT: true; the input reads as it did. -/
def fnExactKeyTotalsSpec : ChangeSpec := { name := "fnExactKeyTotals", fn := fun _ => fun
  | [d] => { results := [.lit (.bool true)], args := [d] }
  | _ => none }
def fnExactKeyTotalsRow : OpenClaim := { program := "ytiljaikpocgleaa", sum := "46785f389f8448b2c510343192d3854c74bdfb3ead46f5b7d1cf279b89e04a03", func := "loop.example/g00728/laws.FnExactKeyTotals", spec := "fnExactKeyTotals", unfollowed := true, recurses := true, plainKeys := false, apart := false }
def FnExactKeyTotalsSaid : Prop := fnExactKeyTotalsRow.holds Try.pinned (OpenSpec.ofChange fnExactKeyTotalsSpec)

/-- ITS FALSE NEIGHBOUR: 'it returns false'. Refute it at one input. -/
def fnExactKeyTotalsWrong : ChangeSpec := { name := "fnExactKeyTotals", fn := fun _ => fun
  | [d] => { results := [.lit (.bool false)], args := [d] }
  | _ => none }
def FnExactKeyTotalsWrongFalsely : Prop := fnExactKeyTotalsRow.holds Try.pinned (OpenSpec.ofChange fnExactKeyTotalsWrong)

/-- 'laws.FnExactMergeLists': WHATEVER THE INPUT: true; the input reads as it did. -/
def fnExactMergeListsSpec : ChangeSpec := { name := "fnExactMergeLists", fn := fun _ => fun
  | [d1, d2] => { results := [.lit (.bool true)], args := [d1, d2] }
  | _ => none }
def fnExactMergeListsRow : OpenClaim := { program := "ytiljaikpocgleaa", sum := "46785f389f8448b2c510343192d3854c74bdfb3ead46f5b7d1cf279b89e04a03", func := "loop.example/g00728/laws.FnExactMergeLists", spec := "fnExactMergeLists", unfollowed := true, recurses := true, plainKeys := false, apart := false }
def FnExactMergeListsSaid : Prop := fnExactMergeListsRow.holds Try.pinned (OpenSpec.ofChange fnExactMergeListsSpec)

/-- ITS FALSE NEIGHBOUR: 'it returns false'. Refute it at one input. -/
def fnExactMergeListsWrong : ChangeSpec := { name := "fnExactMergeLists", fn := fun _ => fun
  | [d1, d2] => { results := [.lit (.bool false)], args := [d1, d2] }
  | _ => none }
def FnExactMergeListsWrongFalsely : Prop := fnExactMergeListsRow.holds Try.pinned (OpenSpec.ofChange fnExactMergeListsWrong)

/-- 'laws.FnExactFoldAll': WHATEVER THE INPUT: true; the input reads as it did. -/
def fnExactFoldAllSpec : ChangeSpec := { name := "fnExactFoldAll", fn := fun _ => fun
  | [d1, d2] => { results := [.lit (.bool true)], args := [d1, d2] }
  | _ => none }
def fnExactFoldAllRow : OpenClaim := { program := "ytiljaikpocgleaa", sum := "46785f389f8448b2c510343192d3854c74bdfb3ead46f5b7d1cf279b89e04a03", func := "loop.example/g00728/laws.FnExactFoldAll", spec := "fnExactFoldAll", unfollowed := true, recurses := true, plainKeys := false, apart := false }
def FnExactFoldAllSaid : Prop := fnExactFoldAllRow.holds Try.pinned (OpenSpec.ofChange fnExactFoldAllSpec)

/-- ITS FALSE NEIGHBOUR: 'it returns false'. Refute it at one input. -/
def fnExactFoldAllWrong : ChangeSpec := { name := "fnExactFoldAll", fn := fun _ => fun
  | [d1, d2] => { results := [.lit (.bool false)], args := [d1, d2] }
  | _ => none }
def FnExactFoldAllWrongFalsely : Prop := fnExactFoldAllRow.holds Try.pinned (OpenSpec.ofChange fnExactFoldAllWrong)

/-- 'laws.FnFolds': WHATEVER THE INPUT: true; the input reads as it did. -/
def fnFoldsSpec : ChangeSpec := { name := "fnFolds", fn := fun _ => fun
  | [d] => { results := [.lit (.bool true)], args := [d] }
  | _ => none }
def fnFoldsRow : OpenClaim := { program := "ytiljaikpocgleaa", sum := "46785f389f8448b2c510343192d3854c74bdfb3ead46f5b7d1cf279b89e04a03", func := "loop.example/g00728/laws.FnFolds", spec := "fnFolds", unfollowed := true, recurses := true, plainKeys := false, apart := false }
def FnFoldsSaid : Prop := fnFoldsRow.holds Try.pinned (OpenSpec.ofChange fnFoldsSpec)

/-- ITS FALSE NEIGHBOUR: 'it returns false'. Refute it at one input. -/
def fnFoldsWrong : ChangeSpec := { name := "fnFolds", fn := fun _ => fun
  | [d] => { results := [.lit (.bool false)], args := [d] }
  | _ => none }
def FnFoldsWrongFalsely : Prop := fnFoldsRow.holds Try.pinned (OpenSpec.ofChange fnFoldsWrong)

/-- 'laws.FnWindows': WHATEVER THE INPUT: true; the input reads as it did. -/
def fnWindowsSpec : ChangeSpec := { name := "fnWindows", fn := fun _ => fun
  | [d] => { results := [.lit (.bool true)], args := [d] }
  | _ => none }
def fnWindowsRow : OpenClaim := { program := "ytiljaikpocgleaa", sum := "46785f389f8448b2c510343192d3854c74bdfb3ead46f5b7d1cf279b89e04a03", func := "loop.example/g00728/laws.FnWindows", spec := "fnWindows", inPlace := ["slices.overlaps[loop.example/g00728/impl.Agg]"], unfollowed := true, recurses := true, plainKeys := false, apart := false }
def FnWindowsSaid : Prop := fnWindowsRow.holds Try.pinned (OpenSpec.ofChange fnWindowsSpec)

/-- ITS FALSE NEIGHBOUR: 'it returns false'. Refute it at one input. -/
def fnWindowsWrong : ChangeSpec := { name := "fnWindows", fn := fun _ => fun
  | [d] => { results := [.lit (.bool false)], args := [d] }
  | _ => none }
def FnWindowsWrongFalsely : Prop := fnWindowsRow.holds Try.pinned (OpenSpec.ofChange fnWindowsWrong)

/- THE SECOND FORM. 'bulk': how many values and letters a reading holds, each counted each time it is reached (what is shared counts as often as it is met; a slice's spare places count too). A statement '..UptoSaid' is the law's where the arguments, and the package variables that the reading takes, are together of bulk at most 1048576: NARROWER than '..Said'. Prove '..Said' where nothing that the law and all that it calls make is longer than what came in: it says more and counts as full. Else prove '..UptoSaid'. A law counts once. -/
mutual
def uptoBulk {H : Type} : DataW H → Nat
  | .lit (.string bytes) => bytes.length + 1
  | .lit _ => 1
  | .nil => 1
  | .ptr d => uptoBulk d + 1
  | .slice elems spare => uptoBulkAll elems + uptoBulkAll spare + 1
  | .agg parts => uptoBulkAll parts + 1
  | .iface _ d => uptoBulk d + 1
  | .map entries => uptoBulkEntries entries + 1
  | .held _ => 1
def uptoBulkAll {H : Type} : List (DataW H) → Nat
  | [] => 0
  | d :: r => uptoBulk d + uptoBulkAll r
def uptoBulkEntries {H : Type} : List (Lit × DataW H) → Nat
  | [] => 0
  | x :: r => uptoBulkEntry x + uptoBulkEntries r
def uptoBulkEntry {H : Type} : Lit × DataW H → Nat
  | (.string bytes, d) => bytes.length + uptoBulk d + 1
  | (_, d) => uptoBulk d + 1
 end
def uptoSmall : (H : Type) → List (DataW H) → Bool := fun _ ds => decide (uptoBulkAll ds ≤ 1048576)
def OpenSpec.upto (s : _root_.Go.ChangeSpec) : _root_.Go.OpenSpec := { _root_.Go.OpenSpec.ofChange s with cond := some uptoSmall }

/-- 'laws.FnExactEventsIn', WHERE WHAT IT READS IS OF BULK AT MOST 1048576: true; the input reads as it did. -/
def fnExactEventsInUptoRow : OpenClaim := { program := "ytiljaikpocgleaa", sum := "46785f389f8448b2c510343192d3854c74bdfb3ead46f5b7d1cf279b89e04a03", func := "loop.example/g00728/laws.FnExactEventsIn", spec := "fnExactEventsIn", plainKeys := false, apart := false, narrowed := true }
def FnExactEventsInUptoSaid : Prop := fnExactEventsInUptoRow.holds Try.pinned (OpenSpec.upto fnExactEventsInSpec)

/-- 'laws.FnExactEmittedOnce', WHERE WHAT IT READS IS OF BULK AT MOST 1048576: true; the input reads as it did. -/
def fnExactEmittedOnceUptoRow : OpenClaim := { program := "ytiljaikpocgleaa", sum := "46785f389f8448b2c510343192d3854c74bdfb3ead46f5b7d1cf279b89e04a03", func := "loop.example/g00728/laws.FnExactEmittedOnce", spec := "fnExactEmittedOnce", plainKeys := false, apart := false, narrowed := true }
def FnExactEmittedOnceUptoSaid : Prop := fnExactEmittedOnceUptoRow.holds Try.pinned (OpenSpec.upto fnExactEmittedOnceSpec)

/-- 'laws.FnExactKeyTotals', WHERE WHAT IT READS IS OF BULK AT MOST 1048576: true; the input reads as it did. -/
def fnExactKeyTotalsUptoRow : OpenClaim := { program := "ytiljaikpocgleaa", sum := "46785f389f8448b2c510343192d3854c74bdfb3ead46f5b7d1cf279b89e04a03", func := "loop.example/g00728/laws.FnExactKeyTotals", spec := "fnExactKeyTotals", unfollowed := true, recurses := true, plainKeys := false, apart := false, narrowed := true }
def FnExactKeyTotalsUptoSaid : Prop := fnExactKeyTotalsUptoRow.holds Try.pinned (OpenSpec.upto fnExactKeyTotalsSpec)

/-- 'laws.FnExactMergeLists', WHERE WHAT IT READS IS OF BULK AT MOST 1048576: true; the input reads as it did. -/
def fnExactMergeListsUptoRow : OpenClaim := { program := "ytiljaikpocgleaa", sum := "46785f389f8448b2c510343192d3854c74bdfb3ead46f5b7d1cf279b89e04a03", func := "loop.example/g00728/laws.FnExactMergeLists", spec := "fnExactMergeLists", unfollowed := true, recurses := true, plainKeys := false, apart := false, narrowed := true }
def FnExactMergeListsUptoSaid : Prop := fnExactMergeListsUptoRow.holds Try.pinned (OpenSpec.upto fnExactMergeListsSpec)

/-- 'laws.FnExactFoldAll', WHERE WHAT IT READS IS OF BULK AT MOST 1048576: true; the input reads as it did. -/
def fnExactFoldAllUptoRow : OpenClaim := { program := "ytiljaikpocgleaa", sum := "46785f389f8448b2c510343192d3854c74bdfb3ead46f5b7d1cf279b89e04a03", func := "loop.example/g00728/laws.FnExactFoldAll", spec := "fnExactFoldAll", unfollowed := true, recurses := true, plainKeys := false, apart := false, narrowed := true }
def FnExactFoldAllUptoSaid : Prop := fnExactFoldAllUptoRow.holds Try.pinned (OpenSpec.upto fnExactFoldAllSpec)

/-- 'laws.FnFolds', WHERE WHAT IT READS IS OF BULK AT MOST 1048576: true; the input reads as it did. -/
def fnFoldsUptoRow : OpenClaim := { program := "ytiljaikpocgleaa", sum := "46785f389f8448b2c510343192d3854c74bdfb3ead46f5b7d1cf279b89e04a03", func := "loop.example/g00728/laws.FnFolds", spec := "fnFolds", unfollowed := true, recurses := true, plainKeys := false, apart := false, narrowed := true }
def FnFoldsUptoSaid : Prop := fnFoldsUptoRow.holds Try.pinned (OpenSpec.upto fnFoldsSpec)

/-- 'laws.FnWindows', WHERE WHAT IT READS IS OF BULK AT MOST 1048576: true; the input reads as it did. -/
def fnWindowsUptoRow : OpenClaim := { program := "ytiljaikpocgleaa", sum := "46785f389f8448b2c510343192d3854c74bdfb3ead46f5b7d1cf279b89e04a03", func := "loop.example/g00728/laws.FnWindows", spec := "fnWindows", inPlace := ["slices.overlaps[loop.example/g00728/impl.Agg]"], unfollowed := true, recurses := true, plainKeys := false, apart := false, narrowed := true }
def FnWindowsUptoSaid : Prop := fnWindowsUptoRow.holds Try.pinned (OpenSpec.upto fnWindowsSpec)

end Rows
end Go.Proofs.Ytiljaikpocgleaa
