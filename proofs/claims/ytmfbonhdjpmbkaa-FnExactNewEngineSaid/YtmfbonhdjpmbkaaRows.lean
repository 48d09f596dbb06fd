/-
  No cell of these rows narrows 'for every input' (looked for: loops, veiled, ifaces, maps, wideKeys, modest, calm, conditions, laid).
  DERIVED. THE GIVEN ROWS OF THIS SEAT. 11 by the template 'for every input the law returns true; each argument reads behind the call as it read before'; 0 by the template 'total and deterministic' (their statements: YtmfbonhdjpmbkaaTotals.lean).
  GIVEN WITH THE SEED: the statements are not yours to turn. If you find one false, say at which input.
  Laid BY PROGRAM, IN A SANDBOX (cutbox-rows.mjs): the forced cells as the released guide's own fill.sh prints them over the translation ccf405c868bf3cf3… (all of the seat's roots in one cut). By AI agents, Wed Nov 11 2026. No macro, syntax, notation, axiom, sorry.
-/
import Derived.Test.YtmfbonhdjpmbkaaChecked
import GoSem.Claim
import GoSem.ClaimJoined
import GoSem.ClaimMapViews
import Derived.JoinedTies
import Derived.KernelRfl
namespace Go.Proofs.Ytmfbonhdjpmbkaa
/- THE CELL 'sum', in the pinned program and in every row, IS THE sha256 OF THE DUMP (.gsa) THAT YtmfbonhdjpmbkaaProg.lean LOADS. Nothing in Lean hashes anything: it is a label: what it is worth is what the hold of that sum in a sandbox is worth. -/
noncomputable def Try.pinned : Pinned := { name := "ytmfbonhdjpmbkaa", sum := "ccf405c868bf3cf3b6d3d3a3ccaf425f6df6dd5f14bad265e5522ae47c57800b", checked := Try.checked }
namespace Rows
def none {H : Type} : Left H := { results := [], args := [] }

/-- 'laws.FnExactDefaultSetup': WHATEVER THE INPUT: true; the input reads as it did. -/
def fnExactDefaultSetupSpec : ChangeSpec := { name := "fnExactDefaultSetup", fn := fun _ => fun
  | [] => { results := [.lit (.bool true)], args := [] }
  | _ => none }
def fnExactDefaultSetupRow : OpenClaim := { program := "ytmfbonhdjpmbkaa", sum := "ccf405c868bf3cf3b6d3d3a3ccaf425f6df6dd5f14bad265e5522ae47c57800b", func := "loop.example/g00728/laws.FnExactDefaultSetup", spec := "fnExactDefaultSetup", plainKeys := false, apart := false }
def FnExactDefaultSetupSaid : Prop := fnExactDefaultSetupRow.holds Try.pinned (OpenSpec.ofChange fnExactDefaultSetupSpec)

/-- ITS FALSE NEIGHBOUR: 'it returns false'. Refute it at one input. -/
def fnExactDefaultSetupWrong : ChangeSpec := { name := "fnExactDefaultSetup", fn := fun _ => fun
  | [] => { results := [.lit (.bool false)], args := [] }
  | _ => none }
def FnExactDefaultSetupWrongFalsely : Prop := fnExactDefaultSetupRow.holds Try.pinned (OpenSpec.ofChange fnExactDefaultSetupWrong)

/-- 'laws.FnExactKeysOf': WHATEVER THE INPUT: true; the input reads as it did. -/
def fnExactKeysOfSpec : ChangeSpec := { name := "fnExactKeysOf", fn := fun _ => fun
  | [d1, d2, d3] => { results := [.lit (.bool true)], args := [d1, d2, d3] }
  | _ => none }
def fnExactKeysOfRow : OpenClaim := { program := "ytmfbonhdjpmbkaa", sum := "ccf405c868bf3cf3b6d3d3a3ccaf425f6df6dd5f14bad265e5522ae47c57800b", func := "loop.example/g00728/laws.FnExactKeysOf", spec := "fnExactKeysOf", plainKeys := false, apart := false }
def FnExactKeysOfSaid : Prop := fnExactKeysOfRow.holds Try.pinned (OpenSpec.ofChange fnExactKeysOfSpec)

/-- ITS FALSE NEIGHBOUR: 'it returns false'. Refute it at one input. -/
def fnExactKeysOfWrong : ChangeSpec := { name := "fnExactKeysOf", fn := fun _ => fun
  | [d1, d2, d3] => { results := [.lit (.bool false)], args := [d1, d2, d3] }
  | _ => none }
def FnExactKeysOfWrongFalsely : Prop := fnExactKeysOfRow.holds Try.pinned (OpenSpec.ofChange fnExactKeysOfWrong)

/-- 'laws.FnExactSameAggs': WHATEVER THE INPUT: true; the input reads as it did. -/
def fnExactSameAggsSpec : ChangeSpec := { name := "fnExactSameAggs", fn := fun _ => fun
  | [d1, d2] => { results := [.lit (.bool true)], args := [d1, d2] }
  | _ => none }
def fnExactSameAggsRow : OpenClaim := { program := "ytmfbonhdjpmbkaa", sum := "ccf405c868bf3cf3b6d3d3a3ccaf425f6df6dd5f14bad265e5522ae47c57800b", func := "loop.example/g00728/laws.FnExactSameAggs", spec := "fnExactSameAggs", plainKeys := false, apart := false }
def FnExactSameAggsSaid : Prop := fnExactSameAggsRow.holds Try.pinned (OpenSpec.ofChange fnExactSameAggsSpec)

/-- ITS FALSE NEIGHBOUR: 'it returns false'. Refute it at one input. -/
def fnExactSameAggsWrong : ChangeSpec := { name := "fnExactSameAggs", fn := fun _ => fun
  | [d1, d2] => { results := [.lit (.bool false)], args := [d1, d2] }
  | _ => none }
def FnExactSameAggsWrongFalsely : Prop := fnExactSameAggsRow.holds Try.pinned (OpenSpec.ofChange fnExactSameAggsWrong)

/-- 'laws.FnExactTotalCount': WHATEVER THE INPUT: true; the input reads as it did. -/
def fnExactTotalCountSpec : ChangeSpec := { name := "fnExactTotalCount", fn := fun _ => fun
  | [d] => { results := [.lit (.bool true)], args := [d] }
  | _ => none }
def fnExactTotalCountRow : OpenClaim := { program := "ytmfbonhdjpmbkaa", sum := "ccf405c868bf3cf3b6d3d3a3ccaf425f6df6dd5f14bad265e5522ae47c57800b", func := "loop.example/g00728/laws.FnExactTotalCount", spec := "fnExactTotalCount", plainKeys := false, apart := false }
def FnExactTotalCountSaid : Prop := fnExactTotalCountRow.holds Try.pinned (OpenSpec.ofChange fnExactTotalCountSpec)

/-- ITS FALSE NEIGHBOUR: 'it returns false'. Refute it at one input. -/
def fnExactTotalCountWrong : ChangeSpec := { name := "fnExactTotalCount", fn := fun _ => fun
  | [d] => { results := [.lit (.bool false)], args := [d] }
  | _ => none }
def FnExactTotalCountWrongFalsely : Prop := fnExactTotalCountRow.holds Try.pinned (OpenSpec.ofChange fnExactTotalCountWrong)

/-- 'laws.FnExactEmittedOnce': WHATEVER THE INPUT: true; the input reads as it did. -/
def fnExactEmittedOnceSpec : ChangeSpec := { name := "fnExactEmittedOnce", fn := fun _ => fun
  | [d] => { results := [.lit (.bool true)], args := [d] }
  | _ => none }
def fnExactEmittedOnceRow : OpenClaim := { program := "ytmfbonhdjpmbkaa", sum := "ccf405c868bf3cf3b6d3d3a3ccaf425f6df6dd5f14bad265e5522ae47c57800b", func := "loop.example/g00728/laws.FnExactEmittedOnce", spec := "fnExactEmittedOnce", plainKeys := false, apart := false }
def FnExactEmittedOnceSaid : Prop := fnExactEmittedOnceRow.holds Try.pinned (OpenSpec.ofChange fnExactEmittedOnceSpec)

/-- ITS FALSE NEIGHBOUR: 'it returns false'. Refute it at one input. -/
def fnExactEmittedOnceWrong : ChangeSpec := { name := "fnExactEmittedOnce", fn := fun _ => fun
  | [d] => { results := [.lit (.bool false)], args := [d] }
  | _ => none }
def FnExactEmittedOnceWrongFalsely : Prop := fnExactEmittedOnceRow.holds Try.pinned (OpenSpec.ofChange fnExactEmittedOnceWrong)

/-- 'laws.FnExactInTime': WHATEVER THE INPUT: true; the input reads as it did. -/
def fnExactInTimeSpec : ChangeSpec := { name := "fnExactInTime", fn := fun _ => fun
  | [d1, d2, d3] => { results := [.lit (.bool true)], args := [d1, d2, d3] }
  | _ => none }
def fnExactInTimeRow : OpenClaim := { program := "ytmfbonhdjpmbkaa", sum := "ccf405c868bf3cf3b6d3d3a3ccaf425f6df6dd5f14bad265e5522ae47c57800b", func := "loop.example/g00728/laws.FnExactInTime", spec := "fnExactInTime", unfollowed := true, recurses := true, plainKeys := false, apart := false }
def FnExactInTimeSaid : Prop := fnExactInTimeRow.holds Try.pinned (OpenSpec.ofChange fnExactInTimeSpec)

/-- ITS FALSE NEIGHBOUR: 'it returns false'. Refute it at one input. -/
def fnExactInTimeWrong : ChangeSpec := { name := "fnExactInTime", fn := fun _ => fun
  | [d1, d2, d3] => { results := [.lit (.bool false)], args := [d1, d2, d3] }
  | _ => none }
def FnExactInTimeWrongFalsely : Prop := fnExactInTimeRow.holds Try.pinned (OpenSpec.ofChange fnExactInTimeWrong)

/-- 'laws.FnExactEmittedInOrder': WHATEVER THE INPUT: true; the input reads as it did. -/
def fnExactEmittedInOrderSpec : ChangeSpec := { name := "fnExactEmittedInOrder", fn := fun _ => fun
  | [d1, d2] => { results := [.lit (.bool true)], args := [d1, d2] }
  | _ => none }
def fnExactEmittedInOrderRow : OpenClaim := { program := "ytmfbonhdjpmbkaa", sum := "ccf405c868bf3cf3b6d3d3a3ccaf425f6df6dd5f14bad265e5522ae47c57800b", func := "loop.example/g00728/laws.FnExactEmittedInOrder", spec := "fnExactEmittedInOrder", unfollowed := true, recurses := true, plainKeys := false, apart := false }
def FnExactEmittedInOrderSaid : Prop := fnExactEmittedInOrderRow.holds Try.pinned (OpenSpec.ofChange fnExactEmittedInOrderSpec)

/-- ITS FALSE NEIGHBOUR: 'it returns false'. Refute it at one input. -/
def fnExactEmittedInOrderWrong : ChangeSpec := { name := "fnExactEmittedInOrder", fn := fun _ => fun
  | [d1, d2] => { results := [.lit (.bool false)], args := [d1, d2] }
  | _ => none }
def FnExactEmittedInOrderWrongFalsely : Prop := fnExactEmittedInOrderRow.holds Try.pinned (OpenSpec.ofChange fnExactEmittedInOrderWrong)

/-- 'laws.FnExactInFlight': WHATEVER THE INPUT: true; the input reads as it did. -/
def fnExactInFlightSpec : ChangeSpec := { name := "fnExactInFlight", fn := fun _ => fun
  | [d] => { results := [.lit (.bool true)], args := [d] }
  | _ => none }
def fnExactInFlightRow : OpenClaim := { program := "ytmfbonhdjpmbkaa", sum := "ccf405c868bf3cf3b6d3d3a3ccaf425f6df6dd5f14bad265e5522ae47c57800b", func := "loop.example/g00728/laws.FnExactInFlight", spec := "fnExactInFlight", plainKeys := false, apart := false }
def FnExactInFlightSaid : Prop := fnExactInFlightRow.holds Try.pinned (OpenSpec.ofChange fnExactInFlightSpec)

/-- ITS FALSE NEIGHBOUR: 'it returns false'. Refute it at one input. -/
def fnExactInFlightWrong : ChangeSpec := { name := "fnExactInFlight", fn := fun _ => fun
  | [d] => { results := [.lit (.bool false)], args := [d] }
  | _ => none }
def FnExactInFlightWrongFalsely : Prop := fnExactInFlightRow.holds Try.pinned (OpenSpec.ofChange fnExactInFlightWrong)

/-- 'laws.FnExactNewEngine': WHATEVER THE INPUT: true; the input reads as it did. -/
def fnExactNewEngineSpec : ChangeSpec := { name := "fnExactNewEngine", fn := fun _ => fun
  | [d] => { results := [.lit (.bool true)], args := [d] }
  | _ => none }
def fnExactNewEngineRow : OpenClaim := { program := "ytmfbonhdjpmbkaa", sum := "ccf405c868bf3cf3b6d3d3a3ccaf425f6df6dd5f14bad265e5522ae47c57800b", func := "loop.example/g00728/laws.FnExactNewEngine", spec := "fnExactNewEngine", plainKeys := false, apart := false }
def FnExactNewEngineSaid : Prop := fnExactNewEngineRow.holds Try.pinned (OpenSpec.ofChange fnExactNewEngineSpec)

/-- ITS FALSE NEIGHBOUR: 'it returns false'. Refute it at one input. -/
def fnExactNewEngineWrong : ChangeSpec := { name := "fnExactNewEngine", fn := fun _ => fun
  | [d] => { results := [.lit (.bool false)], args := [d] }
  | _ => none }
def FnExactNewEngineWrongFalsely : Prop := fnExactNewEngineRow.holds Try.pinned (OpenSpec.ofChange fnExactNewEngineWrong)

/-- 'laws.FnExactKeyTotals': WHATEVER THE INPUT: true; the input reads as it did. -/
def fnExactKeyTotalsSpec : ChangeSpec := { name := "fnExactKeyTotals", fn := fun _ => fun
  | [d] => { results := [.lit (.bool true)], args := [d] }
  | _ => none }
def fnExactKeyTotalsRow : OpenClaim := { program := "ytmfbonhdjpmbkaa", sum := "ccf405c868bf3cf3b6d3d3a3ccaf425f6df6dd5f14bad265e5522ae47c57800b", func := "loop.example/g00728/laws.FnExactKeyTotals", spec := "fnExactKeyTotals", unfollowed := true, recurses := true, plainKeys := false, apart := false }
def FnExactKeyTotalsSaid : Prop := fnExactKeyTotalsRow.holds Try.pinned (OpenSpec.ofChange fnExactKeyTotalsSpec)

/-- ITS FALSE NEIGHBOUR: 'it returns false'. Refute it at one input. -/
def fnExactKeyTotalsWrong : ChangeSpec := { name := "fnExactKeyTotals", fn := fun _ => fun
  | [d] => { results := [.lit (.bool false)], args := [d] }
  | _ => none }
def FnExactKeyTotalsWrongFalsely : Prop := fnExactKeyTotalsRow.holds Try.pinned (OpenSpec.ofChange fnExactKeyTotalsWrong)

/-- 'laws.FnExactMergeLists': WHATEVER THE INPUT: true; the input reads as it did. -/
def fnExactMergeListsSpec : ChangeSpec := { name := "fnExactMergeLists", fn := fun _ => fun
  | [d1, d2] => { results := [.lit (.bool true)], args := [d1, d2] }
  | _ => none }
def fnExactMergeListsRow : OpenClaim := { program := "ytmfbonhdjpmbkaa", sum := "ccf405c868bf3cf3b6d3d3a3ccaf425f6df6dd5f14bad265e5522ae47c57800b", func := "loop.example/g00728/laws.FnExactMergeLists", spec := "fnExactMergeLists", unfollowed := true, recurses := true, plainKeys := false, apart := false }
def FnExactMergeListsSaid : Prop := fnExactMergeListsRow.holds Try.pinned (OpenSpec.ofChange fnExactMergeListsSpec)

/-- ITS FALSE NEIGHBOUR: 'it returns false'. Refute it at one input. -/
def fnExactMergeListsWrong : ChangeSpec := { name := "fnExactMergeLists", fn := fun _ => fun
  | [d1, d2] => { results := [.lit (.bool false)], args := [d1, d2] }
  | _ => none }
def FnExactMergeListsWrongFalsely : Prop := fnExactMergeListsRow.holds Try.pinned (OpenSpec.ofChange fnExactMergeListsWrong)

/- THE SECOND FORM. 'bulk': how many values and letters a reading holds, each counted each time it is reached (what is shared counts as often as it is met; a slice's spare places count too). A statement '..UptoSaid' is the law's where the arguments, and the package variables that the reading takes, are together of bulk at most 1048576: NARROWER than '..Said'. Prove '..Said' where nothing that the law and all that it calls make is longer than what came in: it says more and counts as full. Else prove '..UptoSaid'. A law counts once. -/
mutual
def uptoBulk {H : Type} : DataW H → Nat
  | .lit (.string bytes) => bytes.length + 1
  | .lit _ => 1
  | .nil => 1
  | .ptr d => uptoBulk d + 1
  | .slice elems spare => uptoBulkAll elems + uptoBulkAll spare + 1
  | .agg parts => uptoBulkAll parts + 1
  | .iface _ d => uptoBulk d + 1
  | .map entries => uptoBulkEntries entries + 1
  | .held _ => 1
def uptoBulkAll {H : Type} : List (DataW H) → Nat
  | [] => 0
  | d :: r => uptoBulk d + uptoBulkAll r
def uptoBulkEntries {H : Type} : List (Lit × DataW H) → Nat
  | [] => 0
  | x :: r => uptoBulkEntry x + uptoBulkEntries r
def uptoBulkEntry {H : Type} : Lit × DataW H → Nat
  | (.string bytes, d) => bytes.length + uptoBulk d + 1
  | (_, d) => uptoBulk d + 1
 end
def uptoSmall : (H : Type) → List (DataW H) → Bool := fun _ ds => decide (uptoBulkAll ds ≤ 1048576)
def OpenSpec.upto (s : _root_.Go.ChangeSpec) : _root_.Go.OpenSpec := { _root_.Go.OpenSpec.ofChange s with cond := some uptoSmall }

/-- 'laws.FnExactDefaultSetup', WHERE WHAT IT READS IS OF BULK AT MOST 1048576: true; the input reads as it did. -/
def fnExactDefaultSetupUptoRow : OpenClaim := { program := "ytmfbonhdjpmbkaa", sum := "ccf405c868bf3cf3b6d3d3a3ccaf425f6df6dd5f14bad265e5522ae47c57800b", func := "loop.example/g00728/laws.FnExactDefaultSetup", spec := "fnExactDefaultSetup", plainKeys := false, apart := false, narrowed := true }
def FnExactDefaultSetupUptoSaid : Prop := fnExactDefaultSetupUptoRow.holds Try.pinned (OpenSpec.upto fnExactDefaultSetupSpec)

/-- 'laws.FnExactKeysOf', WHERE WHAT IT READS IS OF BULK AT MOST 1048576: true; the input reads as it did. -/
def fnExactKeysOfUptoRow : OpenClaim := { program := "ytmfbonhdjpmbkaa", sum := "ccf405c868bf3cf3b6d3d3a3ccaf425f6df6dd5f14bad265e5522ae47c57800b", func := "loop.example/g00728/laws.FnExactKeysOf", spec := "fnExactKeysOf", plainKeys := false, apart := false, narrowed := true }
def FnExactKeysOfUptoSaid : Prop := fnExactKeysOfUptoRow.holds Try.pinned (OpenSpec.upto fnExactKeysOfSpec)

/-- 'laws.FnExactSameAggs', WHERE WHAT IT READS IS OF BULK AT MOST 1048576: true; the input reads as it did. -/
def fnExactSameAggsUptoRow : OpenClaim := { program := "ytmfbonhdjpmbkaa", sum := "ccf405c868bf3cf3b6d3d3a3ccaf425f6df6dd5f14bad265e5522ae47c57800b", func := "loop.example/g00728/laws.FnExactSameAggs", spec := "fnExactSameAggs", plainKeys := false, apart := false, narrowed := true }
def FnExactSameAggsUptoSaid : Prop := fnExactSameAggsUptoRow.holds Try.pinned (OpenSpec.upto fnExactSameAggsSpec)

/-- 'laws.FnExactTotalCount', WHERE WHAT IT READS IS OF BULK AT MOST 1048576: true; the input reads as it did. -/
def fnExactTotalCountUptoRow : OpenClaim := { program := "ytmfbonhdjpmbkaa", sum := "ccf405c868bf3cf3b6d3d3a3ccaf425f6df6dd5f14bad265e5522ae47c57800b", func := "loop.example/g00728/laws.FnExactTotalCount", spec := "fnExactTotalCount", plainKeys := false, apart := false, narrowed := true }
def FnExactTotalCountUptoSaid : Prop := fnExactTotalCountUptoRow.holds Try.pinned (OpenSpec.upto fnExactTotalCountSpec)

/-- 'laws.FnExactEmittedOnce', WHERE WHAT IT READS IS OF BULK AT MOST 1048576: true; the input reads as it did. -/
def fnExactEmittedOnceUptoRow : OpenClaim := { program := "ytmfbonhdjpmbkaa", sum := "ccf405c868bf3cf3b6d3d3a3ccaf425f6df6dd5f14bad265e5522ae47c57800b", func := "loop.example/g00728/laws.FnExactEmittedOnce", spec := "fnExactEmittedOnce", plainKeys := false, apart := false, narrowed := true }
def FnExactEmittedOnceUptoSaid : Prop := fnExactEmittedOnceUptoRow.holds Try.pinned (OpenSpec.upto fnExactEmittedOnceSpec)

/-- 'laws.FnExactInTime', WHERE WHAT IT READS IS OF BULK AT MOST 1048576: true; the input reads as it did. -/
def fnExactInTimeUptoRow : OpenClaim := { program := "ytmfbonhdjpmbkaa", sum := "ccf405c868bf3cf3b6d3d3a3ccaf425f6df6dd5f14bad265e5522ae47c57800b", func := "loop.example/g00728/laws.FnExactInTime", spec := "fnExactInTime", unfollowed := true, recurses := true, plainKeys := false, apart := false, narrowed := true }
def FnExactInTimeUptoSaid : Prop := fnExactInTimeUptoRow.holds Try.pinned (OpenSpec.upto fnExactInTimeSpec)

/-- 'laws.FnExactEmittedInOrder', WHERE WHAT IT READS IS OF BULK AT MOST 1048576: true; the input reads as it did. -/
def fnExactEmittedInOrderUptoRow : OpenClaim := { program := "ytmfbonhdjpmbkaa", sum := "ccf405c868bf3cf3b6d3d3a3ccaf425f6df6dd5f14bad265e5522ae47c57800b", func := "loop.example/g00728/laws.FnExactEmittedInOrder", spec := "fnExactEmittedInOrder", unfollowed := true, recurses := true, plainKeys := false, apart := false, narrowed := true }
def FnExactEmittedInOrderUptoSaid : Prop := fnExactEmittedInOrderUptoRow.holds Try.pinned (OpenSpec.upto fnExactEmittedInOrderSpec)

/-- 'laws.FnExactInFlight', WHERE WHAT IT READS IS OF BULK AT MOST 1048576: true; the input reads as it did. -/
def fnExactInFlightUptoRow : OpenClaim := { program := "ytmfbonhdjpmbkaa", sum := "ccf405c868bf3cf3b6d3d3a3ccaf425f6df6dd5f14bad265e5522ae47c57800b", func := "loop.example/g00728/laws.FnExactInFlight", spec := "fnExactInFlight", plainKeys := false, apart := false, narrowed := true }
def FnExactInFlightUptoSaid : Prop := fnExactInFlightUptoRow.holds Try.pinned (OpenSpec.upto fnExactInFlightSpec)

/-- 'laws.FnExactNewEngine', WHERE WHAT IT READS IS OF BULK AT MOST 1048576: true; the input reads as it did. -/
def fnExactNewEngineUptoRow : OpenClaim := { program := "ytmfbonhdjpmbkaa", sum := "ccf405c868bf3cf3b6d3d3a3ccaf425f6df6dd5f14bad265e5522ae47c57800b", func := "loop.example/g00728/laws.FnExactNewEngine", spec := "fnExactNewEngine", plainKeys := false, apart := false, narrowed := true }
def FnExactNewEngineUptoSaid : Prop := fnExactNewEngineUptoRow.holds Try.pinned (OpenSpec.upto fnExactNewEngineSpec)

/-- 'laws.FnExactKeyTotals', WHERE WHAT IT READS IS OF BULK AT MOST 1048576: true; the input reads as it did. -/
def fnExactKeyTotalsUptoRow : OpenClaim := { program := "ytmfbonhdjpmbkaa", sum := "ccf405c868bf3cf3b6d3d3a3ccaf425f6df6dd5f14bad265e5522ae47c57800b", func := "loop.example/g00728/laws.FnExactKeyTotals", spec := "fnExactKeyTotals", unfollowed := true, recurses := true, plainKeys := false, apart := false, narrowed := true }
def FnExactKeyTotalsUptoSaid : Prop := fnExactKeyTotalsUptoRow.holds Try.pinned (OpenSpec.upto fnExactKeyTotalsSpec)

/-- 'laws.FnExactMergeLists', WHERE WHAT IT READS IS OF BULK AT MOST 1048576: true; the input reads as it did. -/
def fnExactMergeListsUptoRow : OpenClaim := { program := "ytmfbonhdjpmbkaa", sum := "ccf405c868bf3cf3b6d3d3a3ccaf425f6df6dd5f14bad265e5522ae47c57800b", func := "loop.example/g00728/laws.FnExactMergeLists", spec := "fnExactMergeLists", unfollowed := true, recurses := true, plainKeys := false, apart := false, narrowed := true }
def FnExactMergeListsUptoSaid : Prop := fnExactMergeListsUptoRow.holds Try.pinned (OpenSpec.upto fnExactMergeListsSpec)

end Rows
end Go.Proofs.Ytmfbonhdjpmbkaa
