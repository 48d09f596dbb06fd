/-
  No cell of these rows narrows 'for every input' (looked for: loops, veiled, ifaces, maps, wideKeys, modest, calm, conditions, laid).
  DERIVED. THE GIVEN ROWS OF THIS SEAT. 6 by the template 'for every input the law returns true; each argument reads behind the call as it read before'; 0 by the template 'total and deterministic' (their statements: YtopemdjgbaonmaaTotals.lean).
  GIVEN WITH THE SEED: the statements are not yours to turn. If you find one false, say at which input.
  Laid BY PROGRAM, IN A SANDBOX (cutbox-rows.mjs): the forced cells as the released guide's own fill.sh prints them over the translation 09395ae429455985… (all of the seat's roots in one cut). By AI agents, Wed Nov 11 2026. No macro, syntax, notation, axiom, sorry.
-/
import Derived.Test.YtopemdjgbaonmaaChecked
import GoSem.Claim
import GoSem.ClaimJoined
import GoSem.ClaimMapViews
import Derived.JoinedTies
import Derived.KernelRfl
namespace Go.Proofs.Ytopemdjgbaonmaa
/- THE CELL 'sum', in the pinned program and in every row, IS THE sha256 OF THE DUMP (.gsa) THAT YtopemdjgbaonmaaProg.lean LOADS. Nothing in Lean hashes anything: it is a label: what it is worth is what the hold of that sum in a sandbox is worth. -/
noncomputable def Try.pinned : Pinned := { name := "ytopemdjgbaonmaa", sum := "09395ae429455985281e085acf6bc735ced588c1efc96d9729e096447a29ffa4", checked := Try.checked }
namespace Rows
def none {H : Type} : Left H := { results := [], args := [] }

/-- 'laws.FnExactTotalOf': WHATEVER THE INPUT: true; the input reads as it did. -/
def fnExactTotalOfSpec : ChangeSpec := { name := "fnExactTotalOf", fn := fun _ => fun
  | [d] => { results := [.lit (.bool true)], args := [d] }
  | _ => none }
def fnExactTotalOfRow : OpenClaim := { program := "ytopemdjgbaonmaa", sum := "09395ae429455985281e085acf6bc735ced588c1efc96d9729e096447a29ffa4", func := "loop.example/g00728/laws.FnExactTotalOf", spec := "fnExactTotalOf", unfollowed := true, recurses := true, plainKeys := false, apart := false }
def FnExactTotalOfSaid : Prop := fnExactTotalOfRow.holds Try.pinned (OpenSpec.ofChange fnExactTotalOfSpec)

/-- ITS FALSE NEIGHBOUR: 'it returns false'. Refute it at one input. -/
def fnExactTotalOfWrong : ChangeSpec := { name := "fnExactTotalOf", fn := fun _ => fun
  | [d] => { results := [.lit (.bool false)], args := [d] }
  | _ => none }
def FnExactTotalOfWrongFalsely : Prop := fnExactTotalOfRow.holds Try.pinned (OpenSpec.ofChange fnExactTotalOfWrong)

/-- 'laws.FnExactReadable': WHATEVER THE INPUT: true; the input reads as it did. -/
def fnExactReadableSpec : ChangeSpec := { name := "fnExactReadable", fn := fun _ => fun
  | [d1, d2] => { results := [.lit (.bool true)], args := [d1, d2] }
  | _ => none }
def fnExactReadableRow : OpenClaim := { program := "ytopemdjgbaonmaa", sum := "09395ae429455985281e085acf6bc735ced588c1efc96d9729e096447a29ffa4", func := "loop.example/g00728/laws.FnExactReadable", spec := "fnExactReadable", plainKeys := false, apart := false }
def FnExactReadableSaid : Prop := fnExactReadableRow.holds Try.pinned (OpenSpec.ofChange fnExactReadableSpec)

/-- ITS FALSE NEIGHBOUR: 'it returns false'. Refute it at one input. -/
def fnExactReadableWrong : ChangeSpec := { name := "fnExactReadable", fn := fun _ => fun
  | [d1, d2] => { results := [.lit (.bool false)], args := [d1, d2] }
  | _ => none }
def FnExactReadableWrongFalsely : Prop := fnExactReadableRow.holds Try.pinned (OpenSpec.ofChange fnExactReadableWrong)

/-- 'laws.FnExactFramesLeft': WHATEVER THE INPUT: true; the input reads as it did. -/
def fnExactFramesLeftSpec : ChangeSpec := { name := "fnExactFramesLeft", fn := fun _ => fun
  | [d] => { results := [.lit (.bool true)], args := [d] }
  | _ => none }
def fnExactFramesLeftRow : OpenClaim := { program := "ytopemdjgbaonmaa", sum := "09395ae429455985281e085acf6bc735ced588c1efc96d9729e096447a29ffa4", func := "loop.example/g00728/laws.FnExactFramesLeft", spec := "fnExactFramesLeft", plainKeys := false, apart := false }
def FnExactFramesLeftSaid : Prop := fnExactFramesLeftRow.holds Try.pinned (OpenSpec.ofChange fnExactFramesLeftSpec)

/-- ITS FALSE NEIGHBOUR: 'it returns false'. Refute it at one input. -/
def fnExactFramesLeftWrong : ChangeSpec := { name := "fnExactFramesLeft", fn := fun _ => fun
  | [d] => { results := [.lit (.bool false)], args := [d] }
  | _ => none }
def FnExactFramesLeftWrongFalsely : Prop := fnExactFramesLeftRow.holds Try.pinned (OpenSpec.ofChange fnExactFramesLeftWrong)

/-- 'laws.FnExactEventsIn': WHATEVER THE INPUT: true; the input reads as it did. -/
def fnExactEventsInSpec : ChangeSpec := { name := "fnExactEventsIn", fn := fun _ => fun
  | [d] => { results := [.lit (.bool true)], args := [d] }
  | _ => none }
def fnExactEventsInRow : OpenClaim := { program := "ytopemdjgbaonmaa", sum := "09395ae429455985281e085acf6bc735ced588c1efc96d9729e096447a29ffa4", func := "loop.example/g00728/laws.FnExactEventsIn", spec := "fnExactEventsIn", plainKeys := false, apart := false }
def FnExactEventsInSaid : Prop := fnExactEventsInRow.holds Try.pinned (OpenSpec.ofChange fnExactEventsInSpec)

/-- ITS FALSE NEIGHBOUR: 'it returns false'. Refute it at one input. -/
def fnExactEventsInWrong : ChangeSpec := { name := "fnExactEventsIn", fn := fun _ => fun
  | [d] => { results := [.lit (.bool false)], args := [d] }
  | _ => none }
def FnExactEventsInWrongFalsely : Prop := fnExactEventsInRow.holds Try.pinned (OpenSpec.ofChange fnExactEventsInWrong)

/-- 'laws.FnExactEmittedOnce': WHATEVER THE INPUT: true; the input reads as it did. -/
def fnExactEmittedOnceSpec : ChangeSpec := { name := "fnExactEmittedOnce", fn := fun _ => fun
  | [d] => { results := [.lit (.bool true)], args := [d] }
  | _ => none }
def fnExactEmittedOnceRow : OpenClaim := { program := "ytopemdjgbaonmaa", sum := "09395ae429455985281e085acf6bc735ced588c1efc96d9729e096447a29ffa4", func := "loop.example/g00728/laws.FnExactEmittedOnce", spec := "fnExactEmittedOnce", plainKeys := false, apart := false }
def FnExactEmittedOnceSaid : Prop := fnExactEmittedOnceRow.holds Try.pinned (OpenSpec.ofChange fnExactEmittedOnceSpec)

/-- ITS FALSE NEIGHBOUR: 'it returns false'. Refute it at one input. -/
def fnExactEmittedOnceWrong : ChangeSpec := { name := "fnExactEmittedOnce", fn := fun _ => fun
  | [d] => { results := [.lit (.bool false)], args := [d] }
  | _ => none }
def FnExactEmittedOnceWrongFalsely : Prop := fnExactEmittedOnceRow.holds Try.pinned (OpenSpec.ofChange fnExactEmittedOnceWrong)

/-- 'laws.FnExactKeyTotals': WHATEVER THE INPUT: true; the input reads as it did. -/
def fnExactKeyTotalsSpec : ChangeSpec := { name := "fnExactKeyTotals", fn := fun _ => fun
  | [d] => { results := [.lit (.bool true)], args := [d] }
  | _ => none }
def fnExactKeyTotalsRow : OpenClaim := { program := "ytopemdjgbaonmaa", sum := "09395ae429455985281e085acf6bc735ced588c1efc96d9729e096447a29ffa4", func := "loop.example/g00728/laws.FnExactKeyTotals", spec := "fnExactKeyTotals", unfollowed := true, recurses := true, plainKeys := false, apart := false }
def FnExactKeyTotalsSaid : Prop := fnExactKeyTotalsRow.holds Try.pinned (OpenSpec.ofChange fnExactKeyTotalsSpec)

/-- ITS FALSE NEIGHBOUR: 'it returns false'. Refute it at one input. -/
def fnExactKeyTotalsWrong : ChangeSpec := { name := "fnExactKeyTotals", fn := fun _ => fun
  | [d] => { results := [.lit (.bool false)], args := [d] }
  | _ => none }
def FnExactKeyTotalsWrongFalsely : Prop := fnExactKeyTotalsRow.holds Try.pinned (OpenSpec.ofChange fnExactKeyTotalsWrong)

/- THE SECOND FORM. 'bulk': how many values and letters a reading holds, each counted each time it is reached (what is shared counts as often as it is met; a slice's spare places count too). A statement '..UptoSaid' is the law's where the arguments, and the package variables that the reading takes, are together of bulk at most 1048576: NARROWER than '..Said'. Prove '..Said' where nothing that the law and all that it calls make is longer than what came in: it says more and counts as full. Else prove '..UptoSaid'. A law counts once. -/
mutual
def uptoBulk {H : Type} : DataW H → Nat
  | .lit (.string bytes) => bytes.length + 1
  | .lit _ => 1
  | .nil => 1
  | .ptr d => uptoBulk d + 1
  | .slice elems spare => uptoBulkAll elems + uptoBulkAll spare + 1
  | .agg parts => uptoBulkAll parts + 1
  | .iface _ d => uptoBulk d + 1
  | .map entries => uptoBulkEntries entries + 1
  | .held _ => 1
def uptoBulkAll {H : Type} : List (DataW H) → Nat
  | [] => 0
  | d :: r => uptoBulk d + uptoBulkAll r
def uptoBulkEntries {H : Type} : List (Lit × DataW H) → Nat
  | [] => 0
  | x :: r => uptoBulkEntry x + uptoBulkEntries r
def uptoBulkEntry {H : Type} : Lit × DataW H → Nat
  | (.string bytes, d) => bytes.length + uptoBulk d + 1
  | (_, d) => uptoBulk d + 1
 end
def uptoSmall : (H : Type) → List (DataW H) → Bool := fun _ ds => decide (uptoBulkAll ds ≤ 1048576)
def OpenSpec.upto (s : _root_.Go.ChangeSpec) : _root_.Go.OpenSpec := { _root_.Go.OpenSpec.ofChange s with cond := some uptoSmall }

/-- 'laws.FnExactTotalOf', WHERE WHAT IT READS IS OF BULK AT MOST 1048576: true; the input reads as it did. -/
def fnExactTotalOfUptoRow : OpenClaim := { program := "ytopemdjgbaonmaa", sum := "09395ae429455985281e085acf6bc735ced588c1efc96d9729e096447a29ffa4", func := "loop.example/g00728/laws.FnExactTotalOf", spec := "fnExactTotalOf", unfollowed := true, recurses := true, plainKeys := false, apart := false, narrowed := true }
def FnExactTotalOfUptoSaid : Prop := fnExactTotalOfUptoRow.holds Try.pinned (OpenSpec.upto fnExactTotalOfSpec)

/-- 'laws.FnExactReadable', WHERE WHAT IT READS IS OF BULK AT MOST 1048576: true; the input reads as it did. -/
def fnExactReadableUptoRow : OpenClaim := { program := "ytopemdjgbaonmaa", sum := "09395ae429455985281e085acf6bc735ced588c1efc96d9729e096447a29ffa4", func := "loop.example/g00728/laws.FnExactReadable", spec := "fnExactReadable", plainKeys := false, apart := false, narrowed := true }
def FnExactReadableUptoSaid : Prop := fnExactReadableUptoRow.holds Try.pinned (OpenSpec.upto fnExactReadableSpec)

/-- 'laws.FnExactFramesLeft', WHERE WHAT IT READS IS OF BULK AT MOST 1048576: true; the input reads as it did. -/
def fnExactFramesLeftUptoRow : OpenClaim := { program := "ytopemdjgbaonmaa", sum := "09395ae429455985281e085acf6bc735ced588c1efc96d9729e096447a29ffa4", func := "loop.example/g00728/laws.FnExactFramesLeft", spec := "fnExactFramesLeft", plainKeys := false, apart := false, narrowed := true }
def FnExactFramesLeftUptoSaid : Prop := fnExactFramesLeftUptoRow.holds Try.pinned (OpenSpec.upto fnExactFramesLeftSpec)

/-- 'laws.FnExactEventsIn', WHERE WHAT IT READS IS OF BULK AT MOST 1048576: true; the input reads as it did. -/
def fnExactEventsInUptoRow : OpenClaim := { program := "ytopemdjgbaonmaa", sum := "09395ae429455985281e085acf6bc735ced588c1efc96d9729e096447a29ffa4", func := "loop.example/g00728/laws.FnExactEventsIn", spec := "fnExactEventsIn", plainKeys := false, apart := false, narrowed := true }
def FnExactEventsInUptoSaid : Prop := fnExactEventsInUptoRow.holds Try.pinned (OpenSpec.upto fnExactEventsInSpec)

/-- 'laws.FnExactEmittedOnce', WHERE WHAT IT READS IS OF BULK AT MOST 1048576: true; the input reads as it did. -/
def fnExactEmittedOnceUptoRow : OpenClaim := { program := "ytopemdjgbaonmaa", sum := "09395ae429455985281e085acf6bc735ced588c1efc96d9729e096447a29ffa4", func := "loop.example/g00728/laws.FnExactEmittedOnce", spec := "fnExactEmittedOnce", plainKeys := false, apart := false, narrowed := true }
def FnExactEmittedOnceUptoSaid : Prop := fnExactEmittedOnceUptoRow.holds Try.pinned (OpenSpec.upto fnExactEmittedOnceSpec)

/-- 'laws.FnExactKeyTotals', WHERE WHAT IT READS IS OF BULK AT MOST 1048576: true; the input reads as it did. -/
def fnExactKeyTotalsUptoRow : OpenClaim := { program := "ytopemdjgbaonmaa", sum := "09395ae429455985281e085acf6bc735ced588c1efc96d9729e096447a29ffa4", func := "loop.example/g00728/laws.FnExactKeyTotals", spec := "fnExactKeyTotals", unfollowed := true, recurses := true, plainKeys := false, apart := false, narrowed := true }
def FnExactKeyTotalsUptoSaid : Prop := fnExactKeyTotalsUptoRow.holds Try.pinned (OpenSpec.upto fnExactKeyTotalsSpec)

end Rows
end Go.Proofs.Ytopemdjgbaonmaa
