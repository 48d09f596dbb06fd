/-
  No cell of these rows narrows 'for every input' (looked for: loops, veiled, ifaces, maps, wideKeys, modest, calm, conditions, laid).
  DERIVED. THE GIVEN ROWS OF THIS SEAT. 9 by the template 'for every input the law returns true; each argument reads behind the call as it read before'; 0 by the template 'total and deterministic' (their statements: YtmoebcnkdccheaaTotals.lean).
  GIVEN WITH THE SEED: the statements are not yours to turn. If you find one false, say at which input.
  Laid BY PROGRAM, IN A SANDBOX (cutbox-rows.mjs): the forced cells as the released guide's own fill.sh prints them over the translation 86954cd8af18fcba… (all of the seat's roots in one cut). By AI agents, Wed Nov 11 2026. No macro, syntax, notation, axiom, sorry.
-/
import Derived.Test.YtmoebcnkdccheaaChecked
import GoSem.Claim
import GoSem.ClaimJoined
import GoSem.ClaimMapViews
import Derived.JoinedTies
import Derived.KernelRfl
namespace Go.Proofs.Ytmoebcnkdccheaa
/- THE CELL 'sum', in the pinned program and in every row, IS THE sha256 OF THE DUMP (.gsa) THAT YtmoebcnkdccheaaProg.lean LOADS. Nothing in Lean hashes anything: it is a label: what it is worth is what the hold of that sum in a sandbox is worth. -/
noncomputable def Try.pinned : Pinned := { name := "ytmoebcnkdccheaa", sum := "86954cd8af18fcbafe07ac574fde2dd2ae9a484eb033e6b1bd9db87a40e1b56e", checked := Try.checked }
namespace Rows
def none {H : Type} : Left H := { results := [], args := [] }

/-- 'laws.FnExactEventsIn': WHATEVER THE INPUT: true; the input reads as it did. -/
def fnExactEventsInSpec : ChangeSpec := { name := "fnExactEventsIn", fn := fun _ => fun
  | [d] => { results := [.lit (.bool true)], args := [d] }
  | _ => none }
def fnExactEventsInRow : OpenClaim := { program := "ytmoebcnkdccheaa", sum := "86954cd8af18fcbafe07ac574fde2dd2ae9a484eb033e6b1bd9db87a40e1b56e", func := "loop.example/g00728/laws.FnExactEventsIn", spec := "fnExactEventsIn", plainKeys := false, apart := false }
def FnExactEventsInSaid : Prop := fnExactEventsInRow.holds Try.pinned (OpenSpec.ofChange fnExactEventsInSpec)

/-- ITS FALSE NEIGHBOUR: 'it returns false'. Refute it at one input. -/
def fnExactEventsInWrong : ChangeSpec := { name := "fnExactEventsIn", fn := fun _ => fun
  | [d] => { results := [.lit (.bool false)], args := [d] }
  | _ => none }
def FnExactEventsInWrongFalsely : Prop := fnExactEventsInRow.holds Try.pinned (OpenSpec.ofChange fnExactEventsInWrong)

/-- 'laws.FnExactInFlight': WHATEVER THE INPUT: true; the input reads as it did. -/
def fnExactInFlightSpec : ChangeSpec := { name := "fnExactInFlight", fn := fun _ => fun
  | [d] => { results := [.lit (.bool true)], args := [d] }
  | _ => none }
def fnExactInFlightRow : OpenClaim := { program := "ytmoebcnkdccheaa", sum := "86954cd8af18fcbafe07ac574fde2dd2ae9a484eb033e6b1bd9db87a40e1b56e", func := "loop.example/g00728/laws.FnExactInFlight", spec := "fnExactInFlight", plainKeys := false, apart := false }
def FnExactInFlightSaid : Prop := fnExactInFlightRow.holds Try.pinned (OpenSpec.ofChange fnExactInFlightSpec)

/-- ITS FALSE NEIGHBOUR: 'it returns false'. Refute it at one input. -/
def fnExactInFlightWrong : ChangeSpec := { name := "fnExactInFlight", fn := fun _ => fun
  | [d] => { results := [.lit (.bool false)], args := [d] }
  | _ => none }
def FnExactInFlightWrongFalsely : Prop := fnExactInFlightRow.holds Try.pinned (OpenSpec.ofChange fnExactInFlightWrong)

/-- 'laws.FnExactNewEngine': WHATEVER THE INPUT: true; the input reads as it did. -/
def fnExactNewEngineSpec : ChangeSpec := { name := "fnExactNewEngine", fn := fun _ => fun
  | [d] => { results := [.lit (.bool true)], args := [d] }
  | _ => none }
def fnExactNewEngineRow : OpenClaim := { program := "ytmoebcnkdccheaa", sum := "86954cd8af18fcbafe07ac574fde2dd2ae9a484eb033e6b1bd9db87a40e1b56e", func := "loop.example/g00728/laws.FnExactNewEngine", spec := "fnExactNewEngine", plainKeys := false, apart := false }
def FnExactNewEngineSaid : Prop := fnExactNewEngineRow.holds Try.pinned (OpenSpec.ofChange fnExactNewEngineSpec)

/-- ITS FALSE NEIGHBOUR: 'it returns false'. Refute it at one input. -/
def fnExactNewEngineWrong : ChangeSpec := { name := "fnExactNewEngine", fn := fun _ => fun
  | [d] => { results := [.lit (.bool false)], args := [d] }
  | _ => none }
def FnExactNewEngineWrongFalsely : Prop := fnExactNewEngineRow.holds Try.pinned (OpenSpec.ofChange fnExactNewEngineWrong)

/-- 'laws.FnExactFoldAll': WHATEVER THE INPUT: true; the input reads as it did. -/
def fnExactFoldAllSpec : ChangeSpec := { name := "fnExactFoldAll", fn := fun _ => fun
  | [d1, d2] => { results := [.lit (.bool true)], args := [d1, d2] }
  | _ => none }
def fnExactFoldAllRow : OpenClaim := { program := "ytmoebcnkdccheaa", sum := "86954cd8af18fcbafe07ac574fde2dd2ae9a484eb033e6b1bd9db87a40e1b56e", func := "loop.example/g00728/laws.FnExactFoldAll", spec := "fnExactFoldAll", unfollowed := true, recurses := true, plainKeys := false, apart := false }
def FnExactFoldAllSaid : Prop := fnExactFoldAllRow.holds Try.pinned (OpenSpec.ofChange fnExactFoldAllSpec)

/-- ITS FALSE NEIGHBOUR: 'it returns false'. Refute it at one input. -/
def fnExactFoldAllWrong : ChangeSpec := { name := "fnExactFoldAll", fn := fun _ => fun
  | [d1, d2] => { results := [.lit (.bool false)], args := [d1, d2] }
  | _ => none }
def FnExactFoldAllWrongFalsely : Prop := fnExactFoldAllRow.holds Try.pinned (OpenSpec.ofChange fnExactFoldAllWrong)

/-- 'laws.FnExactEngineSafe': WHATEVER THE INPUT: true; the input reads as it did. -/
def fnExactEngineSafeSpec : ChangeSpec := { name := "fnExactEngineSafe", fn := fun _ => fun
  | [d] => { results := [.lit (.bool true)], args := [d] }
  | _ => none }
def fnExactEngineSafeRow : OpenClaim := { program := "ytmoebcnkdccheaa", sum := "86954cd8af18fcbafe07ac574fde2dd2ae9a484eb033e6b1bd9db87a40e1b56e", func := "loop.example/g00728/laws.FnExactEngineSafe", spec := "fnExactEngineSafe", unfollowed := true, recurses := true, plainKeys := false, apart := false }
def FnExactEngineSafeSaid : Prop := fnExactEngineSafeRow.holds Try.pinned (OpenSpec.ofChange fnExactEngineSafeSpec)

/-- ITS FALSE NEIGHBOUR: 'it returns false'. Refute it at one input. -/
def fnExactEngineSafeWrong : ChangeSpec := { name := "fnExactEngineSafe", fn := fun _ => fun
  | [d] => { results := [.lit (.bool false)], args := [d] }
  | _ => none }
def FnExactEngineSafeWrongFalsely : Prop := fnExactEngineSafeRow.holds Try.pinned (OpenSpec.ofChange fnExactEngineSafeWrong)

/-- 'laws.FnExactCountsAdd': WHATEVER THE INPUT: true; the input reads as it did. -/
def fnExactCountsAddSpec : ChangeSpec := { name := "fnExactCountsAdd", fn := fun _ => fun
  | [d] => { results := [.lit (.bool true)], args := [d] }
  | _ => none }
def fnExactCountsAddRow : OpenClaim := { program := "ytmoebcnkdccheaa", sum := "86954cd8af18fcbafe07ac574fde2dd2ae9a484eb033e6b1bd9db87a40e1b56e", func := "loop.example/g00728/laws.FnExactCountsAdd", spec := "fnExactCountsAdd", unfollowed := true, recurses := true, plainKeys := false, apart := false }
def FnExactCountsAddSaid : Prop := fnExactCountsAddRow.holds Try.pinned (OpenSpec.ofChange fnExactCountsAddSpec)

/-- ITS FALSE NEIGHBOUR: 'it returns false'. Refute it at one input. -/
def fnExactCountsAddWrong : ChangeSpec := { name := "fnExactCountsAdd", fn := fun _ => fun
  | [d] => { results := [.lit (.bool false)], args := [d] }
  | _ => none }
def FnExactCountsAddWrongFalsely : Prop := fnExactCountsAddRow.holds Try.pinned (OpenSpec.ofChange fnExactCountsAddWrong)

/-- 'laws.FnExactTotalOf': WHATEVER THE INPUT: true; the input reads as it did. -/
def fnExactTotalOfSpec : ChangeSpec := { name := "fnExactTotalOf", fn := fun _ => fun
  | [d] => { results := [.lit (.bool true)], args := [d] }
  | _ => none }
def fnExactTotalOfRow : OpenClaim := { program := "ytmoebcnkdccheaa", sum := "86954cd8af18fcbafe07ac574fde2dd2ae9a484eb033e6b1bd9db87a40e1b56e", func := "loop.example/g00728/laws.FnExactTotalOf", spec := "fnExactTotalOf", unfollowed := true, recurses := true, plainKeys := false, apart := false }
def FnExactTotalOfSaid : Prop := fnExactTotalOfRow.holds Try.pinned (OpenSpec.ofChange fnExactTotalOfSpec)

/-- ITS FALSE NEIGHBOUR: 'it returns false'. Refute it at one input. -/
def fnExactTotalOfWrong : ChangeSpec := { name := "fnExactTotalOf", fn := fun _ => fun
  | [d] => { results := [.lit (.bool false)], args := [d] }
  | _ => none }
def FnExactTotalOfWrongFalsely : Prop := fnExactTotalOfRow.holds Try.pinned (OpenSpec.ofChange fnExactTotalOfWrong)

/-- 'laws.FnExactReadable': WHATEVER THE INPUT: true; the input reads as it did. -/
def fnExactReadableSpec : ChangeSpec := { name := "fnExactReadable", fn := fun _ => fun
  | [d1, d2] => { results := [.lit (.bool true)], args := [d1, d2] }
  | _ => none }
def fnExactReadableRow : OpenClaim := { program := "ytmoebcnkdccheaa", sum := "86954cd8af18fcbafe07ac574fde2dd2ae9a484eb033e6b1bd9db87a40e1b56e", func := "loop.example/g00728/laws.FnExactReadable", spec := "fnExactReadable", plainKeys := false, apart := false }
def FnExactReadableSaid : Prop := fnExactReadableRow.holds Try.pinned (OpenSpec.ofChange fnExactReadableSpec)

/-- ITS FALSE NEIGHBOUR: 'it returns false'. Refute it at one input. -/
def fnExactReadableWrong : ChangeSpec := { name := "fnExactReadable", fn := fun _ => fun
  | [d1, d2] => { results := [.lit (.bool false)], args := [d1, d2] }
  | _ => none }
def FnExactReadableWrongFalsely : Prop := fnExactReadableRow.holds Try.pinned (OpenSpec.ofChange fnExactReadableWrong)

/-- 'laws.FnExactFramesLeft': WHATEVER THE INPUT: true; the input reads as it did. -/
def fnExactFramesLeftSpec : ChangeSpec := { name := "fnExactFramesLeft", fn := fun _ => fun
  | [d] => { results := [.lit (.bool true)], args := [d] }
  | _ => none }
def fnExactFramesLeftRow : OpenClaim := { program := "ytmoebcnkdccheaa", sum := "86954cd8af18fcbafe07ac574fde2dd2ae9a484eb033e6b1bd9db87a40e1b56e", func := "loop.example/g00728/laws.FnExactFramesLeft", spec := "fnExactFramesLeft", plainKeys := false, apart := false }
def FnExactFramesLeftSaid : Prop := fnExactFramesLeftRow.holds Try.pinned (OpenSpec.ofChange fnExactFramesLeftSpec)

/-- ITS FALSE NEIGHBOUR: 'it returns false'. Refute it at one input. -/
def fnExactFramesLeftWrong : ChangeSpec := { name := "fnExactFramesLeft", fn := fun _ => fun
  | [d] => { results := [.lit (.bool false)], args := [d] }
  | _ => none }
def FnExactFramesLeftWrongFalsely : Prop := fnExactFramesLeftRow.holds Try.pinned (OpenSpec.ofChange fnExactFramesLeftWrong)

/- THE SECOND FORM. 'bulk': how many values and letters a reading holds, each counted each time it is reached (what is shared counts as often as it is met; a slice's spare places count too). A statement '..UptoSaid' is the law's where the arguments, and the package variables that the reading takes, are together of bulk at most 1048576: NARROWER than '..Said'. Prove '..Said' where nothing that the law and all that it calls make is longer than what came in: it says more and counts as full. Else prove '..UptoSaid'. A law counts once. -/
mutual
def uptoBulk {H : Type} : DataW H → Nat
  | .lit (.string bytes) => bytes.length + 1
  | .lit _ => 1
  | .nil => 1
  | .ptr d => uptoBulk d + 1
  | .slice elems spare => uptoBulkAll elems + uptoBulkAll spare + 1
  | .agg parts => uptoBulkAll parts + 1
  | .iface _ d => uptoBulk d + 1
  | .map entries => uptoBulkEntries entries + 1
  | .held _ => 1
def uptoBulkAll {H : Type} : List (DataW H) → Nat
  | [] => 0
  | d :: r => uptoBulk d + uptoBulkAll r
def uptoBulkEntries {H : Type} : List (Lit × DataW H) → Nat
  | [] => 0
  | x :: r => uptoBulkEntry x + uptoBulkEntries r
def uptoBulkEntry {H : Type} : Lit × DataW H → Nat
  | (.string bytes, d) => bytes.length + uptoBulk d + 1
  | (_, d) => uptoBulk d + 1
 end
def uptoSmall : (H : Type) → List (DataW H) → Bool := fun _ ds => decide (uptoBulkAll ds ≤ 1048576)
def OpenSpec.upto (s : _root_.Go.ChangeSpec) : _root_.Go.OpenSpec := { _root_.Go.OpenSpec.ofChange s with cond := some uptoSmall }

/-- 'laws.FnExactEventsIn', WHERE WHAT IT READS IS OF BULK AT MOST 1048576: true; the input reads as it did. -/
def fnExactEventsInUptoRow : OpenClaim := { program := "ytmoebcnkdccheaa", sum := "86954cd8af18fcbafe07ac574fde2dd2ae9a484eb033e6b1bd9db87a40e1b56e", func := "loop.example/g00728/laws.FnExactEventsIn", spec := "fnExactEventsIn", plainKeys := false, apart := false, narrowed := true }
def FnExactEventsInUptoSaid : Prop := fnExactEventsInUptoRow.holds Try.pinned (OpenSpec.upto fnExactEventsInSpec)

/-- 'laws.FnExactInFlight', WHERE WHAT IT READS IS OF BULK AT MOST 1048576: true; the input reads as it did. -/
def fnExactInFlightUptoRow : OpenClaim := { program := "ytmoebcnkdccheaa", sum := "86954cd8af18fcbafe07ac574fde2dd2ae9a484eb033e6b1bd9db87a40e1b56e", func := "loop.example/g00728/laws.FnExactInFlight", spec := "fnExactInFlight", plainKeys := false, apart := false, narrowed := true }
def FnExactInFlightUptoSaid : Prop := fnExactInFlightUptoRow.holds Try.pinned (OpenSpec.upto fnExactInFlightSpec)

/-- 'laws.FnExactNewEngine', WHERE WHAT IT READS IS OF BULK AT MOST 1048576: true; the input reads as it did. -/
def fnExactNewEngineUptoRow : OpenClaim := { program := "ytmoebcnkdccheaa", sum := "86954cd8af18fcbafe07ac574fde2dd2ae9a484eb033e6b1bd9db87a40e1b56e", func := "loop.example/g00728/laws.FnExactNewEngine", spec := "fnExactNewEngine", plainKeys := false, apart := false, narrowed := true }
def FnExactNewEngineUptoSaid : Prop := fnExactNewEngineUptoRow.holds Try.pinned (OpenSpec.upto fnExactNewEngineSpec)

/-- 'laws.FnExactFoldAll', WHERE WHAT IT READS IS OF BULK AT MOST 1048576: true; the input reads as it did. -/
def fnExactFoldAllUptoRow : OpenClaim := { program := "ytmoebcnkdccheaa", sum := "86954cd8af18fcbafe07ac574fde2dd2ae9a484eb033e6b1bd9db87a40e1b56e", func := "loop.example/g00728/laws.FnExactFoldAll", spec := "fnExactFoldAll", unfollowed := true, recurses := true, plainKeys := false, apart := false, narrowed := true }
def FnExactFoldAllUptoSaid : Prop := fnExactFoldAllUptoRow.holds Try.pinned (OpenSpec.upto fnExactFoldAllSpec)

/-- 'laws.FnExactEngineSafe', WHERE WHAT IT READS IS OF BULK AT MOST 1048576: true; the input reads as it did. -/
def fnExactEngineSafeUptoRow : OpenClaim := { program := "ytmoebcnkdccheaa", sum := "86954cd8af18fcbafe07ac574fde2dd2ae9a484eb033e6b1bd9db87a40e1b56e", func := "loop.example/g00728/laws.FnExactEngineSafe", spec := "fnExactEngineSafe", unfollowed := true, recurses := true, plainKeys := false, apart := false, narrowed := true }
def FnExactEngineSafeUptoSaid : Prop := fnExactEngineSafeUptoRow.holds Try.pinned (OpenSpec.upto fnExactEngineSafeSpec)

/-- 'laws.FnExactCountsAdd', WHERE WHAT IT READS IS OF BULK AT MOST 1048576: true; the input reads as it did. -/
def fnExactCountsAddUptoRow : OpenClaim := { program := "ytmoebcnkdccheaa", sum := "86954cd8af18fcbafe07ac574fde2dd2ae9a484eb033e6b1bd9db87a40e1b56e", func := "loop.example/g00728/laws.FnExactCountsAdd", spec := "fnExactCountsAdd", unfollowed := true, recurses := true, plainKeys := false, apart := false, narrowed := true }
def FnExactCountsAddUptoSaid : Prop := fnExactCountsAddUptoRow.holds Try.pinned (OpenSpec.upto fnExactCountsAddSpec)

/-- 'laws.FnExactTotalOf', WHERE WHAT IT READS IS OF BULK AT MOST 1048576: true; the input reads as it did. -/
def fnExactTotalOfUptoRow : OpenClaim := { program := "ytmoebcnkdccheaa", sum := "86954cd8af18fcbafe07ac574fde2dd2ae9a484eb033e6b1bd9db87a40e1b56e", func := "loop.example/g00728/laws.FnExactTotalOf", spec := "fnExactTotalOf", unfollowed := true, recurses := true, plainKeys := false, apart := false, narrowed := true }
def FnExactTotalOfUptoSaid : Prop := fnExactTotalOfUptoRow.holds Try.pinned (OpenSpec.upto fnExactTotalOfSpec)

/-- 'laws.FnExactReadable', WHERE WHAT IT READS IS OF BULK AT MOST 1048576: true; the input reads as it did. -/
def fnExactReadableUptoRow : OpenClaim := { program := "ytmoebcnkdccheaa", sum := "86954cd8af18fcbafe07ac574fde2dd2ae9a484eb033e6b1bd9db87a40e1b56e", func := "loop.example/g00728/laws.FnExactReadable", spec := "fnExactReadable", plainKeys := false, apart := false, narrowed := true }
def FnExactReadableUptoSaid : Prop := fnExactReadableUptoRow.holds Try.pinned (OpenSpec.upto fnExactReadableSpec)

/-- 'laws.FnExactFramesLeft', WHERE WHAT IT READS IS OF BULK AT MOST 1048576: true; the input reads as it did. -/
def fnExactFramesLeftUptoRow : OpenClaim := { program := "ytmoebcnkdccheaa", sum := "86954cd8af18fcbafe07ac574fde2dd2ae9a484eb033e6b1bd9db87a40e1b56e", func := "loop.example/g00728/laws.FnExactFramesLeft", spec := "fnExactFramesLeft", plainKeys := false, apart := false, narrowed := true }
def FnExactFramesLeftUptoSaid : Prop := fnExactFramesLeftUptoRow.holds Try.pinned (OpenSpec.upto fnExactFramesLeftSpec)

end Rows
end Go.Proofs.Ytmoebcnkdccheaa
