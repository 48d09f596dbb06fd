/-
  No cell of these rows narrows 'for every input' (looked for: loops, veiled, ifaces, maps, wideKeys, modest, calm, conditions, laid).
  DERIVED. THE GIVEN ROWS OF THIS SEAT. 6 by the template 'for every input the law returns true; each argument reads behind the call as it read before'; 0 by the template 'total and deterministic' (their statements: YtafcnnoofpnejaaTotals.lean).
  GIVEN WITH THE SEED: the statements are not yours to turn. If you find one false, say at which input.
  Laid BY PROGRAM, IN A SANDBOX (cutbox-rows.mjs): the forced cells as the released guide's own fill.sh prints them over the translation acd6e5ee6eb15c21… (all of the seat's roots in one cut). By AI agents, Wed Nov 11 2026. No macro, syntax, notation, axiom, sorry.
-/
import Derived.Test.YtafcnnoofpnejaaChecked
import GoSem.Claim
import GoSem.ClaimJoined
import GoSem.ClaimMapViews
import Derived.JoinedTies
import Derived.KernelRfl
namespace Go.Proofs.Ytafcnnoofpnejaa
/- THE CELL 'sum', in the pinned program and in every row, IS THE sha256 OF THE DUMP (.gsa) THAT YtafcnnoofpnejaaProg.lean LOADS. Nothing in Lean hashes anything: it is a label: what it is worth is what the hold of that sum in a sandbox is worth. -/
noncomputable def Try.pinned : Pinned := { name := "ytafcnnoofpnejaa", sum := "acd6e5ee6eb15c21c5c4a8975799b5089f25355ea0be722ec862708e09c01359", checked := Try.checked }
namespace Rows
def none {H : Type} : Left H := { results := [], args := [] }

/-- 'laws.FnExactShardOf': WHATEVER THE INPUT: true; the input reads as it did. -/
def fnExactShardOfSpec : ChangeSpec := { name := "fnExactShardOf", fn := fun _ => fun
  | [d1, d2] => { results := [.lit (.bool true)], args := [d1, d2] }
  | _ => none }
def fnExactShardOfRow : OpenClaim := { program := "ytafcnnoofpnejaa", sum := "acd6e5ee6eb15c21c5c4a8975799b5089f25355ea0be722ec862708e09c01359", func := "loop.example/g00728/laws.FnExactShardOf", spec := "fnExactShardOf", apart := false }
def FnExactShardOfSaid : Prop := fnExactShardOfRow.holds Try.pinned (OpenSpec.ofChange fnExactShardOfSpec)

/-- ITS FALSE NEIGHBOUR: 'it returns false'. Refute it at one input. -/
def fnExactShardOfWrong : ChangeSpec := { name := "fnExactShardOf", fn := fun _ => fun
  | [d1, d2] => { results := [.lit (.bool false)], args := [d1, d2] }
  | _ => none }
def FnExactShardOfWrongFalsely : Prop := fnExactShardOfRow.holds Try.pinned (OpenSpec.ofChange fnExactShardOfWrong)

/-- 'laws.FnExactCoverCount': WHATEVER THE INPUT: true; the input reads as it did. -/
def fnExactCoverCountSpec : ChangeSpec := { name := "fnExactCoverCount", fn := fun _ => fun
  | [d1, d2] => { results := [.lit (.bool true)], args := [d1, d2] }
  | _ => none }
def fnExactCoverCountRow : OpenClaim := { program := "ytafcnnoofpnejaa", sum := "acd6e5ee6eb15c21c5c4a8975799b5089f25355ea0be722ec862708e09c01359", func := "loop.example/g00728/laws.FnExactCoverCount", spec := "fnExactCoverCount", apart := false }
def FnExactCoverCountSaid : Prop := fnExactCoverCountRow.holds Try.pinned (OpenSpec.ofChange fnExactCoverCountSpec)

/-- ITS FALSE NEIGHBOUR: 'it returns false'. Refute it at one input. -/
def fnExactCoverCountWrong : ChangeSpec := { name := "fnExactCoverCount", fn := fun _ => fun
  | [d1, d2] => { results := [.lit (.bool false)], args := [d1, d2] }
  | _ => none }
def FnExactCoverCountWrongFalsely : Prop := fnExactCoverCountRow.holds Try.pinned (OpenSpec.ofChange fnExactCoverCountWrong)

/-- 'laws.FnExactSlideEnd': WHATEVER THE INPUT: true; the input reads as it did. -/
def fnExactSlideEndSpec : ChangeSpec := { name := "fnExactSlideEnd", fn := fun _ => fun
  | [d1, d2, d3] => { results := [.lit (.bool true)], args := [d1, d2, d3] }
  | _ => none }
def fnExactSlideEndRow : OpenClaim := { program := "ytafcnnoofpnejaa", sum := "acd6e5ee6eb15c21c5c4a8975799b5089f25355ea0be722ec862708e09c01359", func := "loop.example/g00728/laws.FnExactSlideEnd", spec := "fnExactSlideEnd", apart := false }
def FnExactSlideEndSaid : Prop := fnExactSlideEndRow.holds Try.pinned (OpenSpec.ofChange fnExactSlideEndSpec)

/-- ITS FALSE NEIGHBOUR: 'it returns false'. Refute it at one input. -/
def fnExactSlideEndWrong : ChangeSpec := { name := "fnExactSlideEnd", fn := fun _ => fun
  | [d1, d2, d3] => { results := [.lit (.bool false)], args := [d1, d2, d3] }
  | _ => none }
def FnExactSlideEndWrongFalsely : Prop := fnExactSlideEndRow.holds Try.pinned (OpenSpec.ofChange fnExactSlideEndWrong)

/-- 'laws.FnExactSessionOk': WHATEVER THE INPUT: true; the input reads as it did. -/
def fnExactSessionOkSpec : ChangeSpec := { name := "fnExactSessionOk", fn := fun _ => fun
  | [d] => { results := [.lit (.bool true)], args := [d] }
  | _ => none }
def fnExactSessionOkRow : OpenClaim := { program := "ytafcnnoofpnejaa", sum := "acd6e5ee6eb15c21c5c4a8975799b5089f25355ea0be722ec862708e09c01359", func := "loop.example/g00728/laws.FnExactSessionOk", spec := "fnExactSessionOk", apart := false }
def FnExactSessionOkSaid : Prop := fnExactSessionOkRow.holds Try.pinned (OpenSpec.ofChange fnExactSessionOkSpec)

/-- ITS FALSE NEIGHBOUR: 'it returns false'. Refute it at one input. -/
def fnExactSessionOkWrong : ChangeSpec := { name := "fnExactSessionOk", fn := fun _ => fun
  | [d] => { results := [.lit (.bool false)], args := [d] }
  | _ => none }
def FnExactSessionOkWrongFalsely : Prop := fnExactSessionOkRow.holds Try.pinned (OpenSpec.ofChange fnExactSessionOkWrong)

/-- 'laws.FnExactSetupOk': WHATEVER THE INPUT: true; the input reads as it did. -/
def fnExactSetupOkSpec : ChangeSpec := { name := "fnExactSetupOk", fn := fun _ => fun
  | [d] => { results := [.lit (.bool true)], args := [d] }
  | _ => none }
def fnExactSetupOkRow : OpenClaim := { program := "ytafcnnoofpnejaa", sum := "acd6e5ee6eb15c21c5c4a8975799b5089f25355ea0be722ec862708e09c01359", func := "loop.example/g00728/laws.FnExactSetupOk", spec := "fnExactSetupOk", apart := false }
def FnExactSetupOkSaid : Prop := fnExactSetupOkRow.holds Try.pinned (OpenSpec.ofChange fnExactSetupOkSpec)

/-- ITS FALSE NEIGHBOUR: 'it returns false'. Refute it at one input. -/
def fnExactSetupOkWrong : ChangeSpec := { name := "fnExactSetupOk", fn := fun _ => fun
  | [d] => { results := [.lit (.bool false)], args := [d] }
  | _ => none }
def FnExactSetupOkWrongFalsely : Prop := fnExactSetupOkRow.holds Try.pinned (OpenSpec.ofChange fnExactSetupOkWrong)

/-- 'laws.FnExactLinkRoom': WHATEVER THE INPUT: true; the input reads as it did. -/
def fnExactLinkRoomSpec : ChangeSpec := { name := "fnExactLinkRoom", fn := fun _ => fun
  | [d] => { results := [.lit (.bool true)], args := [d] }
  | _ => none }
def fnExactLinkRoomRow : OpenClaim := { program := "ytafcnnoofpnejaa", sum := "acd6e5ee6eb15c21c5c4a8975799b5089f25355ea0be722ec862708e09c01359", func := "loop.example/g00728/laws.FnExactLinkRoom", spec := "fnExactLinkRoom", apart := false }
def FnExactLinkRoomSaid : Prop := fnExactLinkRoomRow.holds Try.pinned (OpenSpec.ofChange fnExactLinkRoomSpec)

/-- ITS FALSE NEIGHBOUR: 'it returns false'. Refute it at one input. -/
def fnExactLinkRoomWrong : ChangeSpec := { name := "fnExactLinkRoom", fn := fun _ => fun
  | [d] => { results := [.lit (.bool false)], args := [d] }
  | _ => none }
def FnExactLinkRoomWrongFalsely : Prop := fnExactLinkRoomRow.holds Try.pinned (OpenSpec.ofChange fnExactLinkRoomWrong)

/- THE SECOND FORM. 'bulk': how many values and letters a reading holds, each counted each time it is reached (what is shared counts as often as it is met; a slice's spare places count too). A statement '..UptoSaid' is the law's where the arguments, and the package variables that the reading takes, are together of bulk at most 1048576: NARROWER than '..Said'. Prove '..Said' where nothing that the law and all that it calls make is longer than what came in: it says more and counts as full. Else prove '..UptoSaid'. A law counts once. -/
mutual
def uptoBulk {H : Type} : DataW H → Nat
  | .lit (.string bytes) => bytes.length + 1
  | .lit _ => 1
  | .nil => 1
  | .ptr d => uptoBulk d + 1
  | .slice elems spare => uptoBulkAll elems + uptoBulkAll spare + 1
  | .agg parts => uptoBulkAll parts + 1
  | .iface _ d => uptoBulk d + 1
  | .map entries => uptoBulkEntries entries + 1
  | .held _ => 1
def uptoBulkAll {H : Type} : List (DataW H) → Nat
  | [] => 0
  | d :: r => uptoBulk d + uptoBulkAll r
def uptoBulkEntries {H : Type} : List (Lit × DataW H) → Nat
  | [] => 0
  | x :: r => uptoBulkEntry x + uptoBulkEntries r
def uptoBulkEntry {H : Type} : Lit × DataW H → Nat
  | (.string bytes, d) => bytes.length + uptoBulk d + 1
  | (_, d) => uptoBulk d + 1
 end
def uptoSmall : (H : Type) → List (DataW H) → Bool := fun _ ds => decide (uptoBulkAll ds ≤ 1048576)
def OpenSpec.upto (s : _root_.Go.ChangeSpec) : _root_.Go.OpenSpec := { _root_.Go.OpenSpec.ofChange s with cond := some uptoSmall }

/-- 'laws.FnExactShardOf', WHERE WHAT IT READS IS OF BULK AT MOST 1048576: true; the input reads as it did. -/
def fnExactShardOfUptoRow : OpenClaim := { program := "ytafcnnoofpnejaa", sum := "acd6e5ee6eb15c21c5c4a8975799b5089f25355ea0be722ec862708e09c01359", func := "loop.example/g00728/laws.FnExactShardOf", spec := "fnExactShardOf", apart := false, narrowed := true }
def FnExactShardOfUptoSaid : Prop := fnExactShardOfUptoRow.holds Try.pinned (OpenSpec.upto fnExactShardOfSpec)

/-- 'laws.FnExactCoverCount', WHERE WHAT IT READS IS OF BULK AT MOST 1048576: true; the input reads as it did. -/
def fnExactCoverCountUptoRow : OpenClaim := { program := "ytafcnnoofpnejaa", sum := "acd6e5ee6eb15c21c5c4a8975799b5089f25355ea0be722ec862708e09c01359", func := "loop.example/g00728/laws.FnExactCoverCount", spec := "fnExactCoverCount", apart := false, narrowed := true }
def FnExactCoverCountUptoSaid : Prop := fnExactCoverCountUptoRow.holds Try.pinned (OpenSpec.upto fnExactCoverCountSpec)

/-- 'laws.FnExactSlideEnd', WHERE WHAT IT READS IS OF BULK AT MOST 1048576: true; the input reads as it did. -/
def fnExactSlideEndUptoRow : OpenClaim := { program := "ytafcnnoofpnejaa", sum := "acd6e5ee6eb15c21c5c4a8975799b5089f25355ea0be722ec862708e09c01359", func := "loop.example/g00728/laws.FnExactSlideEnd", spec := "fnExactSlideEnd", apart := false, narrowed := true }
def FnExactSlideEndUptoSaid : Prop := fnExactSlideEndUptoRow.holds Try.pinned (OpenSpec.upto fnExactSlideEndSpec)

/-- 'laws.FnExactSessionOk', WHERE WHAT IT READS IS OF BULK AT MOST 1048576: true; the input reads as it did. -/
def fnExactSessionOkUptoRow : OpenClaim := { program := "ytafcnnoofpnejaa", sum := "acd6e5ee6eb15c21c5c4a8975799b5089f25355ea0be722ec862708e09c01359", func := "loop.example/g00728/laws.FnExactSessionOk", spec := "fnExactSessionOk", apart := false, narrowed := true }
def FnExactSessionOkUptoSaid : Prop := fnExactSessionOkUptoRow.holds Try.pinned (OpenSpec.upto fnExactSessionOkSpec)

/-- 'laws.FnExactSetupOk', WHERE WHAT IT READS IS OF BULK AT MOST 1048576: true; the input reads as it did. -/
def fnExactSetupOkUptoRow : OpenClaim := { program := "ytafcnnoofpnejaa", sum := "acd6e5ee6eb15c21c5c4a8975799b5089f25355ea0be722ec862708e09c01359", func := "loop.example/g00728/laws.FnExactSetupOk", spec := "fnExactSetupOk", apart := false, narrowed := true }
def FnExactSetupOkUptoSaid : Prop := fnExactSetupOkUptoRow.holds Try.pinned (OpenSpec.upto fnExactSetupOkSpec)

/-- 'laws.FnExactLinkRoom', WHERE WHAT IT READS IS OF BULK AT MOST 1048576: true; the input reads as it did. -/
def fnExactLinkRoomUptoRow : OpenClaim := { program := "ytafcnnoofpnejaa", sum := "acd6e5ee6eb15c21c5c4a8975799b5089f25355ea0be722ec862708e09c01359", func := "loop.example/g00728/laws.FnExactLinkRoom", spec := "fnExactLinkRoom", apart := false, narrowed := true }
def FnExactLinkRoomUptoSaid : Prop := fnExactLinkRoomUptoRow.holds Try.pinned (OpenSpec.upto fnExactLinkRoomSpec)

end Rows
end Go.Proofs.Ytafcnnoofpnejaa
