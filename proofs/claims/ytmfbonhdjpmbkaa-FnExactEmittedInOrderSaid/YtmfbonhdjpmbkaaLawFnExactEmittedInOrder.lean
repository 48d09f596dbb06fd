/- FnExactEmittedInOrder: for every input the law returns true. No condition. -/
import Derived.Test.YtmfbonhdjpmbkaaRows
import Derived.Test.YtmfbonhdjpmbkaaPBx6
import Derived.Test.YtmfbonhdjpmbkaaPureInOrderB
import Derived.Test.YtmfbonhdjpmbkaaOpn
import Derived.Test.YtmfbonhdjpmbkaaWSized
import Derived.WalkKit
import Derived.ProofKit
import Derived.OpenShut
import Derived.ShutString
import Derived.ChangeOld
import Derived.Below
import Derived.SizedLaws
import Derived.Carry
namespace Go.Proofs.Ytmfbonhdjpmbkaa.fnExactEmittedInOrder
open Go.ChangeShapes Go.WideShapes Go.ChangeAt Go.RowKit Go.Proofs.Ytmfbonhdjpmbkaa.PB Go.Proofs.YtmfbonhdjpmbkaaW.PrintWords Go.Proofs.Ytmfbonhdjpmbkaa.Opn
open Go.ChangeMaps (open_string shut_string)
set_option linter.unusedVariables false
theorem own : ownKnob Try.prog.godebug = none := by kernel_rfl
theorem laidOut : laidOutB Try.prog = true := by kernel_rfl
theorem opn0 : Opn Try.prog 32 (Kd.slice 79 k79) (fun xs => xs.length * (Try.prog).bytesOf 79 ≤ reachBytes ∧ ∀ x ∈ xs, (fun y : S79 => (fun x => (fun n : Int => (Lit.int .i64 n).wf = true) x.1 ∧ (fun x => (fun n : Int => (Lit.int .i64 n).wf = true) x.1 ∧ (fun x => (fun n : Int => (Lit.int .i64 n).wf = true) x.1 ∧ (fun x => (fun n : Int => (Lit.int .i64 n).wf = true) x.1 ∧ (fun x => (fun n : Int => (Lit.int .i64 n).wf = true) x.1 ∧ (fun n : Int => (Lit.int .i64 n).wf = true) x.2) x.2) x.2) x.2) x.2) (y.f0, y.f1, y.f2, y.f3, y.f4, y.f5)) x) := (opn_slice (e := 79) Try.underlying32 (by kernel_rfl) (opn_iso _ (fun x => (⟨x.1, x.2.1, x.2.2.1, x.2.2.2.1, x.2.2.2.2.1, x.2.2.2.2.2⟩ : S79)) (fun _ => rfl) (opn_struct Try.underlying79 (by kernel_rfl) (opnF_cons (by rfl) (by kernel_rfl) (opn_int Try.underlying3) (opnF_cons (by rfl) (by kernel_rfl) (opn_int Try.underlying3) (opnF_cons (by rfl) (by kernel_rfl) (opn_int Try.underlying3) (opnF_cons (by rfl) (by kernel_rfl) (opn_int Try.underlying3) (opnF_cons (by rfl) (by kernel_rfl) (opn_int Try.underlying3) (opnF_one (by rfl) (by kernel_rfl) (opn_int Try.underlying3))))))))))
set_option maxRecDepth 100000 in
theorem lifted (os : Os) (started : os.Started) (H : Type) (enc : TypeId × Value → H) :
    ReturnsInHanded {} Try.checked os 9 .any (Rows.fnExactEmittedInOrderSpec.pre6 enc Try.prog Try.f9 Rows.fnExactEmittedInOrderRow.domain false) (Rows.fnExactEmittedInOrderSpec.post enc Try.prog Try.f9 false true false false) := by
  refine returnsInHanded_of_change_sized (C := Try.checked) own started (by kernel_rfl) Try.func9
    (ChangeSpec.witness6 (enc := enc) (C := Try.checked) false ⟨#[], #[.slice none 0 0, .int .i64 0], []⟩ 8 (by kernel_rfl) (by kernel_rfl) (by kernel_rfl) (by kernel_rfl)) ?_
  intro W base args ds gs before hval0 hW hcnd hsz0 _
  have hsz : (DataW.weightsEach Try.prog (Try.f9.params.toList ++ Rows.fnExactEmittedInOrderSpec.plain.varTypes Try.prog) (ds ++ gs)).all (· ≤ reachBytes) = true := hsz0
  have hval : ∀ (j : Nat) t v, Try.f9.params[j]? = some t → args[j]? = some v → Value.okWide Try.prog W .any base t v := hval0
  have hW' := hW
  obtain ⟨p, q, hA0, hV, rfl, hfz, hnd⟩ := hW
  have hA : DataW.TrodAll enc Try.prog W 0 (fun _ => true) true Try.f9.params.toList args.toList ds p := hA0
  rw [Try.params9] at hA hval hsz
  obtain ⟨v0, vs0, d0, ds0, p0, q0, hargs, rfl, rfl, h0, r0⟩ := trodAll_cons hA
  obtain ⟨v1, vs1, d1, ds1, p1, q1, rfl, rfl, rfl, h1, r1⟩ := trodAll_cons r0
  obtain ⟨rfl, rfl, rfl⟩ := trodAll_nil r1
  obtain rfl : args = #[v0, v1] := by cases args; simp_all
  obtain ⟨rfl, rfl⟩ := trodVars_none hV
  have k0_ := h0
  obtain ⟨A0, c0, l0, rfl, hc0, hr0, ok0⟩ := opn_slice_arg Try.underlying32 opn0 (hval 0 32 v0 rfl rfl) h0 (weights_le hsz (j := 0) rfl rfl)
  have k1_ := h1
  obtain ⟨a1, rfl, w1⟩ := opn_int_arg Try.underlying3 (hval 1 3 v1 rfl rfl) h1
  have P := PureB.FnExactEmittedInOrder l0 a1 hr0.2.1 ok0 w1
  obtain ⟨k, P⟩ := P
  refine (laws_FnExactEmittedInOrder.calls k A0 c0 l0 a1 true W hr0 hc0 P).mono fun e W' ⟨he, bel⟩ => ?_
  subst he
  have hlt : ∀ x ∈ p0 ++ p1, x.block < W.heap.size := fun x hx => by simpa using hW'.lt x (by simpa using hx)
  exact ⟨_, rfl, _, _, _, [], _, [], hW', trodAll_mk1 (shut_bool Try.underlying4 _), (trodAll_cons_mk (Below.trod laidOut (by kernel_rfl) (of_decide_eq_true (by kernel_rfl)) k0_ bel (fun x hx => hlt x (by simp [hx]))) (trodAll_cons_mk (Below.trod laidOut (by kernel_rfl) (of_decide_eq_true (by kernel_rfl)) k1_ bel (fun x hx => hlt x (by simp [hx]))) trodAll_mk0)), rfl, bel.frame _, fun h => by cases h⟩
theorem over : Rows.fnExactEmittedInOrderRow.holds Try.pinned (OpenSpec.ofChange Rows.fnExactEmittedInOrderSpec) :=
  OpenClaim.holds_of_wide 9 Try.f9 rfl rfl rfl rfl rfl rfl rfl ⟨rfl, rfl, rfl, rfl, rfl⟩ rfl rfl rfl rfl rfl (by kernel_rfl) Try.func9 (by kernel_rfl)
    (of_decide_eq_true (by kernel_rfl)) (by unfold Func.isWrapper; first | (rw [if_pos (by decide +kernel)]; kernel_rfl) | (rw [if_neg (by decide +kernel)]; exact ⟨rfl, rfl⟩))
    (fun os started H enc _ => lifted os started H enc)
theorem proved : Rows.FnExactEmittedInOrderSaid := over
#print axioms proved
end Go.Proofs.Ytmfbonhdjpmbkaa.fnExactEmittedInOrder
namespace Go.Proofs.Ytmfbonhdjpmbkaa
/-- The row, under a short name, for the claim. -/
theorem fnExactEmittedInOrder_holds : Rows.FnExactEmittedInOrderSaid := fnExactEmittedInOrder.proved
end Go.Proofs.Ytmfbonhdjpmbkaa

