/- FnExactLinkRoom: for every input the law returns true. No condition. -/
import Derived.Test.YtafcnnoofpnejaaRows
import Derived.Test.YtafcnnoofpnejaaPFnExactLinkRoomx1
import Derived.Test.YtafcnnoofpnejaaPureFnExactLinkRoom
import Derived.Test.YtafcnnoofpnejaaOpn
import Derived.Test.YtafcnnoofpnejaaWSized
import Derived.WalkKit
import Derived.ProofKit
import Derived.OpenShut
import Derived.ShutString
import Derived.ChangeOld
import Derived.Below
import Derived.SizedLaws
import Derived.Carry
namespace Go.Proofs.Ytafcnnoofpnejaa.fnExactLinkRoom
open Go.ChangeShapes Go.WideShapes Go.ChangeAt Go.RowKit Go.Proofs.Ytafcnnoofpnejaa.PFnExactLinkRoom Go.Proofs.YtafcnnoofpnejaaW.PrintWords Go.Proofs.Ytafcnnoofpnejaa.Opn
open Go.ChangeMaps (open_string shut_string)
set_option linter.unusedVariables false
theorem own : ownKnob Try.prog.godebug = none := by kernel_rfl
theorem laidOut : laidOutB Try.prog = true := by kernel_rfl
theorem opn0 : Opn Try.prog 33 (Kd.pair (Kd.int .i64) (Kd.pair (Kd.int .i64) (Kd.pair (Kd.int .i64) (Kd.pair (Kd.int .i64) (Kd.pair (Kd.int .i64) (Kd.pair (Kd.int .i64) (Kd.pair (Kd.int .i64) (Kd.pair (Kd.int .i64) (Kd.int .i64))))))))) (fun x => (fun n : Int => (Lit.int .i64 n).wf = true) x.1 ∧ (fun x => (fun n : Int => (Lit.int .i64 n).wf = true) x.1 ∧ (fun x => (fun n : Int => (Lit.int .i64 n).wf = true) x.1 ∧ (fun x => (fun n : Int => (Lit.int .i64 n).wf = true) x.1 ∧ (fun x => (fun n : Int => (Lit.int .i64 n).wf = true) x.1 ∧ (fun x => (fun n : Int => (Lit.int .i64 n).wf = true) x.1 ∧ (fun x => (fun n : Int => (Lit.int .i64 n).wf = true) x.1 ∧ (fun x => (fun n : Int => (Lit.int .i64 n).wf = true) x.1 ∧ (fun n : Int => (Lit.int .i64 n).wf = true) x.2) x.2) x.2) x.2) x.2) x.2) x.2) x.2) := (opn_struct Try.underlying33 (by kernel_rfl) (opnF_cons (by rfl) (by kernel_rfl) (opn_int Try.underlying3) (opnF_cons (by rfl) (by kernel_rfl) (opn_int Try.underlying3) (opnF_cons (by rfl) (by kernel_rfl) (opn_int Try.underlying3) (opnF_cons (by rfl) (by kernel_rfl) (opn_int Try.underlying3) (opnF_cons (by rfl) (by kernel_rfl) (opn_int Try.underlying3) (opnF_cons (by rfl) (by kernel_rfl) (opn_int Try.underlying3) (opnF_cons (by rfl) (by kernel_rfl) (opn_int Try.underlying3) (opnF_cons (by rfl) (by kernel_rfl) (opn_int Try.underlying3) (opnF_one (by rfl) (by kernel_rfl) (opn_int Try.underlying3)))))))))))
set_option maxRecDepth 100000 in
theorem lifted (os : Os) (started : os.Started) (H : Type) (enc : TypeId × Value → H) :
    ReturnsInHanded {} Try.checked os 8 .any (Rows.fnExactLinkRoomSpec.pre6 enc Try.prog Try.f8 Rows.fnExactLinkRoomRow.domain false) (Rows.fnExactLinkRoomSpec.post enc Try.prog Try.f8 false true false false) := by
  refine returnsInHanded_of_change_sized (C := Try.checked) own started (by kernel_rfl) Try.func8
    (ChangeSpec.witness6 (enc := enc) (C := Try.checked) false ⟨#[], #[.agg #[.int .i64 0, .int .i64 0, .int .i64 0, .int .i64 0, .int .i64 0, .int .i64 0, .int .i64 0, .int .i64 0, .int .i64 0]], []⟩ 8 (by kernel_rfl) (by kernel_rfl) (by kernel_rfl) (by kernel_rfl)) ?_
  intro W base args ds gs before hval0 hW hcnd hsz0 _
  have hsz : (DataW.weightsEach Try.prog (Try.f8.params.toList ++ Rows.fnExactLinkRoomSpec.plain.varTypes Try.prog) (ds ++ gs)).all (· ≤ reachBytes) = true := hsz0
  have hval : ∀ (j : Nat) t v, Try.f8.params[j]? = some t → args[j]? = some v → Value.okWide Try.prog W .any base t v := hval0
  have hW' := hW
  obtain ⟨p, q, hA0, hV, rfl, hfz, hnd⟩ := hW
  have hA : DataW.TrodAll enc Try.prog W 0 (fun _ => true) true Try.f8.params.toList args.toList ds p := hA0
  rw [Try.params8] at hA hval hsz
  obtain ⟨v0, vs0, d0, ds0, p0, q0, hargs, rfl, rfl, h0, r0⟩ := trodAll_cons hA
  obtain ⟨rfl, rfl, rfl⟩ := trodAll_nil r0
  obtain rfl : args = #[v0] := by cases args; simp_all
  obtain ⟨rfl, rfl⟩ := trodVars_none hV
  have k0_ := h0
  obtain ⟨cs0, x0, rfl, hk0, ok0⟩ := opn_agg_arg Try.underlying33 opn0 (hval 0 33 v0 rfl rfl) h0 (weights_le hsz (j := 0) rfl rfl)
  obtain ⟨cs0⟩ := cs0
  have hk0_ : cs0 = [.int .i64 x0.1, .int .i64 x0.2.1, .int .i64 x0.2.2.1, .int .i64 x0.2.2.2.1, .int .i64 x0.2.2.2.2.1, .int .i64 x0.2.2.2.2.2.1, .int .i64 x0.2.2.2.2.2.2.1, .int .i64 x0.2.2.2.2.2.2.2.1, .int .i64 x0.2.2.2.2.2.2.2.2] := by
    obtain ⟨_, _, rfl, rfl, ⟨_, _, rfl, rfl, ⟨_, _, rfl, rfl, ⟨_, _, rfl, rfl, ⟨_, _, rfl, rfl, ⟨_, _, rfl, rfl, ⟨_, _, rfl, rfl, ⟨_, _, rfl, rfl, rfl⟩⟩⟩⟩⟩⟩⟩⟩ := hk0
    rfl
  subst hk0_
  have P := Pure.FnExactLinkRoom (x0.1) (x0.2.1) (x0.2.2.1) (x0.2.2.2.1) (x0.2.2.2.2.1) (x0.2.2.2.2.2.1) (x0.2.2.2.2.2.2.1) (x0.2.2.2.2.2.2.2.1) (x0.2.2.2.2.2.2.2.2) ok0
  refine (laws_FnExactLinkRoom.calls (x0.1) (x0.2.1) (x0.2.2.1) (x0.2.2.2.1) (x0.2.2.2.2.1) (x0.2.2.2.2.2.1) (x0.2.2.2.2.2.2.1) (x0.2.2.2.2.2.2.2.1) (x0.2.2.2.2.2.2.2.2) true W P).mono fun e W' ⟨he, bel⟩ => ?_
  subst he
  have hlt : ∀ x ∈ p0, x.block < W.heap.size := fun x hx => by simpa using hW'.lt x (by simpa using hx)
  exact ⟨_, rfl, _, _, _, [], _, [], hW', trodAll_mk1 (shut_bool Try.underlying4 _), (trodAll_cons_mk (Below.trod laidOut (by kernel_rfl) (of_decide_eq_true (by kernel_rfl)) k0_ bel (fun x hx => hlt x (by simp [hx]))) trodAll_mk0), rfl, bel.frame _, fun h => by cases h⟩
theorem over : Rows.fnExactLinkRoomRow.holds Try.pinned (OpenSpec.ofChange Rows.fnExactLinkRoomSpec) :=
  OpenClaim.holds_of_wide 8 Try.f8 rfl rfl rfl rfl rfl rfl rfl ⟨rfl, rfl, rfl, rfl, rfl⟩ rfl rfl rfl rfl rfl (by kernel_rfl) Try.func8 (by kernel_rfl)
    (of_decide_eq_true (by kernel_rfl)) (by unfold Func.isWrapper; first | (rw [if_pos (by decide +kernel)]; kernel_rfl) | (rw [if_neg (by decide +kernel)]; exact ⟨rfl, rfl⟩))
    (fun os started H enc _ => lifted os started H enc)
theorem proved : Rows.FnExactLinkRoomSaid := over
#print axioms proved
end Go.Proofs.Ytafcnnoofpnejaa.fnExactLinkRoom
namespace Go.Proofs.Ytafcnnoofpnejaa
/-- The row, under a short name, for the claim. -/
theorem fnExactLinkRoom_holds : Rows.FnExactLinkRoomSaid := fnExactLinkRoom.proved
end Go.Proofs.Ytafcnnoofpnejaa

