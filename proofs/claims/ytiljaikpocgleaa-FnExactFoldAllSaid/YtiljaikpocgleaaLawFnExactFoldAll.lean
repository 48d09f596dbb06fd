/- FnExactFoldAll: for every input the law returns true. No condition. -/
import Derived.Test.YtiljaikpocgleaaRows
import Derived.Test.YtiljaikpocgleaaLFoldAllB
import Derived.Test.YtiljaikpocgleaaChecked
import Derived.WalkKit
import Derived.ProofKit
import Derived.OpenShut
import Derived.ShutString
import Derived.ChangeOld
import Derived.Below
import Derived.SizedLaws
import Derived.Carry
namespace Go.Proofs.Ytiljaikpocgleaa.fnExactFoldAll
open Go.ChangeShapes Go.WideShapes Go.ChangeAt Go.RowKit Go.Vm
open Go.ChangeMaps (open_string shut_string)
set_option linter.unusedVariables false
theorem own : ownKnob Try.prog.godebug = none := by kernel_rfl
theorem laidOut : laidOutB Try.prog = true := by kernel_rfl
theorem opv95 : Opv Try.prog 95 [.int .i64, .int .i64, .int .i64, .int .i64] := (opv_struct Try.underlying95 (by kernel_rfl) (opvF_cons (a := [.int .i64]) (b := [.int .i64, .int .i64, .int .i64]) (by rfl) (by kernel_rfl) (opv_int Try.underlying3) (opvF_cons (a := [.int .i64]) (b := [.int .i64, .int .i64]) (by rfl) (by kernel_rfl) (opv_int Try.underlying3) (opvF_cons (a := [.int .i64]) (b := [.int .i64]) (by rfl) (by kernel_rfl) (opv_int Try.underlying3) (opvF_cons (a := [.int .i64]) (b := []) (by rfl) (by kernel_rfl) (opv_int Try.underlying3) opvF_nil)))))
theorem opv44 : Opv Try.prog 44 [.sl [.int .i64, .int .i64, .int .i64, .int .i64]] := (opv_slice (e := 95) Try.underlying44 (by kernel_rfl) (by decide) (by kernel_rfl) opv95)
set_option maxRecDepth 100000 in
theorem lifted (os : Os) (started : os.Started) (H : Type) (enc : TypeId × Value → H) :
    ReturnsInHanded {} Try.checked os 7 .any (Rows.fnExactFoldAllSpec.pre6 enc Try.prog Try.f7 Rows.fnExactFoldAllRow.domain false) (Rows.fnExactFoldAllSpec.post enc Try.prog Try.f7 false true false false) := by
  refine returnsInHanded_of_change_sized (C := Try.checked) own started (by kernel_rfl) Try.func7
    (ChangeSpec.witness6 (enc := enc) (C := Try.checked) false ⟨#[], #[.slice none 0 0, .int .i64 0], []⟩ 8 (by kernel_rfl) (by kernel_rfl) (by kernel_rfl) (by kernel_rfl)) ?_
  intro W base args ds gs before hval0 hW hcnd hsz0 _
  have hsz : (DataW.weightsEach Try.prog (Try.f7.params.toList ++ Rows.fnExactFoldAllSpec.plain.varTypes Try.prog) (ds ++ gs)).all (· ≤ reachBytes) = true := hsz0
  have hval : ∀ (j : Nat) t v, Try.f7.params[j]? = some t → args[j]? = some v → Value.okWide Try.prog W .any base t v := hval0
  have hW' := hW
  obtain ⟨p, q, hA0, hV, rfl, hfz, hnd⟩ := hW
  have hA : DataW.TrodAll enc Try.prog W 0 (fun _ => true) true Try.f7.params.toList args.toList ds p := hA0
  rw [Try.params7] at hA hval hsz
  obtain ⟨v0, vs0, d0, ds0, p0, q0, hargs, rfl, rfl, h0, r0⟩ := trodAll_cons hA
  obtain ⟨v1, vs1, d1, ds1, p1, q1, rfl, rfl, rfl, h1, r1⟩ := trodAll_cons r0
  obtain ⟨rfl, rfl, rfl⟩ := trodAll_nil r1
  obtain rfl : args = #[v0, v1] := by cases args; simp_all
  obtain ⟨rfl, rfl⟩ := trodVars_none hV
  have k0_ := h0
  obtain ⟨a0, w0, l0, D0⟩ := arg_slice Try.underlying44 opv44 (hval 0 44 v0 rfl rfl) h0 (weights_le hsz (j := 0) rfl rfl)
  have k1_ := h1
  obtain ⟨a1, rfl, w1, D1⟩ := arg_int Try.underlying3 (hval 1 3 v1 rfl rfl) h1
  have hS := law_FnExactFoldAll a0 w0 l0 a1 w1
  refine (law_true (xs := [_, _]) (w := W) hS.1 hS.2 rfl (fun j a x ha hx => ?_)).mono fun e W' ⟨he, bel⟩ => ?_
  · match j, ha, hx with
    | 0, ha, hx => injection ha with ha; injection hx with hx; subst ha hx; exact D0
    | 1, ha, hx => injection ha with ha; injection hx with hx; subst ha hx; exact D1
    | j + 2, ha, hx => simp at ha
  subst he
  have hlt : ∀ x ∈ p0 ++ p1, x.block < W.heap.size := fun x hx => by simpa using hW'.lt x (by simpa using hx)
  exact ⟨_, rfl, _, _, _, [], _, [], hW', trodAll_mk1 (shut_bool Try.underlying4 _), (trodAll_cons_mk (Below.trod laidOut (by kernel_rfl) (of_decide_eq_true (by kernel_rfl)) k0_ bel (fun x hx => hlt x (by simp [hx]))) (trodAll_cons_mk (Below.trod laidOut (by kernel_rfl) (of_decide_eq_true (by kernel_rfl)) k1_ bel (fun x hx => hlt x (by simp [hx]))) trodAll_mk0)), rfl, bel.frame _, fun h => by cases h⟩
theorem over : Rows.fnExactFoldAllRow.holds Try.pinned (OpenSpec.ofChange Rows.fnExactFoldAllSpec) :=
  OpenClaim.holds_of_wide 7 Try.f7 rfl rfl rfl rfl rfl rfl rfl ⟨rfl, rfl, rfl, rfl, rfl⟩ rfl rfl rfl rfl rfl (by kernel_rfl) Try.func7 (by kernel_rfl)
    (of_decide_eq_true (by kernel_rfl)) (by unfold Func.isWrapper; first | (rw [if_pos (by decide +kernel)]; kernel_rfl) | (rw [if_neg (by decide +kernel)]; exact ⟨rfl, rfl⟩))
    (fun os started H enc _ => lifted os started H enc)
theorem proved : Rows.FnExactFoldAllSaid := over
#print axioms proved
end Go.Proofs.Ytiljaikpocgleaa.fnExactFoldAll
namespace Go.Proofs.Ytiljaikpocgleaa
/-- The row, under a short name, for the claim. -/
theorem fnExactFoldAll_holds : Rows.FnExactFoldAllSaid := fnExactFoldAll.proved
end Go.Proofs.Ytiljaikpocgleaa
