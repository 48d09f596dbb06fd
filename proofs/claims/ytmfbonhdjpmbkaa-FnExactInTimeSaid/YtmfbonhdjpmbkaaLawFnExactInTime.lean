/- FnExactInTime: for every input the law returns true. No condition. -/
import Derived.Test.YtmfbonhdjpmbkaaRows
import Derived.Test.YtmfbonhdjpmbkaaVm64
import Derived.Test.YtmfbonhdjpmbkaaChecked
import Derived.WalkKit
import Derived.ProofKit
import Derived.OpenShut
import Derived.ShutString
import Derived.ChangeOld
import Derived.Below
import Derived.SizedLaws
import Derived.Carry
namespace Go.Proofs.Ytmfbonhdjpmbkaa.fnExactInTime
open Go.ChangeShapes Go.WideShapes Go.ChangeAt Go.RowKit Go.Vm
open Go.ChangeMaps (open_string shut_string)
set_option linter.unusedVariables false
theorem own : ownKnob Try.prog.godebug = none := by kernel_rfl
theorem laidOut : laidOutB Try.prog = true := by kernel_rfl
theorem opv79 : Opv Try.prog 79 [.int .i64, .int .i64, .int .i64, .int .i64, .int .i64, .int .i64] := (opv_struct Try.underlying79 (by kernel_rfl) (opvF_cons (a := [.int .i64]) (b := [.int .i64, .int .i64, .int .i64, .int .i64, .int .i64]) (by rfl) (by kernel_rfl) (opv_int Try.underlying3) (opvF_cons (a := [.int .i64]) (b := [.int .i64, .int .i64, .int .i64, .int .i64]) (by rfl) (by kernel_rfl) (opv_int Try.underlying3) (opvF_cons (a := [.int .i64]) (b := [.int .i64, .int .i64, .int .i64]) (by rfl) (by kernel_rfl) (opv_int Try.underlying3) (opvF_cons (a := [.int .i64]) (b := [.int .i64, .int .i64]) (by rfl) (by kernel_rfl) (opv_int Try.underlying3) (opvF_cons (a := [.int .i64]) (b := [.int .i64]) (by rfl) (by kernel_rfl) (opv_int Try.underlying3) (opvF_cons (a := [.int .i64]) (b := []) (by rfl) (by kernel_rfl) (opv_int Try.underlying3) opvF_nil)))))))
theorem opv32 : Opv Try.prog 32 [.sl [.int .i64, .int .i64, .int .i64, .int .i64, .int .i64, .int .i64]] := (opv_slice (e := 79) Try.underlying32 (by kernel_rfl) (by decide) (by kernel_rfl) opv79)
set_option maxRecDepth 100000 in
theorem lifted (os : Os) (started : os.Started) (H : Type) (enc : TypeId × Value → H) :
    ReturnsInHanded {} Try.checked os 8 .any (Rows.fnExactInTimeSpec.pre6 enc Try.prog Try.f8 Rows.fnExactInTimeRow.domain false) (Rows.fnExactInTimeSpec.post enc Try.prog Try.f8 false true false false) := by
  refine returnsInHanded_of_change_sized (C := Try.checked) own started (by kernel_rfl) Try.func8
    (ChangeSpec.witness6 (enc := enc) (C := Try.checked) false ⟨#[], #[.slice none 0 0, .int .i64 0, .int .i64 0], []⟩ 8 (by kernel_rfl) (by kernel_rfl) (by kernel_rfl) (by kernel_rfl)) ?_
  intro W base args ds gs before hval0 hW hcnd hsz0 _
  have hsz : (DataW.weightsEach Try.prog (Try.f8.params.toList ++ Rows.fnExactInTimeSpec.plain.varTypes Try.prog) (ds ++ gs)).all (· ≤ reachBytes) = true := hsz0
  have hval : ∀ (j : Nat) t v, Try.f8.params[j]? = some t → args[j]? = some v → Value.okWide Try.prog W .any base t v := hval0
  have hW' := hW
  obtain ⟨p, q, hA0, hV, rfl, hfz, hnd⟩ := hW
  have hA : DataW.TrodAll enc Try.prog W 0 (fun _ => true) true Try.f8.params.toList args.toList ds p := hA0
  rw [Try.params8] at hA hval hsz
  obtain ⟨v0, vs0, d0, ds0, p0, q0, hargs, rfl, rfl, h0, r0⟩ := trodAll_cons hA
  obtain ⟨v1, vs1, d1, ds1, p1, q1, rfl, rfl, rfl, h1, r1⟩ := trodAll_cons r0
  obtain ⟨v2, vs2, d2, ds2, p2, q2, rfl, rfl, rfl, h2, r2⟩ := trodAll_cons r1
  obtain ⟨rfl, rfl, rfl⟩ := trodAll_nil r2
  obtain rfl : args = #[v0, v1, v2] := by cases args; simp_all
  obtain ⟨rfl, rfl⟩ := trodVars_none hV
  have k0_ := h0
  obtain ⟨a0, w0, l0, D0⟩ := arg_slice Try.underlying32 opv32 (hval 0 32 v0 rfl rfl) h0 (weights_le hsz (j := 0) rfl rfl)
  have k1_ := h1
  obtain ⟨a1, rfl, w1, D1⟩ := arg_int Try.underlying3 (hval 1 3 v1 rfl rfl) h1
  have k2_ := h2
  obtain ⟨a2, rfl, w2, D2⟩ := arg_int Try.underlying3 (hval 2 3 v2 rfl rfl) h2
  have hS := law_FnExactInTime a0 w0 l0 a1 w1 a2 w2
  refine (law_true (xs := [_, _, _]) (w := W) hS.1 hS.2 rfl (fun j a x ha hx => ?_)).mono fun e W' ⟨he, bel⟩ => ?_
  · match j, ha, hx with
    | 0, ha, hx => injection ha with ha; injection hx with hx; subst ha hx; exact D0
    | 1, ha, hx => injection ha with ha; injection hx with hx; subst ha hx; exact D1
    | 2, ha, hx => injection ha with ha; injection hx with hx; subst ha hx; exact D2
    | j + 3, ha, hx => simp at ha
  subst he
  have hlt : ∀ x ∈ p0 ++ p1 ++ p2, x.block < W.heap.size := fun x hx => by simpa using hW'.lt x (by simpa using hx)
  exact ⟨_, rfl, _, _, _, [], _, [], hW', trodAll_mk1 (shut_bool Try.underlying4 _), (trodAll_cons_mk (Below.trod laidOut (by kernel_rfl) (of_decide_eq_true (by kernel_rfl)) k0_ bel (fun x hx => hlt x (by simp [hx]))) (trodAll_cons_mk (Below.trod laidOut (by kernel_rfl) (of_decide_eq_true (by kernel_rfl)) k1_ bel (fun x hx => hlt x (by simp [hx]))) (trodAll_cons_mk (Below.trod laidOut (by kernel_rfl) (of_decide_eq_true (by kernel_rfl)) k2_ bel (fun x hx => hlt x (by simp [hx]))) trodAll_mk0))), rfl, bel.frame _, fun h => by cases h⟩
theorem over : Rows.fnExactInTimeRow.holds Try.pinned (OpenSpec.ofChange Rows.fnExactInTimeSpec) :=
  OpenClaim.holds_of_wide 8 Try.f8 rfl rfl rfl rfl rfl rfl rfl ⟨rfl, rfl, rfl, rfl, rfl⟩ rfl rfl rfl rfl rfl (by kernel_rfl) Try.func8 (by kernel_rfl)
    (of_decide_eq_true (by kernel_rfl)) (by unfold Func.isWrapper; first | (rw [if_pos (by decide +kernel)]; kernel_rfl) | (rw [if_neg (by decide +kernel)]; exact ⟨rfl, rfl⟩))
    (fun os started H enc _ => lifted os started H enc)
theorem proved : Rows.FnExactInTimeSaid := over
#print axioms proved
end Go.Proofs.Ytmfbonhdjpmbkaa.fnExactInTime
namespace Go.Proofs.Ytmfbonhdjpmbkaa
/-- The row, under a short name, for the claim. -/
theorem fnExactInTime_holds : Rows.FnExactInTimeSaid := fnExactInTime.proved
end Go.Proofs.Ytmfbonhdjpmbkaa
