/- FnExactEngineText: for every input the law returns true. No condition. -/
import Derived.Test.YtlfkhhmpkgehbaaDoorRows
import Derived.Test.YtlfkhhmpkgehbaaDoorLEngineTextB
import Derived.Test.YtlfkhhmpkgehbaaDoorChecked
import Derived.Test.YtlfkhhmpkgehbaaDoorCards
import Derived.Test.YtlfkhhmpkgehbaaDoorTie
import Derived.WalkKit
import Derived.ProofKit
import Derived.OpenShut
import Derived.ShutString
import Derived.ChangeOld
import Derived.Below
import Derived.SizedLaws
import Derived.Carry
import Derived.LaidMore
import Derived.LaidSub
import Derived.Stop.Joined
import Derived.MakeChecks
import Derived.SevenTiedAt
namespace Go.Proofs.YtlfkhhmpkgehbaaDoor.fnExactEngineText
open Go.ChangeShapes Go.WideShapes Go.ChangeAt Go.RowKit Go.Vm
open Go.ChangeMaps (open_string shut_string)
set_option linter.unusedVariables false
theorem own : ownKnob Tryd.prog.godebug = none := by kernel_rfl
theorem laidOut : laidOutB Tryd.prog = true := by kernel_rfl
theorem opv36 : Opv Tryd.prog 36 [.int .i64, .int .i64, .int .i64, .int .i64, .int .i64, .int .i64] := (opv_struct Tryd.underlying36 (by kernel_rfl) (opvF_cons (a := [.int .i64]) (b := [.int .i64, .int .i64, .int .i64, .int .i64, .int .i64]) (by rfl) (by kernel_rfl) (opv_int Tryd.underlying3) (opvF_cons (a := [.int .i64]) (b := [.int .i64, .int .i64, .int .i64, .int .i64]) (by rfl) (by kernel_rfl) (opv_int Tryd.underlying3) (opvF_cons (a := [.int .i64]) (b := [.int .i64, .int .i64, .int .i64]) (by rfl) (by kernel_rfl) (opv_int Tryd.underlying3) (opvF_cons (a := [.int .i64]) (b := [.int .i64, .int .i64]) (by rfl) (by kernel_rfl) (opv_int Tryd.underlying3) (opvF_cons (a := [.int .i64]) (b := [.int .i64]) (by rfl) (by kernel_rfl) (opv_int Tryd.underlying3) (opvF_cons (a := [.int .i64]) (b := []) (by rfl) (by kernel_rfl) (opv_int Tryd.underlying3) opvF_nil)))))))
theorem opv34 : Opv Tryd.prog 34 [.sl [.int .i64]] := (opv_slice (e := 3) Tryd.underlying34 (by kernel_rfl) (by decide) (by kernel_rfl) (opv_int Tryd.underlying3))
theorem opv139 : Opv Tryd.prog 139 [.int .i64, .int .i64, .int .i64, .int .i64, .int .i64, .int .i64] := (opv_struct Tryd.underlying139 (by kernel_rfl) (opvF_cons (a := [.int .i64]) (b := [.int .i64, .int .i64, .int .i64, .int .i64, .int .i64]) (by rfl) (by kernel_rfl) (opv_int Tryd.underlying3) (opvF_cons (a := [.int .i64]) (b := [.int .i64, .int .i64, .int .i64, .int .i64]) (by rfl) (by kernel_rfl) (opv_int Tryd.underlying3) (opvF_cons (a := [.int .i64]) (b := [.int .i64, .int .i64, .int .i64]) (by rfl) (by kernel_rfl) (opv_int Tryd.underlying3) (opvF_cons (a := [.int .i64]) (b := [.int .i64, .int .i64]) (by rfl) (by kernel_rfl) (opv_int Tryd.underlying3) (opvF_cons (a := [.int .i64]) (b := [.int .i64]) (by rfl) (by kernel_rfl) (opv_int Tryd.underlying3) (opvF_cons (a := [.int .i64]) (b := []) (by rfl) (by kernel_rfl) (opv_int Tryd.underlying3) opvF_nil)))))))
theorem opv33 : Opv Tryd.prog 33 [.sl [.int .i64, .int .i64, .int .i64, .int .i64, .int .i64, .int .i64]] := (opv_slice (e := 139) Tryd.underlying33 (by kernel_rfl) (by decide) (by kernel_rfl) opv139)
theorem opv119 : Opv Tryd.prog 119 [.sl [.int .i64, .int .i64, .int .i64, .int .i64, .int .i64, .int .i64], .int .i64, .int .i64, .int .i64] := (opv_struct Tryd.underlying119 (by kernel_rfl) (opvF_cons (a := [.sl [.int .i64, .int .i64, .int .i64, .int .i64, .int .i64, .int .i64]]) (b := [.int .i64, .int .i64, .int .i64]) (by rfl) (by kernel_rfl) opv33 (opvF_cons (a := [.int .i64]) (b := [.int .i64, .int .i64]) (by rfl) (by kernel_rfl) (opv_int Tryd.underlying3) (opvF_cons (a := [.int .i64]) (b := [.int .i64]) (by rfl) (by kernel_rfl) (opv_int Tryd.underlying3) (opvF_cons (a := [.int .i64]) (b := []) (by rfl) (by kernel_rfl) (opv_int Tryd.underlying3) opvF_nil)))))
theorem opv32 : Opv Tryd.prog 32 [.sl [.sl [.int .i64, .int .i64, .int .i64, .int .i64, .int .i64, .int .i64], .int .i64, .int .i64, .int .i64]] := (opv_slice (e := 119) Tryd.underlying32 (by kernel_rfl) (by decide) (by kernel_rfl) opv119)
theorem opv132 : Opv Tryd.prog 132 [.int .i64, .int .i64, .int .i64, .int .i64] := (opv_struct Tryd.underlying132 (by kernel_rfl) (opvF_cons (a := [.int .i64]) (b := [.int .i64, .int .i64, .int .i64]) (by rfl) (by kernel_rfl) (opv_int Tryd.underlying3) (opvF_cons (a := [.int .i64]) (b := [.int .i64, .int .i64]) (by rfl) (by kernel_rfl) (opv_int Tryd.underlying3) (opvF_cons (a := [.int .i64]) (b := [.int .i64]) (by rfl) (by kernel_rfl) (opv_int Tryd.underlying3) (opvF_cons (a := [.int .i64]) (b := []) (by rfl) (by kernel_rfl) (opv_int Tryd.underlying3) opvF_nil)))))
theorem opv134 : Opv Tryd.prog 134 [.int .i64, .int .i64, .int .i64, .int .i64, .int .i64] := (opv_struct Tryd.underlying134 (by kernel_rfl) (opvF_cons (a := [.int .i64, .int .i64, .int .i64, .int .i64]) (b := [.int .i64]) (by rfl) (by kernel_rfl) opv132 (opvF_cons (a := [.int .i64]) (b := []) (by rfl) (by kernel_rfl) (opv_int Tryd.underlying3) opvF_nil)))
theorem opv30 : Opv Tryd.prog 30 [.sl [.int .i64, .int .i64, .int .i64, .int .i64, .int .i64]] := (opv_slice (e := 134) Tryd.underlying30 (by kernel_rfl) (by decide) (by kernel_rfl) opv134)
theorem opv31 : Opv Tryd.prog 31 [.sl [.sl [.int .i64, .int .i64, .int .i64, .int .i64, .int .i64]]] := (opv_slice (e := 30) Tryd.underlying31 (by kernel_rfl) (by decide) (by kernel_rfl) opv30)
theorem opv114 : Opv Tryd.prog 114 [.int .i64, .int .i64, .int .i64, .bool, .bool] := (opv_struct Tryd.underlying114 (by kernel_rfl) (opvF_cons (a := [.int .i64]) (b := [.int .i64, .int .i64, .bool, .bool]) (by rfl) (by kernel_rfl) (opv_int Tryd.underlying3) (opvF_cons (a := [.int .i64]) (b := [.int .i64, .bool, .bool]) (by rfl) (by kernel_rfl) (opv_int Tryd.underlying3) (opvF_cons (a := [.int .i64]) (b := [.bool, .bool]) (by rfl) (by kernel_rfl) (opv_int Tryd.underlying3) (opvF_cons (a := [.bool]) (b := [.bool]) (by rfl) (by kernel_rfl) (opv_bool Tryd.underlying4) (opvF_cons (a := [.bool]) (b := []) (by rfl) (by kernel_rfl) (opv_bool Tryd.underlying4) opvF_nil))))))
theorem opv56 : Opv Tryd.prog 56 [.sl [.int .u8]] := (opv_slice (e := 5) Tryd.underlying56 (by kernel_rfl) (by decide) (by kernel_rfl) (opv_int Tryd.underlying5))
theorem opv112 : Opv Tryd.prog 112 [.sl [.int .u8], .bool] := (opv_struct Tryd.underlying112 (by kernel_rfl) (opvF_cons (a := [.sl [.int .u8]]) (b := [.bool]) (by rfl) (by kernel_rfl) opv56 (opvF_cons (a := [.bool]) (b := []) (by rfl) (by kernel_rfl) (opv_bool Tryd.underlying4) opvF_nil)))
theorem opv116 : Opv Tryd.prog 116 [.sl [.int .u8], .bool, .int .i64, .int .i64, .int .i64, .bool, .bool] := (opv_struct Tryd.underlying116 (by kernel_rfl) (opvF_cons (a := [.sl [.int .u8], .bool]) (b := [.int .i64, .int .i64, .int .i64, .bool, .bool]) (by rfl) (by kernel_rfl) opv112 (opvF_cons (a := [.int .i64, .int .i64, .int .i64, .bool, .bool]) (b := []) (by rfl) (by kernel_rfl) opv114 opvF_nil)))
theorem opv29 : Opv Tryd.prog 29 [.sl [.sl [.int .u8], .bool, .int .i64, .int .i64, .int .i64, .bool, .bool]] := (opv_slice (e := 116) Tryd.underlying29 (by kernel_rfl) (by decide) (by kernel_rfl) opv116)
theorem opv23 : Opv Tryd.prog 23 [.int .i64, .int .i64, .int .i64, .int .i64, .int .i64, .int .i64, .int .i64, .int .i64, .int .i64] := (opv_struct Tryd.underlying23 (by kernel_rfl) (opvF_cons (a := [.int .i64]) (b := [.int .i64, .int .i64, .int .i64, .int .i64, .int .i64, .int .i64, .int .i64, .int .i64]) (by rfl) (by kernel_rfl) (opv_int Tryd.underlying3) (opvF_cons (a := [.int .i64]) (b := [.int .i64, .int .i64, .int .i64, .int .i64, .int .i64, .int .i64, .int .i64]) (by rfl) (by kernel_rfl) (opv_int Tryd.underlying3) (opvF_cons (a := [.int .i64]) (b := [.int .i64, .int .i64, .int .i64, .int .i64, .int .i64, .int .i64]) (by rfl) (by kernel_rfl) (opv_int Tryd.underlying3) (opvF_cons (a := [.int .i64]) (b := [.int .i64, .int .i64, .int .i64, .int .i64, .int .i64]) (by rfl) (by kernel_rfl) (opv_int Tryd.underlying3) (opvF_cons (a := [.int .i64]) (b := [.int .i64, .int .i64, .int .i64, .int .i64]) (by rfl) (by kernel_rfl) (opv_int Tryd.underlying3) (opvF_cons (a := [.int .i64]) (b := [.int .i64, .int .i64, .int .i64]) (by rfl) (by kernel_rfl) (opv_int Tryd.underlying3) (opvF_cons (a := [.int .i64]) (b := [.int .i64, .int .i64]) (by rfl) (by kernel_rfl) (opv_int Tryd.underlying3) (opvF_cons (a := [.int .i64]) (b := [.int .i64]) (by rfl) (by kernel_rfl) (opv_int Tryd.underlying3) (opvF_cons (a := [.int .i64]) (b := []) (by rfl) (by kernel_rfl) (opv_int Tryd.underlying3) opvF_nil))))))))))
theorem opv38 : Opv Tryd.prog 38 [.int .i64, .int .i64, .int .i64, .int .i64, .int .i64, .int .i64, .int .i64, .int .i64, .int .i64, .int .i64, .int .i64, .sl [.sl [.int .u8], .bool, .int .i64, .int .i64, .int .i64, .bool, .bool], .sl [.int .i64, .int .i64, .int .i64, .int .i64, .int .i64], .sl [.sl [.int .i64, .int .i64, .int .i64, .int .i64, .int .i64]], .sl [.sl [.int .i64, .int .i64, .int .i64, .int .i64, .int .i64, .int .i64], .int .i64, .int .i64, .int .i64], .sl [.int .i64, .int .i64, .int .i64, .int .i64, .int .i64, .int .i64], .int .i64, .sl [.int .i64], .int .i64, .int .i64, .int .i64, .int .i64, .int .i64, .int .i64] := (opv_struct Tryd.underlying38 (by kernel_rfl) (opvF_cons (a := [.int .i64, .int .i64, .int .i64, .int .i64, .int .i64, .int .i64, .int .i64, .int .i64, .int .i64]) (b := [.int .i64, .int .i64, .sl [.sl [.int .u8], .bool, .int .i64, .int .i64, .int .i64, .bool, .bool], .sl [.int .i64, .int .i64, .int .i64, .int .i64, .int .i64], .sl [.sl [.int .i64, .int .i64, .int .i64, .int .i64, .int .i64]], .sl [.sl [.int .i64, .int .i64, .int .i64, .int .i64, .int .i64, .int .i64], .int .i64, .int .i64, .int .i64], .sl [.int .i64, .int .i64, .int .i64, .int .i64, .int .i64, .int .i64], .int .i64, .sl [.int .i64], .int .i64, .int .i64, .int .i64, .int .i64, .int .i64, .int .i64]) (by rfl) (by kernel_rfl) opv23 (opvF_cons (a := [.int .i64]) (b := [.int .i64, .sl [.sl [.int .u8], .bool, .int .i64, .int .i64, .int .i64, .bool, .bool], .sl [.int .i64, .int .i64, .int .i64, .int .i64, .int .i64], .sl [.sl [.int .i64, .int .i64, .int .i64, .int .i64, .int .i64]], .sl [.sl [.int .i64, .int .i64, .int .i64, .int .i64, .int .i64, .int .i64], .int .i64, .int .i64, .int .i64], .sl [.int .i64, .int .i64, .int .i64, .int .i64, .int .i64, .int .i64], .int .i64, .sl [.int .i64], .int .i64, .int .i64, .int .i64, .int .i64, .int .i64, .int .i64]) (by rfl) (by kernel_rfl) (opv_int Tryd.underlying3) (opvF_cons (a := [.int .i64]) (b := [.sl [.sl [.int .u8], .bool, .int .i64, .int .i64, .int .i64, .bool, .bool], .sl [.int .i64, .int .i64, .int .i64, .int .i64, .int .i64], .sl [.sl [.int .i64, .int .i64, .int .i64, .int .i64, .int .i64]], .sl [.sl [.int .i64, .int .i64, .int .i64, .int .i64, .int .i64, .int .i64], .int .i64, .int .i64, .int .i64], .sl [.int .i64, .int .i64, .int .i64, .int .i64, .int .i64, .int .i64], .int .i64, .sl [.int .i64], .int .i64, .int .i64, .int .i64, .int .i64, .int .i64, .int .i64]) (by rfl) (by kernel_rfl) (opv_int Tryd.underlying3) (opvF_cons (a := [.sl [.sl [.int .u8], .bool, .int .i64, .int .i64, .int .i64, .bool, .bool]]) (b := [.sl [.int .i64, .int .i64, .int .i64, .int .i64, .int .i64], .sl [.sl [.int .i64, .int .i64, .int .i64, .int .i64, .int .i64]], .sl [.sl [.int .i64, .int .i64, .int .i64, .int .i64, .int .i64, .int .i64], .int .i64, .int .i64, .int .i64], .sl [.int .i64, .int .i64, .int .i64, .int .i64, .int .i64, .int .i64], .int .i64, .sl [.int .i64], .int .i64, .int .i64, .int .i64, .int .i64, .int .i64, .int .i64]) (by rfl) (by kernel_rfl) opv29 (opvF_cons (a := [.sl [.int .i64, .int .i64, .int .i64, .int .i64, .int .i64]]) (b := [.sl [.sl [.int .i64, .int .i64, .int .i64, .int .i64, .int .i64]], .sl [.sl [.int .i64, .int .i64, .int .i64, .int .i64, .int .i64, .int .i64], .int .i64, .int .i64, .int .i64], .sl [.int .i64, .int .i64, .int .i64, .int .i64, .int .i64, .int .i64], .int .i64, .sl [.int .i64], .int .i64, .int .i64, .int .i64, .int .i64, .int .i64, .int .i64]) (by rfl) (by kernel_rfl) opv30 (opvF_cons (a := [.sl [.sl [.int .i64, .int .i64, .int .i64, .int .i64, .int .i64]]]) (b := [.sl [.sl [.int .i64, .int .i64, .int .i64, .int .i64, .int .i64, .int .i64], .int .i64, .int .i64, .int .i64], .sl [.int .i64, .int .i64, .int .i64, .int .i64, .int .i64, .int .i64], .int .i64, .sl [.int .i64], .int .i64, .int .i64, .int .i64, .int .i64, .int .i64, .int .i64]) (by rfl) (by kernel_rfl) opv31 (opvF_cons (a := [.sl [.sl [.int .i64, .int .i64, .int .i64, .int .i64, .int .i64, .int .i64], .int .i64, .int .i64, .int .i64]]) (b := [.sl [.int .i64, .int .i64, .int .i64, .int .i64, .int .i64, .int .i64], .int .i64, .sl [.int .i64], .int .i64, .int .i64, .int .i64, .int .i64, .int .i64, .int .i64]) (by rfl) (by kernel_rfl) opv32 (opvF_cons (a := [.sl [.int .i64, .int .i64, .int .i64, .int .i64, .int .i64, .int .i64]]) (b := [.int .i64, .sl [.int .i64], .int .i64, .int .i64, .int .i64, .int .i64, .int .i64, .int .i64]) (by rfl) (by kernel_rfl) opv33 (opvF_cons (a := [.int .i64]) (b := [.sl [.int .i64], .int .i64, .int .i64, .int .i64, .int .i64, .int .i64, .int .i64]) (by rfl) (by kernel_rfl) (opv_int Tryd.underlying3) (opvF_cons (a := [.sl [.int .i64]]) (b := [.int .i64, .int .i64, .int .i64, .int .i64, .int .i64, .int .i64]) (by rfl) (by kernel_rfl) opv34 (opvF_cons (a := [.int .i64, .int .i64, .int .i64, .int .i64, .int .i64, .int .i64]) (b := []) (by rfl) (by kernel_rfl) opv36 opvF_nil))))))))))))
theorem door_met (os : Os) (args : Array Value) : laidMetH Tryd.prog Rows.fnExactEngineTextRow.laid ((World.doorLaid Tryd.prog 4000 os).forCall (fun _ _ => 0) ⟨#[], args, []⟩).memory :=
  laidMetH_of_parts3 (fuel := 8) (laidMet_of_run' 8 (by kernel_rfl) (by kernel_rfl)) (by kernel_rfl) (by kernel_rfl)
theorem glob_of {W : World} (h : laidMetH Tryd.prog Rows.fnExactEngineTextRow.laid W) : glob W := by
  have h1 := h.filter fun x => x.1 == "internal/strconv.uint64pow10"
  have e : (Rows.fnExactEngineTextRow.laid.filter fun x => x.1 == "internal/strconv.uint64pow10") = [("internal/strconv.uint64pow10", Lib.tabData .u64 Lib.pow10Tab)] := by kernel_rfl
  rw [e, MakeChecks.laidMetH_plain _ _ _ (by kernel_rfl)] at h1
  have hg : Tryd.prog.globalNamed "internal/strconv.uint64pow10" = some 3 := by kernel_rfl
  have h2 : Lib.TabIs Tryd.prog W "internal/strconv.uint64pow10" .u64 Lib.pow10Tab := Lib.tabIs_of_head hg (t := 201) (e := 182) (n := 20) (by kernel_rfl) Tryd.underlying201 Tryd.underlying182 (by kernel_rfl) (by kernel_rfl) h1
  unfold Lib.TabIs World.var? at h2
  rw [hg, Option.bind_some] at h2
  unfold glob
  split at h2
  · rename_i cs t fr hc
    injection h2 with h2
    subst h2
    exact ⟨t, fr, hc⟩
  · cases h2
set_option maxRecDepth 100000 in
theorem lifted (os : Os) (started : os.Started) (H : Type) (enc : TypeId × Value → H) :
    ReturnsInHanded {} Tryd.checked os 4 .any (fun w args => (Rows.fnExactEngineTextSpec.pre enc Tryd.prog Tryd.f4 [] false w args ∧ laidMetH Tryd.prog Rows.fnExactEngineTextRow.laid w) ∧ sizedMet enc Tryd.prog Tryd.f4 (OpenSpec.ofChange Rows.fnExactEngineTextSpec) false w args)
      (Rows.fnExactEngineTextSpec.post enc Tryd.prog Tryd.f4 false true false false) := by
  refine returnsInHanded_of_change_and (C := Tryd.checked) (X := fun w _ => laidMetH Tryd.prog Rows.fnExactEngineTextRow.laid w) (fun _ _ _ hh h => h.of_heap hh) own started (by kernel_rfl) Tryd.func4
    (ChangeSpec.witness_shaped (enc := enc) (C := Tryd.checked) (os := os) (X := fun w _ => laidMetH Tryd.prog Rows.fnExactEngineTextRow.laid w) false (World.doorLaid Tryd.prog 4000 os) #[.agg #[.int .i64 0, .int .i64 0, .int .i64 0, .int .i64 0, .int .i64 0, .int .i64 0, .int .i64 0, .int .i64 0, .int .i64 0, .int .i64 0, .int .i64 0, .slice none 0 0, .slice none 0 0, .slice none 0 0, .slice none 0 0, .slice none 0 0, .int .i64 0, .slice none 0 0, .int .i64 0, .int .i64 0, .int .i64 0, .int .i64 0, .int .i64 0, .int .i64 0]] 8 rfl (World.shaped_of_RefB (by kernel_rfl) (by kernel_rfl)) (by kernel_rfl) (by kernel_rfl) (by kernel_rfl) (door_met os _)) ?_
  intro W base args ds gs before hval0 hW hcnd hsz0 hL _
  have hsz : (DataW.weightsEach Tryd.prog (Tryd.f4.params.toList ++ Rows.fnExactEngineTextSpec.plain.varTypes Tryd.prog) (ds ++ gs)).all (· ≤ reachBytes) = true := hsz0
  have hval : ∀ (j : Nat) t v, Tryd.f4.params[j]? = some t → args[j]? = some v → Value.okWide Tryd.prog W .any base t v := hval0
  have hW' := hW
  obtain ⟨p, q, hA0, hV, rfl, hfz, hnd⟩ := hW
  have hA : DataW.TrodAll enc Tryd.prog W 0 (fun _ => true) true Tryd.f4.params.toList args.toList ds p := hA0
  rw [Tryd.params4] at hA hval hsz
  obtain ⟨v0, vs0, d0, ds0, p0, q0, hargs, rfl, rfl, h0, r0⟩ := trodAll_cons hA
  obtain ⟨rfl, rfl, rfl⟩ := trodAll_nil r0
  obtain rfl : args = #[v0] := by cases args; simp_all
  obtain ⟨rfl, rfl⟩ := trodVars_none hV
  have k0_ := h0
  obtain ⟨a0, w0, D0⟩ := arg_struct Tryd.underlying38 opv38 (hval 0 38 v0 rfl rfl) h0 (weights_le hsz (j := 0) rfl rfl)
  have hS := law_FnExactEngineText a0 w0
  refine (law_true (xs := [_]) (w := W) hS.1 hS.2 rfl (fun j a x ha hx => ?_) (glob_of hL)).mono fun e W' ⟨he, bel⟩ => ?_
  · match j, ha, hx with
    | 0, ha, hx => injection ha with ha; injection hx with hx; subst ha hx; exact D0
    | j + 1, ha, hx => simp at ha
  subst he
  have hlt : ∀ x ∈ p0, x.block < W.heap.size := fun x hx => by simpa using hW'.lt x (by simpa using hx)
  exact ⟨_, rfl, _, _, _, [], _, [], hW', trodAll_mk1 (shut_bool Tryd.underlying4 _), (trodAll_cons_mk (Below.trod laidOut (by kernel_rfl) (of_decide_eq_true (by kernel_rfl)) k0_ bel (fun x hx => hlt x (by simp [hx]))) trodAll_mk0), rfl, bel.frame _, fun h => by cases h⟩
theorem over : Rows.fnExactEngineTextRow.holds Tryd.pinned (OpenSpec.ofChange Rows.fnExactEngineTextSpec) :=
  OpenClaim.holds_of_wide 4 Tryd.f4 rfl rfl rfl rfl rfl rfl rfl ⟨rfl, rfl, rfl, rfl, rfl⟩ rfl rfl rfl rfl rfl (by kernel_rfl) Tryd.func4 (by kernel_rfl)
    (of_decide_eq_true (by kernel_rfl)) (by unfold Func.isWrapper; first | (rw [if_pos (by decide +kernel)]; kernel_rfl) | (rw [if_neg (by decide +kernel)]; exact ⟨rfl, rfl⟩))
    (fun os started H enc _ => lifted os started H enc)
theorem row_tie : Rows.fnExactEngineTextRow.laidByTextAt .later Tryd.pinned [.data, .data, .data] true := fnExactEngineText_row_tie
theorem proved : Rows.FnExactEngineTextCardSaid :=
  Claim7.holds_tied_plain_at .later [] [.data, .data, .data] true Rows.fnExactEngineTextCard.stood.harness true
    over (fun _ h => by cases h) (by kernel_rfl) (fun _ h => by cases h) row_tie rfl ⟨rfl, rfl⟩ (by kernel_rfl) rfl
    (fun f fn hf hfn => by
      obtain rfl : f = 4 := Option.some.inj ((show Tryd.prog.funcNamed "loop.example/g00728/laws.FnExactEngineText" = some 4 by kernel_rfl).symm.trans hf) |>.symm
      obtain rfl : fn = Tryd.f4 := (Option.some.inj (Tryd.func4.symm.trans hfn)).symm
      exact ⟨by kernel_rfl, fun j t ht => by
        rw [Tryd.params4] at ht
        have h3 : t = 38 := by
          match j, ht with
          | 0, ht => exact (Option.some.inj ht).symm
          | j + 1, ht => simp at ht
        rcases h3 with rfl
        · exact (show Tryd.prog.wantsStandIn 38 = false by kernel_rfl)⟩)
    (by kernel_rfl)
#print axioms proved
end Go.Proofs.YtlfkhhmpkgehbaaDoor.fnExactEngineText
namespace Go.Proofs.YtlfkhhmpkgehbaaDoor
/-- The card, under a short name, for the claim. -/
theorem fnExactEngineText_holds : Rows.FnExactEngineTextCardSaid := fnExactEngineText.proved
end Go.Proofs.YtlfkhhmpkgehbaaDoor
