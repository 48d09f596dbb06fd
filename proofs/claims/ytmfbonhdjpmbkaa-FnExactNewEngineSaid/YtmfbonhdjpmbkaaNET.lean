/- a new engine: the table -/
import Derived.Test.YtmfbonhdjpmbkaaMkT
import Derived.Test.YtmfbonhdjpmbkaaOkT
namespace Go.Vm
set_option linter.unusedVariables false
noncomputable section
def gNewShard : GFn
  | [], [] => (true, ⟨[.ag [.sl .own 6 [], tI (-1), tI 0, tI 0]], [], []⟩)
  | _, _ => gNo
def sI : Bool → Int → Int := sld fun b x => bif b then x else 0
def sNeS : Bool → Int → List (List T) := sld fun b n => bif b then List.replicate n.toNat [.sl .own 5 []] else []
def sNeH : Bool → Int → List (List T) := sld fun b n => bif b then List.replicate n.toNat [.sl .own 6 [], tI (-1), tI 0, tI 0] else []
def sNeM : Bool → Int → List (List T) := sld fun b n => bif b then List.replicate n.toNat [tI (-1)] else []
def gNewEngine : GFn
  | [.ag [tI a0, tI a1, tI a2, tI a3, tI a4, tI a5, tI a6, tI a7, tI a8]], [] => (true, ⟨[.ag [tI (sI (mSetupOk [tI a0, tI a1, tI a2, tI a3, tI a4, tI a5, tI a6, tI a7, tI a8]) a0), tI (sI (mSetupOk [tI a0, tI a1, tI a2, tI a3, tI a4, tI a5, tI a6, tI a7, tI a8]) a1), tI (sI (mSetupOk [tI a0, tI a1, tI a2, tI a3, tI a4, tI a5, tI a6, tI a7, tI a8]) a2), tI (sI (mSetupOk [tI a0, tI a1, tI a2, tI a3, tI a4, tI a5, tI a6, tI a7, tI a8]) a3), tI (sI (mSetupOk [tI a0, tI a1, tI a2, tI a3, tI a4, tI a5, tI a6, tI a7, tI a8]) a4), tI (sI (mSetupOk [tI a0, tI a1, tI a2, tI a3, tI a4, tI a5, tI a6, tI a7, tI a8]) a5), tI (sI (mSetupOk [tI a0, tI a1, tI a2, tI a3, tI a4, tI a5, tI a6, tI a7, tI a8]) a6), tI (sI (mSetupOk [tI a0, tI a1, tI a2, tI a3, tI a4, tI a5, tI a6, tI a7, tI a8]) a7), tI (sI (mSetupOk [tI a0, tI a1, tI a2, tI a3, tI a4, tI a5, tI a6, tI a7, tI a8]) a8), tI 0, tI 0, .sl .own 7 [], .sl .own 5 [], .sl .own 1 (sNeS (mSetupOk [tI a0, tI a1, tI a2, tI a3, tI a4, tI a5, tI a6, tI a7, tI a8]) a1), .sl .own 4 (sNeH (mSetupOk [tI a0, tI a1, tI a2, tI a3, tI a4, tI a5, tI a6, tI a7, tI a8]) a1), .sl .own 6 [], tI (sI (mSetupOk [tI a0, tI a1, tI a2, tI a3, tI a4, tI a5, tI a6, tI a7, tI a8]) (-1)), .sl .own 1 (sNeM (mSetupOk [tI a0, tI a1, tI a2, tI a3, tI a4, tI a5, tI a6, tI a7, tI a8]) a1), tI 0, tI 0, tI 0, tI 0, tI 0, tI 0], aB (mSetupOk [tI a0, tI a1, tI a2, tI a3, tI a4, tI a5, tI a6, tI a7, tI a8])], [], []⟩)
  | _, _ => gNo
noncomputable def ET84 : Env := EE Go.Proofs.Try.prog md0 (fun _ => .own) TL84
noncomputable def TL85 : List (Nat × GFn) := (90, gNewShard) :: TL84
noncomputable def ET85 : Env := EE Go.Proofs.Try.prog md0 (fun _ => .own) TL85
noncomputable def TL86 : List (Nat × GFn) := (92, gNewShard) :: TL85
noncomputable def ET86 : Env := EE Go.Proofs.Try.prog md0 (fun _ => .own) TL86
noncomputable def TL87 : List (Nat × GFn) := (40, gNewEngine) :: TL86
noncomputable def ET87 : Env := EE Go.Proofs.Try.prog md0 (fun _ => .own) TL87
noncomputable def TL88 : List (Nat × GFn) := (42, gNewEngine) :: TL87
noncomputable def ET88 : Env := EE Go.Proofs.Try.prog md0 (fun _ => .own) TL88

end
end Go.Vm
