/- normal forms -/
import Derived.Test.YtlfkhhmpkgehbaaDoorLSetupTextT
import Derived.KernelRfl
namespace Go.Vm
open Go
set_option linter.unusedVariables false

set_option maxRecDepth 100000 in
theorem nf_3 (lp : (List T → Option LRes) → List T → Option LRes) (a0 : Int) (a1 : Int) (a2 : Int) (a3 : Int) (a4 : Int) (a5 : Int) (a6 : Int) (a7 : Int) (a8 : Int) : body lp ET59 3 [.ag [tI a0, tI a1, tI a2, tI a3, tI a4, tI a5, tI a6, tI a7, tI a8]] [] =
 (bif pToR kSetup [tI a0, tI a1, tI a2, tI a3, tI a4, tI a5, tI a6, tI a7, tI a8] then bif sShR kSetup [tI a0, tI a1, tI a2, tI a3, tI a4, tI a5, tI a6, tI a7, tI a8] then bif pToR kSetup [tI a0, tI a1, tI a2, tI a3, tI a4, tI a5, tI a6, tI a7, tI a8] then bif sShR kSetup [tI a0, tI a1, tI a2, tI a3, tI a4, tI a5, tI a6, tI a7, tI a8] then Option.elim (bif !sSeq (sSetT [tI a0, tI a1, tI a2, tI a3, tI a4, tI a5, tI a6, tI a7, tI a8]) (sSetT [tI a0, tI a1, tI a2, tI a3, tI a4, tI a5, tI a6, tI a7, tI a8]) then some [.bool true] else some [.bool !sBeq (mSetupOk [tI a0, tI a1, tI a2, tI a3, tI a4, tI a5, tI a6, tI a7, tI a8]) (mSetupOk [tI a0, tI a1, tI a2, tI a3, tI a4, tI a5, tI a6, tI a7, tI a8])]) none fun val => bif okVl .bool (vAt val 0) && true then bif bV (vAt val 0) then some (.ret (oB false)) else some (.ret (oB true)) else none else none else none else none else none) := by kernel_rfl

end Go.Vm
