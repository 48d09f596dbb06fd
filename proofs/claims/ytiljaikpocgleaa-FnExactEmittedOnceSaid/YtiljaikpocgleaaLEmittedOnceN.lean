/- normal forms -/
import Derived.Test.YtiljaikpocgleaaLEmittedOnceT
import Derived.KernelRfl
namespace Go.Vm
open Go
set_option linter.unusedVariables false

set_option maxRecDepth 100000 in
theorem nf_4 (lp : (List T → Option LRes) → List T → Option LRes) (rs : List (List T)) : body lp ET42 4 [.c (.sl .ro 6 rs)] [] =
 (bif pSz kAggT rs 1048576 then bif sLt (sSz rs 1048576) 0 then some (.ret (oB true)) else bif pTo kAggT rs then bif sNoRo (.sl .own 6 (sOwn rs)) && true then bif pEq kAggT (sOwn rs) then bif pTo kAggT rs then bif sNoRo (.sl .own 6 (sOwn rs)) && true then bif pEq kAggT (sOwn rs) then bif !sBeq (sOnce (sOwn rs)) (sOnce (sOwn rs)) then some (.ret (oB false)) else bif pTo kAggT rs then bif sNoRo (.sl .own 6 (sOwn rs)) && true then bif pEq kAggT (sOwn rs) && pEq kAggT (sOwn rs) then bif !sEqS (sOwn rs) (sOwn rs) then some (.ret (oB false)) else some (.ret (oB true)) else none else none else none else none else none else none else none else none else none else none) := by kernel_rfl

end Go.Vm
