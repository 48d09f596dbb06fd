/- normal forms -/
import Derived.Test.YtlfkhhmpkgehbaaDoorOkT
import Derived.KernelRfl
namespace Go.Vm
open Go
set_option linter.unusedVariables false

set_option maxRecDepth 100000 in
theorem nf_37 (lp : (List T → Option LRes) → List T → Option LRes) (a b c : Int) : body lp ET45 37 [aI a, aI b, aI c] [] =
 (Option.elim (bif sLe b a then some [.bool (sLe a c)] else some [.bool false]) none fun val => bif okVl .bool (vAt val 0) && true then some (.ret { rets := [aB (bV (vAt val 0))], outs := [], pos := [] }) else none) := by kernel_rfl

set_option maxRecDepth 100000 in
theorem nf_47 (lp : (List T → Option LRes) → List T → Option LRes) (a b c : Int) : body lp ET46 47 [aI a, aI b, aI c] [] =
 (Option.elim (bif sLe b a then some [.bool (sLe a c)] else some [.bool false]) none fun val => bif okVl .bool (vAt val 0) && true then some (.ret { rets := [aB (bV (vAt val 0))], outs := [], pos := [] }) else none) := by kernel_rfl

set_option maxRecDepth 100000 in
theorem nf_64 (lp : (List T → Option LRes) → List T → Option LRes) (a : Int) : body lp ET47 64 [aI a] [] =
 (some (.ret { rets := [aB (mIn a 0 65535)], outs := [], pos := [] })) := by kernel_rfl

set_option maxRecDepth 100000 in
theorem nf_63 (lp : (List T → Option LRes) → List T → Option LRes) (a : Int) : body lp ET48 63 [aI a] [] =
 (some (.ret { rets := [aB (mIn a 1 4)], outs := [], pos := [] })) := by kernel_rfl

set_option maxRecDepth 100000 in
theorem nf_20 (lp : (List T → Option LRes) → List T → Option LRes) (a0 : Int) (a1 : Int) (a2 : Int) (a3 : Int) (a4 : Int) (a5 : Int) (a6 : Int) (a7 : Int) (a8 : Int) : body lp ET49 20 [.ag [tI a0, tI a1, tI a2, tI a3, tI a4, tI a5, tI a6, tI a7, tI a8]] [] =
 (Option.elim (bif mIn a0 1 6 then bif mIn a1 1 4 then bif mIn a2 1 1000 then bif mIn a3 0 1000 then bif mIn a4 0 1000 then bif mIn a5 1 20 then bif mIn a6 1 20 then bif mIn a7 1 20 then some [.bool (mIn a8 1 40)] else some [.bool false] else some [.bool false] else some [.bool false] else some [.bool false] else some [.bool false] else some [.bool false] else some [.bool false] else some [.bool false]) none fun val => bif okVl .bool (vAt val 0) && true then some (.ret { rets := [aB (bV (vAt val 0))], outs := [], pos := [] }) else none) := by kernel_rfl

set_option maxRecDepth 100000 in
theorem nf_27 (lp : (List T → Option LRes) → List T → Option LRes) (a0 : Int) (a1 : Int) (a2 : Int) (a3 : Int) (a4 : Int) (a5 : Int) (a6 : Int) (a7 : Int) (a8 : Int) : body lp ET50 27 [.ag [tI a0, tI a1, tI a2, tI a3, tI a4, tI a5, tI a6, tI a7, tI a8]] [] =
 (Option.elim (bif mIn a0 1 6 then bif mIn a1 1 4 then bif mIn a2 1 1000 then bif mIn a3 0 1000 then bif mIn a4 0 1000 then bif mIn a5 1 20 then bif mIn a6 1 20 then bif mIn a7 1 20 then some [.bool (mIn a8 1 40)] else some [.bool false] else some [.bool false] else some [.bool false] else some [.bool false] else some [.bool false] else some [.bool false] else some [.bool false] else some [.bool false]) none fun val => bif okVl .bool (vAt val 0) && true then some (.ret { rets := [aB (bV (vAt val 0))], outs := [], pos := [] }) else none) := by kernel_rfl

end Go.Vm
