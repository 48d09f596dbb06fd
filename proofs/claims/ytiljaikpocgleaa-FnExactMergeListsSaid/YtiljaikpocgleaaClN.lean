/- normal forms -/
import Derived.Test.YtiljaikpocgleaaClT
import Derived.KernelRfl
namespace Go.Vm
open Go
set_option linter.unusedVariables false

set_option maxRecDepth 100000 in
theorem nf_64 (lp : (List T → Option LRes) → List T → Option LRes) (rs : List (List T)) : bodyS lp ET48 64 [.c (.sl .ro 6 rs)] [] (stNn [.c (.sl .ro 6 rs)] 6 rs) =
 (bif sFlat rs then bif sFit (sLen [] + sLen rs) then some (.ret { rets := [.c (.sl .own 6 (sApp [] rs))], outs := [], pos := [] }) else none else none) := by kernel_rfl

set_option maxRecDepth 100000 in
theorem nf_64_l (lp : (List T → Option LRes) → List T → Option LRes) (rs : List (List T)) : bodyS lp ET48 64 [.c (.sl .ro 6 rs)] [] (stNl [.c (.sl .ro 6 rs)] 6) =
 (some (.ret { rets := [.c (.sl .own 6 [])], outs := [], pos := [] })) := by kernel_rfl

set_option maxRecDepth 100000 in
theorem nf_145 (lp : (List T → Option LRes) → List T → Option LRes) (n : Int) : body lp ET49 145 [.c (.im (.slice none 0 0)), aI n] [] =
 (bif sLt n 0 then none else bif sLt 0 (sSub .i64 n (sSub .i64 0 0)) then bif sEq 0 0 && sEq 0 0 then bif sLe 0 (sSub .i64 n (sSub .i64 0 0)) && sLt (sSub .i64 n (sSub .i64 0 0)) 4294967296 && true && true && true && true then bif sLe 0 0 && sLe 0 0 && sLe 0 (Int.ofNat ((sSub .i64 n (sSub .i64 0 0)).toNat)) then some (.ret { rets := [.c (.sl .own 1 (sCut false (Int.toNat 0) (Int.toNat 0 - Int.toNat 0) (sRep (sSub .i64 n (sSub .i64 0 0)).toNat [.im (.int .u8 0)])))], outs := [], pos := [] }) else none else none else none else some (.ret { rets := [.c (.sl .own 1 [])], outs := [], pos := [] })) := by kernel_rfl

set_option maxRecDepth 100000 in
theorem nf_131 (lp : (List T → Option LRes) → List T → Option LRes) (a b : List (List T)) : body lp ET50 131 [.c (.sl .ro 1 [[.sl .ro 1 a], [.sl .own 1 b]])] [] =
 (Option.elim (lp (fun ds => bif okT .own (.int .i64) (tAt ds 0) && (okT .own (.int .i64) (tAt ds 1) && true) then bif sLt (iT (tAt ds 1)) (Int.ofNat ((sLen [[.sl .ro 1 a], [.sl .own 1 b]]))) then bif sLe 0 (iT (tAt ds 1)) && sLt (iT (tAt ds 1)) (Int.ofNat ((sLen [[.sl .ro 1 a], [.sl .own 1 b]]))) && true && true then bif sOkC [.sl 1] [[.sl .ro 1 a], [.sl .own 1 b]] (iT (tAt ds 1)).toNat 0 then bif sLt (sAdd .i64 (iT (tAt ds 0)) (Int.ofNat ((sLen (rT (sCell [[.sl .ro 1 a], [.sl .own 1 b]] (iT (tAt ds 1)).toNat 0)))))) 0 then none else some (.next [tI (sAdd .i64 (iT (tAt ds 0)) (Int.ofNat ((sLen (rT (sCell [[.sl .ro 1 a], [.sl .own 1 b]] (iT (tAt ds 1)).toNat 0)))))), tI (sAdd .i64 (iT (tAt ds 1)) 1)]) else none else none else some (.brk [tI (iT (tAt ds 0)), tI (iT (tAt ds 1))]) else none) [tI 0, tI 0]) none fun val => val.elim' (fun ds => none) (fun ds => bif okT .own (.int .i64) (tAt ds 0) && (okT .own (.int .i64) (tAt ds 1) && true) then bif sLe 0 (iT (tAt ds 0)) && sLt (iT (tAt ds 0)) 4294967296 then bif sNoRo (.sl .own 1 []) && true then Option.elim (lp (fun ds => bif okT .own (.sl 1) (tAt ds 0) && (okT .own (.int .i64) (tAt ds 1) && (okT .own (.int .i64) (tAt ds 2) && true)) then bif sLt (iT (tAt ds 2)) (Int.ofNat ((sLen [[.sl .ro 1 a], [.sl .own 1 b]]))) then bif sLe 0 (iT (tAt ds 2)) && sLt (iT (tAt ds 2)) (Int.ofNat ((sLen [[.sl .ro 1 a], [.sl .own 1 b]]))) && true && true then bif sOkC [.sl 1] [[.sl .ro 1 a], [.sl .own 1 b]] (iT (tAt ds 2)).toNat 0 then bif slT 1 (sCell [[.sl .ro 1 a], [.sl .own 1 b]] (iT (tAt ds 2)).toNat 0) then bif sFlat (rT (sCell [[.sl .ro 1 a], [.sl .own 1 b]] (iT (tAt ds 2)).toNat 0)) then bif sFit (sLen (rT (tAt ds 0)) + sLen (rT (sCell [[.sl .ro 1 a], [.sl .own 1 b]] (iT (tAt ds 2)).toNat 0))) then some (.next [.sl .own 1 (sApp (rT (tAt ds 0)) (rT (sCell [[.sl .ro 1 a], [.sl .own 1 b]] (iT (tAt ds 2)).toNat 0))), tI (Int.ofNat ((sLen (sApp (rT (tAt ds 0)) (rT (sCell [[.sl .ro 1 a], [.sl .own 1 b]] (iT (tAt ds 2)).toNat 0)))))), tI (sAdd .i64 (iT (tAt ds 2)) 1)]) else none else none else none else none else none else some (.brk [.sl .own 1 (rT (tAt ds 0)), tI (Int.ofNat ((iT (tAt ds 1)).toNat)), tI (iT (tAt ds 2))]) else none) [.sl .own 1 [], tI (Int.ofNat ((sLen []))), tI 0]) none fun val => val.elim' (fun ds => none) (fun ds => bif okT .own (.sl 1) (tAt ds 0) && (okT .own (.int .i64) (tAt ds 1) && (okT .own (.int .i64) (tAt ds 2) && true)) then some (.ret { rets := [.c (.sl .own 1 (rT (tAt ds 0)))], outs := [], pos := [] }) else none) fun o => some (.ret o) else none else none else none) fun o => some (.ret o)) := by kernel_rfl

end Go.Vm
