/- normal forms -/
import Derived.Test.YtiljaikpocgleaaOkT
import Derived.KernelRfl
namespace Go.Vm
open Go
set_option linter.unusedVariables false

set_option maxRecDepth 100000 in
theorem nf_67 (lp : (List T → Option LRes) → List T → Option LRes) (a b c : Int) : body lp ET19 67 [aI a, aI b, aI c] [] =
 (Option.elim (bif sLe b a then some [.bool (sLe a c)] else some [.bool false]) none fun val => bif okVl .bool (vAt val 0) && true then some (.ret { rets := [aB (bV (vAt val 0))], outs := [], pos := [] }) else none) := by kernel_rfl

set_option maxRecDepth 100000 in
theorem nf_53 (lp : (List T → Option LRes) → List T → Option LRes) (a b c : Int) : body lp ET20 53 [aI a, aI b, aI c] [] =
 (Option.elim (bif sLe b a then some [.bool (sLe a c)] else some [.bool false]) none fun val => bif okVl .bool (vAt val 0) && true then some (.ret { rets := [aB (bV (vAt val 0))], outs := [], pos := [] }) else none) := by kernel_rfl

set_option maxRecDepth 100000 in
theorem nf_91 (lp : (List T → Option LRes) → List T → Option LRes) (a : Int) : body lp ET21 91 [aI a] [] =
 (some (.ret { rets := [aB (mIn a 0 1000000)], outs := [], pos := [] })) := by kernel_rfl

set_option maxRecDepth 100000 in
theorem nf_110 (lp : (List T → Option LRes) → List T → Option LRes) (a : Int) : body lp ET22 110 [aI a] [] =
 (some (.ret { rets := [aB (mIn a 0 65535)], outs := [], pos := [] })) := by kernel_rfl

set_option maxRecDepth 100000 in
theorem nf_111 (lp : (List T → Option LRes) → List T → Option LRes) (a : Int) : body lp ET23 111 [aI a] [] =
 (some (.ret { rets := [aB (mIn a (Int.negSucc 999999999) 1000000000)], outs := [], pos := [] })) := by kernel_rfl

set_option maxRecDepth 100000 in
theorem nf_112 (lp : (List T → Option LRes) → List T → Option LRes) (a : Int) : body lp ET24 112 [aI a] [] =
 (some (.ret { rets := [aB (mIn a (Int.negSucc 999999) 1000000)], outs := [], pos := [] })) := by kernel_rfl

set_option maxRecDepth 100000 in
theorem nf_126 (lp : (List T → Option LRes) → List T → Option LRes) (a : Int) : body lp ET25 126 [aI a] [] =
 (some (.ret { rets := [aB (mIn a (Int.negSucc 999999) 1000000)], outs := [], pos := [] })) := by kernel_rfl

set_option maxRecDepth 100000 in
theorem nf_71 (lp : (List T → Option LRes) → List T → Option LRes) (a : Int) : body lp ET26 71 [aI a] [] =
 (some (.ret { rets := [aB (mIn a 1 1000000)], outs := [], pos := [] })) := by kernel_rfl

set_option maxRecDepth 100000 in
theorem nf_84 (lp : (List T → Option LRes) → List T → Option LRes) (a : Int) : body lp ET27 84 [aI a] [] =
 (some (.ret { rets := [aB (mIn a (Int.negSucc 0) 1000000)], outs := [], pos := [] })) := by kernel_rfl

set_option maxRecDepth 100000 in
theorem nf_96 (lp : (List T → Option LRes) → List T → Option LRes) (a : Int) : body lp ET28 96 [aI a] [] =
 (some (.ret { rets := [aB (mIn a (Int.negSucc 0) 1000000)], outs := [], pos := [] })) := by kernel_rfl

set_option maxRecDepth 100000 in
theorem nf_122 (lp : (List T → Option LRes) → List T → Option LRes) (a : Int) : body lp ET29 122 [aI a] [] =
 (some (.ret { rets := [aB (mIn a 0 1000000000)], outs := [], pos := [] })) := by kernel_rfl

set_option maxRecDepth 100000 in
theorem nf_99 (lp : (List T → Option LRes) → List T → Option LRes) (a : Int) : body lp ET30 99 [aI a] [] =
 (some (.ret { rets := [aB (mIn a 1 4)], outs := [], pos := [] })) := by kernel_rfl

set_option maxRecDepth 100000 in
theorem nf_97 (lp : (List T → Option LRes) → List T → Option LRes) (a0 : Int) (a1 : Int) (a2 : Int) (a3 : Int) (a4 : Int) (a5 : Int) : body lp ET31 97 [.ag [tI a0, tI a1, tI a2, tI a3, tI a4, tI a5]] [] =
 (Option.elim (bif mIn a0 0 1000000 then bif mIn a1 0 65535 then bif mIn a2 1 1000000000 then bif mIn a3 (Int.negSucc 999999999) 1000000000 then bif mIn a4 (Int.negSucc 999999) 1000000 then bif mIn a5 (Int.negSucc 999999) 1000000 then some [.bool (sLe a4 a5)] else some [.bool false] else some [.bool false] else some [.bool false] else some [.bool false] else some [.bool false] else some [.bool false]) none fun val => bif okVl .bool (vAt val 0) && true then some (.ret { rets := [aB (bV (vAt val 0))], outs := [], pos := [] }) else none) := by kernel_rfl

set_option maxRecDepth 100000 in
theorem nf_60 (lp : (List T → Option LRes) → List T → Option LRes) (a0 : Int) (a1 : Int) (a2 : Int) (a3 : Int) (a4 : Int) (a5 : Int) : body lp ET32 60 [.ag [tI a0, tI a1, tI a2, tI a3, tI a4, tI a5]] [] =
 (Option.elim (bif mIn a0 0 1000000 then bif mIn a1 0 65535 then bif mIn a2 1 1000000000 then bif mIn a3 (Int.negSucc 999999999) 1000000000 then bif mIn a4 (Int.negSucc 999999) 1000000 then bif mIn a5 (Int.negSucc 999999) 1000000 then some [.bool (sLe a4 a5)] else some [.bool false] else some [.bool false] else some [.bool false] else some [.bool false] else some [.bool false] else some [.bool false]) none fun val => bif okVl .bool (vAt val 0) && true then some (.ret { rets := [aB (bV (vAt val 0))], outs := [], pos := [] }) else none) := by kernel_rfl

set_option maxRecDepth 100000 in
theorem nf_68 (lp : (List T → Option LRes) → List T → Option LRes) (a0 : Int) (a1 : Int) (a2 : Int) (a3 : Int) : body lp ET33 68 [.ag [tI a0, tI a1, tI a2, tI a3]] [] =
 (bif sEq a0 1 then Option.elim (bif mIn a1 0 65535 then bif mIn a2 0 1000000 then some [.bool (mIn a3 (Int.negSucc 999999) 1000000)] else some [.bool false] else some [.bool false]) none fun val => bif okVl .bool (vAt val 0) && true then some (.ret { rets := [aB (bV (vAt val 0))], outs := [], pos := [] }) else none else bif sEq a0 2 then Option.elim (bif sEq a1 0 then bif mIn a2 0 1000000 then some [.bool (sEq a3 0)] else some [.bool false] else some [.bool false]) none fun val => bif okVl .bool (vAt val 0) && true then some (.ret { rets := [aB (bV (vAt val 0))], outs := [], pos := [] }) else none else bif sEq a0 3 then Option.elim (bif sEq a1 0 then bif sEq a2 0 then some [.bool (sEq a3 0)] else some [.bool false] else some [.bool false]) none fun val => bif okVl .bool (vAt val 0) && true then some (.ret { rets := [aB (bV (vAt val 0))], outs := [], pos := [] }) else none else some (.ret (oB false))) := by kernel_rfl

set_option maxRecDepth 100000 in
theorem nf_119 (lp : (List T → Option LRes) → List T → Option LRes) (a0 : Int) (a1 : Int) (a2 : Int) (a3 : Int) : body lp ET34 119 [.ag [tI a0, tI a1, tI a2, tI a3]] [] =
 (bif sEq a0 1 then Option.elim (bif mIn a1 0 65535 then bif mIn a2 0 1000000 then some [.bool (mIn a3 (Int.negSucc 999999) 1000000)] else some [.bool false] else some [.bool false]) none fun val => bif okVl .bool (vAt val 0) && true then some (.ret { rets := [aB (bV (vAt val 0))], outs := [], pos := [] }) else none else bif sEq a0 2 then Option.elim (bif sEq a1 0 then bif mIn a2 0 1000000 then some [.bool (sEq a3 0)] else some [.bool false] else some [.bool false]) none fun val => bif okVl .bool (vAt val 0) && true then some (.ret { rets := [aB (bV (vAt val 0))], outs := [], pos := [] }) else none else some (.ret { rets := [aB (sEq a0 3 && (sEq a1 0 && (sEq a2 0 && (sEq a3 0 && true))))], outs := [], pos := [] })) := by kernel_rfl

set_option maxRecDepth 100000 in
theorem nf_72 (lp : (List T → Option LRes) → List T → Option LRes) (a0 : Int) (a1 : Int) (a2 : Int) (a3 : Int) : body lp ET35 72 [.ag [tI a0, tI a1, tI a2, tI a3]] [] =
 (Option.elim (bif sEq a0 1 then bif sShR kFrame [tI a0, tI a1, tI a2, tI a3] then some [.bool (mFrameOk [tI a0, tI a1, tI a2, tI a3])] else none else some [.bool false]) none fun val => bif okVl .bool (vAt val 0) && true then some (.ret { rets := [aB (bV (vAt val 0))], outs := [], pos := [] }) else none) := by kernel_rfl

set_option maxRecDepth 100000 in
theorem nf_98 (lp : (List T → Option LRes) → List T → Option LRes) (a0 : Int) (a1 : Int) (a2 : Int) (a3 : Int) (a4 : Int) (a5 : Int) (b0 : Int) (b1 : Int) (b2 : Int) (b3 : Int) (b4 : Int) (b5 : Int) : body lp ET36 98 [.ag [tI a0, tI a1, tI a2, tI a3, tI a4, tI a5], .ag [tI b0, tI b1, tI b2, tI b3, tI b4, tI b5]] [] =
 (Option.elim (bif sLt a0 b0 then some [.bool true] else bif sEq a0 b0 then some [.bool (sLt a1 b1)] else some [.bool false]) none fun val => bif okVl .bool (vAt val 0) && true then some (.ret { rets := [aB (bV (vAt val 0))], outs := [], pos := [] }) else none) := by kernel_rfl

set_option maxRecDepth 100000 in
theorem nf_138 (lp : (List T → Option LRes) → List T → Option LRes) (a : Int) : body lp ET37 138 [aI a] [] =
 (some (.ret { rets := [aB !sEq a a], outs := [], pos := [] })) := by kernel_rfl

set_option maxRecDepth 100000 in
theorem nf_124 (lp : (List T → Option LRes) → List T → Option LRes) (a b : Int) : body lp ET38 124 [aI a, aI b] [] =
 (bif sLt a b then some (.ret { rets := [aI (Int.negSucc 0)], outs := [], pos := [] }) else bif sLt b a then some (.ret { rets := [aI 1], outs := [], pos := [] }) else some (.ret { rets := [aI 0], outs := [], pos := [] })) := by kernel_rfl

set_option maxRecDepth 100000 in
theorem nf_123 (lp : (List T → Option LRes) → List T → Option LRes) (a b : Int) : body lp ET39 123 [.c (.sl .ro 1 [[tI a], [tI b]])] [] =
 (Option.elim (lp (fun ds => bif okT .own (.int .i64) (tAt ds 0) && (okT .own (.int .i64) (tAt ds 1) && true) then bif sLt (iT (tAt ds 1)) (Int.ofNat ((sLen [[tI a], [tI b]]))) then bif sLe 0 (iT (tAt ds 1)) && sLt (iT (tAt ds 1)) (Int.ofNat ((sLen [[tI a], [tI b]]))) && true && true then bif sOkC [.int .i64] [[tI a], [tI b]] (iT (tAt ds 1)).toNat 0 then bif !sEq (iT (sCell [[tI a], [tI b]] (iT (tAt ds 1)).toNat 0)) 0 then some (.ret { rets := [aI (iT (sCell [[tI a], [tI b]] (iT (tAt ds 1)).toNat 0))], outs := [], pos := [] }) else some (.next [tI (iT (tAt ds 0)), tI (sAdd .i64 (iT (tAt ds 1)) 1)]) else none else none else some (.brk [tI (iT (tAt ds 0)), tI (iT (tAt ds 1))]) else none) [tI 0, tI 0]) none fun val => val.elim' (fun ds => none) (fun ds => bif okT .own (.int .i64) (tAt ds 0) && (okT .own (.int .i64) (tAt ds 1) && true) then some (.ret { rets := [aI 0], outs := [], pos := [] }) else none) fun o => some (.ret o)) := by kernel_rfl

set_option maxRecDepth 100000 in
theorem nf_93 (lp : (List T → Option LRes) → List T → Option LRes) (a0 : Int) (a1 : Int) (a2 : Int) (a3 : Int) (a4 : Int) (a5 : Int) (b0 : Int) (b1 : Int) (b2 : Int) (b3 : Int) (b4 : Int) (b5 : Int) : body lp ET40 93 [.ag [tI a0, tI a1, tI a2, tI a3, tI a4, tI a5], .ag [tI b0, tI b1, tI b2, tI b3, tI b4, tI b5]] [] =
 (some (.ret { rets := [aI (mOr (mCmp a0 b0) (mCmp a1 b1))], outs := [], pos := [] })) := by kernel_rfl

set_option maxRecDepth 100000 in
theorem nf_115 (lp : (List T → Option LRes) → List T → Option LRes) (a0 : Int) (a1 : Int) (a2 : Int) (a3 : Int) (a4 : Int) (a5 : Int) : body lp ET41 115 [.ag [tI a0, tI a1, tI a2, tI a3, tI a4, tI a5]] [] =
 (bif sShR kAggT [tI a0, tI a1, tI a2, tI a3, tI a4, tI a5] then some (.ret { rets := [aB !mAggOk [tI a0, tI a1, tI a2, tI a3, tI a4, tI a5]], outs := [], pos := [] }) else none) := by kernel_rfl

set_option maxRecDepth 100000 in
theorem nf_85 (lp : (List T → Option LRes) → List T → Option LRes) (rs : List (List T)) : body lp ET42 85 [.c (.sl .ro 6 rs), .fn 115 []] [] =
 (Option.elim (lp (fun ds => bif okT .own (.int .i64) (tAt ds 0) && (okT .own (.int .i64) (tAt ds 1) && true) then bif sLt (iT (tAt ds 1)) (Int.ofNat ((sLen rs))) then bif sLe 0 (iT (tAt ds 1)) && sLt (iT (tAt ds 1)) (Int.ofNat ((sLen rs))) && true && true then bif sOkC [.int .i64, .int .i64, .int .i64, .int .i64, .int .i64, .int .i64] rs (iT (tAt ds 1)).toNat 0 then bif sShR kAggT [tI (iT (sCell rs (iT (tAt ds 1)).toNat 0)), tI (iT (sCell rs (iT (tAt ds 1)).toNat 1)), tI (iT (sCell rs (iT (tAt ds 1)).toNat 2)), tI (iT (sCell rs (iT (tAt ds 1)).toNat 3)), tI (iT (sCell rs (iT (tAt ds 1)).toNat 4)), tI (iT (sCell rs (iT (tAt ds 1)).toNat 5))] then bif mNotAggOk [tI (iT (sCell rs (iT (tAt ds 1)).toNat 0)), tI (iT (sCell rs (iT (tAt ds 1)).toNat 1)), tI (iT (sCell rs (iT (tAt ds 1)).toNat 2)), tI (iT (sCell rs (iT (tAt ds 1)).toNat 3)), tI (iT (sCell rs (iT (tAt ds 1)).toNat 4)), tI (iT (sCell rs (iT (tAt ds 1)).toNat 5))] then some (.ret { rets := [aI (iT (tAt ds 1))], outs := [], pos := [] }) else some (.next [tI (iT (tAt ds 0)), tI (sAdd .i64 (iT (tAt ds 1)) 1)]) else none else none else none else some (.brk [tI (iT (tAt ds 0)), tI (iT (tAt ds 1))]) else none) [tI 0, tI 0]) none fun val => val.elim' (fun ds => none) (fun ds => bif okT .own (.int .i64) (tAt ds 0) && (okT .own (.int .i64) (tAt ds 1) && true) then some (.ret { rets := [aI (Int.negSucc 0)], outs := [], pos := [] }) else none) fun o => some (.ret o)) := by kernel_rfl

set_option maxRecDepth 100000 in
theorem nf_114 (lp : (List T → Option LRes) → List T → Option LRes) (rs : List (List T)) : body lp ET43 114 [.c (.sl .ro 6 rs), .fn 115 []] [] =
 (bif pEq kAggT rs then some (.ret { rets := [aB (sLe 0 (sIdx mNotAggOk rs))], outs := [], pos := [] }) else none) := by kernel_rfl

set_option maxRecDepth 100000 in
theorem nf_63 (lp : (List T → Option LRes) → List T → Option LRes) (rs : List (List T)) : body lp ET44 63 [.c (.sl .ro 6 rs)] [] =
 (bif pEq kAggT rs then some (.ret { rets := [aB !sAny mNotAggOk rs], outs := [], pos := [] }) else none) := by kernel_rfl

set_option maxRecDepth 100000 in
theorem nf_103 (lp : (List T → Option LRes) → List T → Option LRes) (rs : List (List T)) : body lp ET45 103 [.c (.sl .ro 6 rs)] [] =
 (Option.elim (lp (fun ds => bif okT .own .bool (tAt ds 0) && (okT .own (.int .i64) (tAt ds 1) && true) then bif sLt (iT (tAt ds 1)) (Int.ofNat ((sLen rs))) then bif sLe 0 (sSub .i64 (iT (tAt ds 1)) 1) && sLt (sSub .i64 (iT (tAt ds 1)) 1) (Int.ofNat ((sLen rs))) && true && true then bif sOkC [.int .i64, .int .i64, .int .i64, .int .i64, .int .i64, .int .i64] rs (sSub .i64 (iT (tAt ds 1)) 1).toNat 0 then bif sLe 0 (iT (tAt ds 1)) && sLt (iT (tAt ds 1)) (Int.ofNat ((sLen rs))) && true && true then bif sOkC [.int .i64, .int .i64, .int .i64, .int .i64, .int .i64, .int .i64] rs (iT (tAt ds 1)).toNat 0 then bif sShR kAggT [tI (iT (sCell rs (sSub .i64 (iT (tAt ds 1)) 1).toNat 0)), tI (iT (sCell rs (sSub .i64 (iT (tAt ds 1)) 1).toNat 1)), tI (iT (sCell rs (sSub .i64 (iT (tAt ds 1)) 1).toNat 2)), tI (iT (sCell rs (sSub .i64 (iT (tAt ds 1)) 1).toNat 3)), tI (iT (sCell rs (sSub .i64 (iT (tAt ds 1)) 1).toNat 4)), tI (iT (sCell rs (sSub .i64 (iT (tAt ds 1)) 1).toNat 5))] && sShR kAggT [tI (iT (sCell rs (iT (tAt ds 1)).toNat 0)), tI (iT (sCell rs (iT (tAt ds 1)).toNat 1)), tI (iT (sCell rs (iT (tAt ds 1)).toNat 2)), tI (iT (sCell rs (iT (tAt ds 1)).toNat 3)), tI (iT (sCell rs (iT (tAt ds 1)).toNat 4)), tI (iT (sCell rs (iT (tAt ds 1)).toNat 5))] then bif sLe 0 (mOrder [tI (iT (sCell rs (sSub .i64 (iT (tAt ds 1)) 1).toNat 0)), tI (iT (sCell rs (sSub .i64 (iT (tAt ds 1)) 1).toNat 1)), tI (iT (sCell rs (sSub .i64 (iT (tAt ds 1)) 1).toNat 2)), tI (iT (sCell rs (sSub .i64 (iT (tAt ds 1)) 1).toNat 3)), tI (iT (sCell rs (sSub .i64 (iT (tAt ds 1)) 1).toNat 4)), tI (iT (sCell rs (sSub .i64 (iT (tAt ds 1)) 1).toNat 5))] [tI (iT (sCell rs (iT (tAt ds 1)).toNat 0)), tI (iT (sCell rs (iT (tAt ds 1)).toNat 1)), tI (iT (sCell rs (iT (tAt ds 1)).toNat 2)), tI (iT (sCell rs (iT (tAt ds 1)).toNat 3)), tI (iT (sCell rs (iT (tAt ds 1)).toNat 4)), tI (iT (sCell rs (iT (tAt ds 1)).toNat 5))]) then some (.ret (oB false)) else some (.next [tB (bT (tAt ds 0)), tI (sAdd .i64 (iT (tAt ds 1)) 1)]) else none else none else none else none else none else some (.brk [tB (bT (tAt ds 0)), tI (iT (tAt ds 1))]) else none) [tB false, tI 1]) none fun val => val.elim' (fun ds => none) (fun ds => bif okT .own .bool (tAt ds 0) && (okT .own (.int .i64) (tAt ds 1) && true) then some (.ret (oB true)) else none) fun o => some (.ret o)) := by kernel_rfl

set_option maxRecDepth 100000 in
theorem nf_47 (lp : (List T → Option LRes) → List T → Option LRes) (a0 : List (List T)) (a1 a2 a3 : Int) : body lp ET46 47 [.ag [.sl .ro 6 a0, tI a1, tI a2, tI a3]] [] =
 (Option.elim (bif sLt 40 (Int.ofNat ((sLen a0))) then some [.bool true] else bif !mIn a1 (Int.negSucc 0) 1000000 then some [.bool true] else bif !mIn a2 0 1000000000 then some [.bool true] else some [.bool !mIn a3 0 1000000000]) none fun val => bif okVl .bool (vAt val 0) && true then bif bV (vAt val 0) then some (.ret (oB false)) else Option.elim (lp (fun ds => bif okT .own .bool (tAt ds 0) && (okT .own (.int .i64) (tAt ds 1) && true) then bif sLt (iT (tAt ds 1)) (Int.ofNat ((sLen a0))) then Option.elim (bif sLe 0 (iT (tAt ds 1)) && sLt (iT (tAt ds 1)) (Int.ofNat ((sLen a0))) && true && true then bif sOkC [.int .i64, .int .i64, .int .i64, .int .i64, .int .i64, .int .i64] a0 (iT (tAt ds 1)).toNat 0 then bif sShR kAggT [tI (iT (sCell a0 (iT (tAt ds 1)).toNat 0)), tI (iT (sCell a0 (iT (tAt ds 1)).toNat 1)), tI (iT (sCell a0 (iT (tAt ds 1)).toNat 2)), tI (iT (sCell a0 (iT (tAt ds 1)).toNat 3)), tI (iT (sCell a0 (iT (tAt ds 1)).toNat 4)), tI (iT (sCell a0 (iT (tAt ds 1)).toNat 5))] then bif !mAggOk [tI (iT (sCell a0 (iT (tAt ds 1)).toNat 0)), tI (iT (sCell a0 (iT (tAt ds 1)).toNat 1)), tI (iT (sCell a0 (iT (tAt ds 1)).toNat 2)), tI (iT (sCell a0 (iT (tAt ds 1)).toNat 3)), tI (iT (sCell a0 (iT (tAt ds 1)).toNat 4)), tI (iT (sCell a0 (iT (tAt ds 1)).toNat 5))] then some [.bool true] else bif sLt 0 (iT (tAt ds 1)) then bif sLe 0 (sSub .i64 (iT (tAt ds 1)) 1) && sLt (sSub .i64 (iT (tAt ds 1)) 1) (Int.ofNat ((sLen a0))) && true && true then bif sOkC [.int .i64, .int .i64, .int .i64, .int .i64, .int .i64, .int .i64] a0 (sSub .i64 (iT (tAt ds 1)) 1).toNat 0 then bif sLe 0 (iT (tAt ds 1)) && sLt (iT (tAt ds 1)) (Int.ofNat ((sLen a0))) && true && true then bif sOkC [.int .i64, .int .i64, .int .i64, .int .i64, .int .i64, .int .i64] a0 (iT (tAt ds 1)).toNat 0 then bif sShR kAggT [tI (iT (sCell a0 (sSub .i64 (iT (tAt ds 1)) 1).toNat 0)), tI (iT (sCell a0 (sSub .i64 (iT (tAt ds 1)) 1).toNat 1)), tI (iT (sCell a0 (sSub .i64 (iT (tAt ds 1)) 1).toNat 2)), tI (iT (sCell a0 (sSub .i64 (iT (tAt ds 1)) 1).toNat 3)), tI (iT (sCell a0 (sSub .i64 (iT (tAt ds 1)) 1).toNat 4)), tI (iT (sCell a0 (sSub .i64 (iT (tAt ds 1)) 1).toNat 5))] && sShR kAggT [tI (iT (sCell a0 (iT (tAt ds 1)).toNat 0)), tI (iT (sCell a0 (iT (tAt ds 1)).toNat 1)), tI (iT (sCell a0 (iT (tAt ds 1)).toNat 2)), tI (iT (sCell a0 (iT (tAt ds 1)).toNat 3)), tI (iT (sCell a0 (iT (tAt ds 1)).toNat 4)), tI (iT (sCell a0 (iT (tAt ds 1)).toNat 5))] then some [.bool !mAhead [tI (iT (sCell a0 (sSub .i64 (iT (tAt ds 1)) 1).toNat 0)), tI (iT (sCell a0 (sSub .i64 (iT (tAt ds 1)) 1).toNat 1)), tI (iT (sCell a0 (sSub .i64 (iT (tAt ds 1)) 1).toNat 2)), tI (iT (sCell a0 (sSub .i64 (iT (tAt ds 1)) 1).toNat 3)), tI (iT (sCell a0 (sSub .i64 (iT (tAt ds 1)) 1).toNat 4)), tI (iT (sCell a0 (sSub .i64 (iT (tAt ds 1)) 1).toNat 5))] [tI (iT (sCell a0 (iT (tAt ds 1)).toNat 0)), tI (iT (sCell a0 (iT (tAt ds 1)).toNat 1)), tI (iT (sCell a0 (iT (tAt ds 1)).toNat 2)), tI (iT (sCell a0 (iT (tAt ds 1)).toNat 3)), tI (iT (sCell a0 (iT (tAt ds 1)).toNat 4)), tI (iT (sCell a0 (iT (tAt ds 1)).toNat 5))]] else none else none else none else none else none else some [.bool false] else none else none else none) none fun val => bif okVl .bool (vAt val 0) && true then bif bV (vAt val 0) then some (.ret (oB false)) else some (.next [tB (bT (tAt ds 0)), tI (sAdd .i64 (iT (tAt ds 1)) 1)]) else none else some (.brk [tB (bT (tAt ds 0)), tI (iT (tAt ds 1))]) else none) [tB false, tI 0]) none fun val => val.elim' (fun ds => none) (fun ds => bif okT .own .bool (tAt ds 0) && (okT .own (.int .i64) (tAt ds 1) && true) then some (.ret (oB true)) else none) fun o => some (.ret o) else none) := by kernel_rfl

set_option maxRecDepth 100000 in
theorem nf_83 (lp : (List T → Option LRes) → List T → Option LRes) (a0 : List (List T)) (a1 a2 a3 : Int) : body lp ET47 83 [.ag [.sl .ro 6 a0, tI a1, tI a2, tI a3]] [] =
 (Option.elim (bif sLe ((Int.ofNat ((sLen a0)))) 40 then bif pEq kAggT a0 then bif mAreAggs a0 then bif pEq kAggT a0 then bif mSorted a0 then bif mIn a1 (Int.negSucc 0) 1000000 then bif mIn a2 0 1000000000 then some [.bool (mIn a3 0 1000000000)] else some [.bool false] else some [.bool false] else some [.bool false] else none else some [.bool false] else none else some [.bool false]) none fun val => bif okVl .bool (vAt val 0) && true then some (.ret { rets := [aB (bV (vAt val 0))], outs := [], pos := [] }) else none) := by kernel_rfl

end Go.Vm
