/- normal forms -/
import Derived.Test.YtmfbonhdjpmbkaaOkT
import Derived.KernelRfl
namespace Go.Vm
open Go
set_option linter.unusedVariables false

set_option maxRecDepth 100000 in
theorem nf_51 (lp : (List T → Option LRes) → List T → Option LRes) (a b c : Int) : body lp ET45 51 [aI a, aI b, aI c] [] =
  (Option.elim (bif sLe b a then some [.bool (sLe a c)] else some [.bool false]) none fun val => bif okVl .bool (vAt val 0) && true then some (.ret { rets := [aB (bV (vAt val 0))], outs := [], pos := [] }) else none) := by kernel_rfl

set_option maxRecDepth 100000 in
theorem nf_54 (lp : (List T → Option LRes) → List T → Option LRes) (a b c : Int) : body lp ET46 54 [aI a, aI b, aI c] [] =
  (Option.elim (bif sLe b a then some [.bool (sLe a c)] else some [.bool false]) none fun val => bif okVl .bool (vAt val 0) && true then some (.ret { rets := [aB (bV (vAt val 0))], outs := [], pos := [] }) else none) := by kernel_rfl

set_option maxRecDepth 100000 in
theorem nf_107 (lp : (List T → Option LRes) → List T → Option LRes) (a : Int) : body lp ET47 107 [aI a] [] =
  (some (.ret { rets := [aB (mIn a 0 1000000)], outs := [], pos := [] })) := by kernel_rfl

set_option maxRecDepth 100000 in
theorem nf_105 (lp : (List T → Option LRes) → List T → Option LRes) (a : Int) : body lp ET48 105 [aI a] [] =
  (some (.ret { rets := [aB (mIn a 0 65535)], outs := [], pos := [] })) := by kernel_rfl

set_option maxRecDepth 100000 in
theorem nf_108 (lp : (List T → Option LRes) → List T → Option LRes) (a : Int) : body lp ET49 108 [aI a] [] =
  (some (.ret { rets := [aB (mIn a (Int.negSucc 999999999) 1000000000)], outs := [], pos := [] })) := by kernel_rfl

set_option maxRecDepth 100000 in
theorem nf_109 (lp : (List T → Option LRes) → List T → Option LRes) (a : Int) : body lp ET50 109 [aI a] [] =
  (some (.ret { rets := [aB (mIn a (Int.negSucc 999999) 1000000)], outs := [], pos := [] })) := by kernel_rfl

set_option maxRecDepth 100000 in
theorem nf_106 (lp : (List T → Option LRes) → List T → Option LRes) (a : Int) : body lp ET51 106 [aI a] [] =
  (some (.ret { rets := [aB (mIn a (Int.negSucc 999999) 1000000)], outs := [], pos := [] })) := by kernel_rfl

set_option maxRecDepth 100000 in
theorem nf_66 (lp : (List T → Option LRes) → List T → Option LRes) (a : Int) : body lp ET52 66 [aI a] [] =
  (some (.ret { rets := [aB (mIn a 1 1000000)], outs := [], pos := [] })) := by kernel_rfl

set_option maxRecDepth 100000 in
theorem nf_53 (lp : (List T → Option LRes) → List T → Option LRes) (a : Int) : body lp ET53 53 [aI a] [] =
  (some (.ret { rets := [aB (mIn a 1 4)], outs := [], pos := [] })) := by kernel_rfl

set_option maxRecDepth 100000 in
theorem nf_59 (lp : (List T → Option LRes) → List T → Option LRes) (a0 : Int) (a1 : Int) (a2 : Int) (a3 : Int) (a4 : Int) (a5 : Int) : body lp ET54 59 [.ag [tI a0, tI a1, tI a2, tI a3, tI a4, tI a5]] [] =
  (Option.elim (bif mIn a0 0 1000000 then bif mIn a1 0 65535 then bif mIn a2 1 1000000000 then bif mIn a3 (Int.negSucc 999999999) 1000000000 then bif mIn a4 (Int.negSucc 999999) 1000000 then bif mIn a5 (Int.negSucc 999999) 1000000 then some [.bool (sLe a4 a5)] else some [.bool false] else some [.bool false] else some [.bool false] else some [.bool false] else some [.bool false] else some [.bool false]) none fun val => bif okVl .bool (vAt val 0) && true then some (.ret { rets := [aB (bV (vAt val 0))], outs := [], pos := [] }) else none) := by kernel_rfl

set_option maxRecDepth 100000 in
theorem nf_61 (lp : (List T → Option LRes) → List T → Option LRes) (a0 : Int) (a1 : Int) (a2 : Int) (a3 : Int) (a4 : Int) (a5 : Int) : body lp ET55 61 [.ag [tI a0, tI a1, tI a2, tI a3, tI a4, tI a5]] [] =
  (Option.elim (bif mIn a0 0 1000000 then bif mIn a1 0 65535 then bif mIn a2 1 1000000000 then bif mIn a3 (Int.negSucc 999999999) 1000000000 then bif mIn a4 (Int.negSucc 999999) 1000000 then bif mIn a5 (Int.negSucc 999999) 1000000 then some [.bool (sLe a4 a5)] else some [.bool false] else some [.bool false] else some [.bool false] else some [.bool false] else some [.bool false] else some [.bool false]) none fun val => bif okVl .bool (vAt val 0) && true then some (.ret { rets := [aB (bV (vAt val 0))], outs := [], pos := [] }) else none) := by kernel_rfl

set_option maxRecDepth 100000 in
theorem nf_89 (lp : (List T → Option LRes) → List T → Option LRes) (a0 : Int) (a1 : Int) (a2 : Int) (a3 : Int) (a4 : Int) (a5 : Int) (a6 : Int) (a7 : Int) (a8 : Int) : body lp ET56 89 [.ag [tI a0, tI a1, tI a2, tI a3, tI a4, tI a5, tI a6, tI a7, tI a8]] [] =
  (Option.elim (bif mIn a0 1 6 then bif mIn a1 1 4 then bif mIn a2 1 1000 then bif mIn a3 0 1000 then bif mIn a4 0 1000 then bif mIn a5 1 20 then bif mIn a6 1 20 then bif mIn a7 1 20 then some [.bool (mIn a8 1 40)] else some [.bool false] else some [.bool false] else some [.bool false] else some [.bool false] else some [.bool false] else some [.bool false] else some [.bool false] else some [.bool false]) none fun val => bif okVl .bool (vAt val 0) && true then some (.ret { rets := [aB (bV (vAt val 0))], outs := [], pos := [] }) else none) := by kernel_rfl

set_option maxRecDepth 100000 in
theorem nf_91 (lp : (List T → Option LRes) → List T → Option LRes) (a0 : Int) (a1 : Int) (a2 : Int) (a3 : Int) (a4 : Int) (a5 : Int) (a6 : Int) (a7 : Int) (a8 : Int) : body lp ET57 91 [.ag [tI a0, tI a1, tI a2, tI a3, tI a4, tI a5, tI a6, tI a7, tI a8]] [] =
  (Option.elim (bif mIn a0 1 6 then bif mIn a1 1 4 then bif mIn a2 1 1000 then bif mIn a3 0 1000 then bif mIn a4 0 1000 then bif mIn a5 1 20 then bif mIn a6 1 20 then bif mIn a7 1 20 then some [.bool (mIn a8 1 40)] else some [.bool false] else some [.bool false] else some [.bool false] else some [.bool false] else some [.bool false] else some [.bool false] else some [.bool false] else some [.bool false]) none fun val => bif okVl .bool (vAt val 0) && true then some (.ret { rets := [aB (bV (vAt val 0))], outs := [], pos := [] }) else none) := by kernel_rfl

set_option maxRecDepth 100000 in
theorem nf_68 (lp : (List T → Option LRes) → List T → Option LRes) (a0 : Int) (a1 : Int) (a2 : Int) (a3 : Int) (a4 : Int) (a5 : Int) (b0 : Int) (b1 : Int) (b2 : Int) (b3 : Int) (b4 : Int) (b5 : Int) : body lp ET58 68 [.ag [tI a0, tI a1, tI a2, tI a3, tI a4, tI a5], .ag [tI b0, tI b1, tI b2, tI b3, tI b4, tI b5]] [] =
  (Option.elim (bif sLt a0 b0 then some [.bool true] else bif sEq a0 b0 then some [.bool (sLt a1 b1)] else some [.bool false]) none fun val => bif okVl .bool (vAt val 0) && true then some (.ret { rets := [aB (bV (vAt val 0))], outs := [], pos := [] }) else none) := by kernel_rfl

set_option maxRecDepth 100000 in
theorem nf_140 (lp : (List T → Option LRes) → List T → Option LRes) (a : Int) : body lp ET59 140 [aI a] [] =
  (some (.ret { rets := [aB !sEq a a], outs := [], pos := [] })) := by kernel_rfl

set_option maxRecDepth 100000 in
theorem nf_129 (lp : (List T → Option LRes) → List T → Option LRes) (a b : Int) : body lp ET60 129 [aI a, aI b] [] =
  (bif sLt a b then some (.ret { rets := [aI (Int.negSucc 0)], outs := [], pos := [] }) else bif sLt b a then some (.ret { rets := [aI 1], outs := [], pos := [] }) else some (.ret { rets := [aI 0], outs := [], pos := [] })) := by kernel_rfl

set_option maxRecDepth 100000 in
theorem nf_128 (lp : (List T → Option LRes) → List T → Option LRes) (a b : Int) : body lp ET61 128 [.c (.sl .ro 1 [[tI a], [tI b]])] [] =
  (Option.elim (lp (fun ds => bif okT .own (.int .i64) (tAt ds 0) && (okT .own (.int .i64) (tAt ds 1) && true) then bif sLt (iT (tAt ds 1)) (Int.ofNat ((sLen [[tI a], [tI b]]))) then bif sLe 0 (iT (tAt ds 1)) && sLt (iT (tAt ds 1)) (Int.ofNat ((sLen [[tI a], [tI b]]))) && true && true then bif sOkC [.int .i64] [[tI a], [tI b]] (iT (tAt ds 1)).toNat 0 then bif !sEq (iT (sCell [[tI a], [tI b]] (iT (tAt ds 1)).toNat 0)) 0 then some (.ret { rets := [aI (iT (sCell [[tI a], [tI b]] (iT (tAt ds 1)).toNat 0))], outs := [], pos := [] }) else some (.next [tI (iT (tAt ds 0)), tI (sAdd .i64 (iT (tAt ds 1)) 1)]) else none else none else some (.brk [tI (iT (tAt ds 0)), tI (iT (tAt ds 1))]) else none) [tI 0, tI 0]) none fun val => val.elim' (fun ds => none) (fun ds => bif okT .own (.int .i64) (tAt ds 0) && (okT .own (.int .i64) (tAt ds 1) && true) then some (.ret { rets := [aI 0], outs := [], pos := [] }) else none) fun o => some (.ret o)) := by kernel_rfl

set_option maxRecDepth 100000 in
theorem nf_113 (lp : (List T → Option LRes) → List T → Option LRes) (a0 : Int) (a1 : Int) (a2 : Int) (a3 : Int) (a4 : Int) (a5 : Int) (b0 : Int) (b1 : Int) (b2 : Int) (b3 : Int) (b4 : Int) (b5 : Int) : body lp ET62 113 [.ag [tI a0, tI a1, tI a2, tI a3, tI a4, tI a5], .ag [tI b0, tI b1, tI b2, tI b3, tI b4, tI b5]] [] =
  (some (.ret { rets := [aI (mOr (mCmp a0 b0) (mCmp a1 b1))], outs := [], pos := [] })) := by kernel_rfl

set_option maxRecDepth 100000 in
theorem nf_111 (lp : (List T → Option LRes) → List T → Option LRes) (a0 : Int) (a1 : Int) (a2 : Int) (a3 : Int) (a4 : Int) (a5 : Int) : body lp ET63 111 [.ag [tI a0, tI a1, tI a2, tI a3, tI a4, tI a5]] [] =
  (bif sShR kAggT [tI a0, tI a1, tI a2, tI a3, tI a4, tI a5] then some (.ret { rets := [aB !mAggOk [tI a0, tI a1, tI a2, tI a3, tI a4, tI a5]], outs := [], pos := [] }) else none) := by kernel_rfl

set_option maxRecDepth 100000 in
theorem nf_110 (lp : (List T → Option LRes) → List T → Option LRes) (rs : List (List T)) : body lp ET64 110 [.c (.sl .ro 6 rs), .fn 111 []] [] =
  (Option.elim (lp (fun ds => bif okT .own (.int .i64) (tAt ds 0) && (okT .own (.int .i64) (tAt ds 1) && true) then bif sLt (iT (tAt ds 1)) (Int.ofNat ((sLen rs))) then bif sLe 0 (iT (tAt ds 1)) && sLt (iT (tAt ds 1)) (Int.ofNat ((sLen rs))) && true && true then bif sOkC [.int .i64, .int .i64, .int .i64, .int .i64, .int .i64, .int .i64] rs (iT (tAt ds 1)).toNat 0 then bif sShR kAggT [tI (iT (sCell rs (iT (tAt ds 1)).toNat 0)), tI (iT (sCell rs (iT (tAt ds 1)).toNat 1)), tI (iT (sCell rs (iT (tAt ds 1)).toNat 2)), tI (iT (sCell rs (iT (tAt ds 1)).toNat 3)), tI (iT (sCell rs (iT (tAt ds 1)).toNat 4)), tI (iT (sCell rs (iT (tAt ds 1)).toNat 5))] then bif mNotAggOk [tI (iT (sCell rs (iT (tAt ds 1)).toNat 0)), tI (iT (sCell rs (iT (tAt ds 1)).toNat 1)), tI (iT (sCell rs (iT (tAt ds 1)).toNat 2)), tI (iT (sCell rs (iT (tAt ds 1)).toNat 3)), tI (iT (sCell rs (iT (tAt ds 1)).toNat 4)), tI (iT (sCell rs (iT (tAt ds 1)).toNat 5))] then some (.ret { rets := [aI (iT (tAt ds 1))], outs := [], pos := [] }) else some (.next [tI (iT (tAt ds 0)), tI (sAdd .i64 (iT (tAt ds 1)) 1)]) else none else none else none else some (.brk [tI (iT (tAt ds 0)), tI (iT (tAt ds 1))]) else none) [tI 0, tI 0]) none fun val => val.elim' (fun ds => none) (fun ds => bif okT .own (.int .i64) (tAt ds 0) && (okT .own (.int .i64) (tAt ds 1) && true) then some (.ret { rets := [aI (Int.negSucc 0)], outs := [], pos := [] }) else none) fun o => some (.ret o)) := by kernel_rfl

set_option maxRecDepth 100000 in
theorem nf_64 (lp : (List T → Option LRes) → List T → Option LRes) (rs : List (List T)) : body lp ET65 64 [.c (.sl .ro 6 rs), .fn 111 []] [] =
  (bif pEq kAggT rs then some (.ret { rets := [aB (sLe 0 (sIdx mNotAggOk rs))], outs := [], pos := [] }) else none) := by kernel_rfl

set_option maxRecDepth 100000 in
theorem nf_69 (lp : (List T → Option LRes) → List T → Option LRes) (rs : List (List T)) : body lp ET66 69 [.c (.sl .ro 6 rs)] [] =
  (bif pEq kAggT rs then some (.ret { rets := [aB !sAny mNotAggOk rs], outs := [], pos := [] }) else none) := by kernel_rfl

set_option maxRecDepth 100000 in
theorem nf_72 (lp : (List T → Option LRes) → List T → Option LRes) (rs : List (List T)) : body lp ET67 72 [.c (.sl .ro 6 rs)] [] =
  (Option.elim (lp (fun ds => bif okT .own .bool (tAt ds 0) && (okT .own (.int .i64) (tAt ds 1) && true) then bif sLt (iT (tAt ds 1)) (Int.ofNat ((sLen rs))) then bif sLe 0 (sSub .i64 (iT (tAt ds 1)) 1) && sLt (sSub .i64 (iT (tAt ds 1)) 1) (Int.ofNat ((sLen rs))) && true && true then bif sOkC [.int .i64, .int .i64, .int .i64, .int .i64, .int .i64, .int .i64] rs (sSub .i64 (iT (tAt ds 1)) 1).toNat 0 then bif sLe 0 (iT (tAt ds 1)) && sLt (iT (tAt ds 1)) (Int.ofNat ((sLen rs))) && true && true then bif sOkC [.int .i64, .int .i64, .int .i64, .int .i64, .int .i64, .int .i64] rs (iT (tAt ds 1)).toNat 0 then bif sShR kAggT [tI (iT (sCell rs (sSub .i64 (iT (tAt ds 1)) 1).toNat 0)), tI (iT (sCell rs (sSub .i64 (iT (tAt ds 1)) 1).toNat 1)), tI (iT (sCell rs (sSub .i64 (iT (tAt ds 1)) 1).toNat 2)), tI (iT (sCell rs (sSub .i64 (iT (tAt ds 1)) 1).toNat 3)), tI (iT (sCell rs (sSub .i64 (iT (tAt ds 1)) 1).toNat 4)), tI (iT (sCell rs (sSub .i64 (iT (tAt ds 1)) 1).toNat 5))] && sShR kAggT [tI (iT (sCell rs (iT (tAt ds 1)).toNat 0)), tI (iT (sCell rs (iT (tAt ds 1)).toNat 1)), tI (iT (sCell rs (iT (tAt ds 1)).toNat 2)), tI (iT (sCell rs (iT (tAt ds 1)).toNat 3)), tI (iT (sCell rs (iT (tAt ds 1)).toNat 4)), tI (iT (sCell rs (iT (tAt ds 1)).toNat 5))] then bif sLe 0 (mOrder [tI (iT (sCell rs (sSub .i64 (iT (tAt ds 1)) 1).toNat 0)), tI (iT (sCell rs (sSub .i64 (iT (tAt ds 1)) 1).toNat 1)), tI (iT (sCell rs (sSub .i64 (iT (tAt ds 1)) 1).toNat 2)), tI (iT (sCell rs (sSub .i64 (iT (tAt ds 1)) 1).toNat 3)), tI (iT (sCell rs (sSub .i64 (iT (tAt ds 1)) 1).toNat 4)), tI (iT (sCell rs (sSub .i64 (iT (tAt ds 1)) 1).toNat 5))] [tI (iT (sCell rs (iT (tAt ds 1)).toNat 0)), tI (iT (sCell rs (iT (tAt ds 1)).toNat 1)), tI (iT (sCell rs (iT (tAt ds 1)).toNat 2)), tI (iT (sCell rs (iT (tAt ds 1)).toNat 3)), tI (iT (sCell rs (iT (tAt ds 1)).toNat 4)), tI (iT (sCell rs (iT (tAt ds 1)).toNat 5))]) then some (.ret (oB false)) else some (.next [tB (bT (tAt ds 0)), tI (sAdd .i64 (iT (tAt ds 1)) 1)]) else none else none else none else none else none else some (.brk [tB (bT (tAt ds 0)), tI (iT (tAt ds 1))]) else none) [tB false, tI 1]) none fun val => val.elim' (fun ds => none) (fun ds => bif okT .own .bool (tAt ds 0) && (okT .own (.int .i64) (tAt ds 1) && true) then some (.ret (oB true)) else none) fun o => some (.ret o)) := by kernel_rfl

end Go.Vm
