/- normal forms -/
import Derived.Test.YtmfbonhdjpmbkaaVm61
import Derived.KernelRfl
namespace Go.Vm
open Go
set_option linter.unusedVariables false

set_option maxRecDepth 100000 in
theorem nf_51 (lp : (List T → Option LRes) → List T → Option LRes) (a b c : Int) : body lp ET0 51 [aI a, aI b, aI c] [] =
  (Option.elim (bif sLe b a then some [Value.bool (sLe a c)] else some [Value.bool false]) none fun val =>
    bif bif okVl Kd.bool (vAt val 0) then true else false then
      some (LRes.ret { rets := [A.c (T.im (Value.bool (bV (vAt val 0))))], outs := [], pos := [] })
    else none) := by kernel_rfl

set_option maxRecDepth 100000 in
theorem nf_54 (lp : (List T → Option LRes) → List T → Option LRes) (a b c : Int) : body lp ET1 54 [aI a, aI b, aI c] [] =
  (Option.elim (bif sLe b a then some [Value.bool (sLe a c)] else some [Value.bool false]) none fun val =>
    bif bif okVl Kd.bool (vAt val 0) then true else false then
      some (LRes.ret { rets := [A.c (T.im (Value.bool (bV (vAt val 0))))], outs := [], pos := [] })
    else none) := by kernel_rfl

set_option maxRecDepth 100000 in
theorem nf_107 (lp : (List T → Option LRes) → List T → Option LRes) (a : Int) : body lp ET2 107 [aI a] [] =
  (some (LRes.ret { rets := [A.c (T.im (Value.bool (mIn a 0 1000000)))], outs := [], pos := [] })) := by kernel_rfl

set_option maxRecDepth 100000 in
theorem nf_105 (lp : (List T → Option LRes) → List T → Option LRes) (a : Int) : body lp ET3 105 [aI a] [] =
  (some (LRes.ret { rets := [A.c (T.im (Value.bool (mIn a 0 65535)))], outs := [], pos := [] })) := by kernel_rfl

set_option maxRecDepth 100000 in
theorem nf_108 (lp : (List T → Option LRes) → List T → Option LRes) (a : Int) : body lp ET4 108 [aI a] [] =
  (some
    (LRes.ret { rets := [A.c (T.im (Value.bool (mIn a (Int.negSucc 999999999) 1000000000)))], outs := [], pos := [] })) := by kernel_rfl

set_option maxRecDepth 100000 in
theorem nf_109 (lp : (List T → Option LRes) → List T → Option LRes) (a : Int) : body lp ET5 109 [aI a] [] =
  (some (LRes.ret { rets := [A.c (T.im (Value.bool (mIn a (Int.negSucc 999999) 1000000)))], outs := [], pos := [] })) := by kernel_rfl

set_option maxRecDepth 100000 in
theorem nf_106 (lp : (List T → Option LRes) → List T → Option LRes) (a : Int) : body lp ET6 106 [aI a] [] =
  (some (LRes.ret { rets := [A.c (T.im (Value.bool (mIn a (Int.negSucc 999999) 1000000)))], outs := [], pos := [] })) := by kernel_rfl

set_option maxRecDepth 100000 in
theorem nf_66 (lp : (List T → Option LRes) → List T → Option LRes) (a : Int) : body lp ET7 66 [aI a] [] =
  (some (LRes.ret { rets := [A.c (T.im (Value.bool (mIn a 1 1000000)))], outs := [], pos := [] })) := by kernel_rfl

set_option maxRecDepth 100000 in
theorem nf_59 (lp : (List T → Option LRes) → List T → Option LRes) (a b c d e f : Int) : body lp ET8 59 [.ag [tI a, tI b, tI c, tI d, tI e, tI f]] [] =
  (Option.elim
    (bif mIn a 0 1000000 then
      bif mIn b 0 65535 then
        bif mIn c 1 1000000000 then
          bif mIn d (Int.negSucc 999999999) 1000000000 then
            bif mIn e (Int.negSucc 999999) 1000000 then
              bif mIn f (Int.negSucc 999999) 1000000 then some [Value.bool (sLe e f)] else some [Value.bool false]
            else some [Value.bool false]
          else some [Value.bool false]
        else some [Value.bool false]
      else some [Value.bool false]
    else some [Value.bool false])
    none fun val =>
    bif bif okVl Kd.bool (vAt val 0) then true else false then
      some (LRes.ret { rets := [A.c (T.im (Value.bool (bV (vAt val 0))))], outs := [], pos := [] })
    else none) := by kernel_rfl

set_option maxRecDepth 100000 in
theorem nf_61 (lp : (List T → Option LRes) → List T → Option LRes) (a b c d e f : Int) : body lp ET9 61 [.ag [tI a, tI b, tI c, tI d, tI e, tI f]] [] =
  (Option.elim
    (bif mIn a 0 1000000 then
      bif mIn b 0 65535 then
        bif mIn c 1 1000000000 then
          bif mIn d (Int.negSucc 999999999) 1000000000 then
            bif mIn e (Int.negSucc 999999) 1000000 then
              bif mIn f (Int.negSucc 999999) 1000000 then some [Value.bool (sLe e f)] else some [Value.bool false]
            else some [Value.bool false]
          else some [Value.bool false]
        else some [Value.bool false]
      else some [Value.bool false]
    else some [Value.bool false])
    none fun val =>
    bif bif okVl Kd.bool (vAt val 0) then true else false then
      some (LRes.ret { rets := [A.c (T.im (Value.bool (bV (vAt val 0))))], outs := [], pos := [] })
    else none) := by kernel_rfl

set_option maxRecDepth 100000 in
theorem nf_63 (lp : (List T → Option LRes) → List T → Option LRes) (a b : Int) : body lp ET10 63 [aI a, aI b] [] =
  (Option.elim
    (bif bif mIn a 0 1000000 then false else true then some [Value.bool true]
    else some [Value.bool (bif mIn b 1 1000000 then false else true)])
    none fun val =>
    bif bif okVl Kd.bool (vAt val 0) then true else false then
      bif bV (vAt val 0) then
        some (LRes.ret { rets := [A.c (T.im (Value.int IntKind.i64 (Int.negSucc 0)))], outs := [], pos := [] })
      else
        some
          (LRes.ret
            {
              rets :=
                [A.c (T.im (Value.int IntKind.i64 (sSub IntKind.i64 (sMul IntKind.i64 (sAdd IntKind.i64 a 1) b) 1)))],
              outs := [], pos := [] })
    else none) := by kernel_rfl

set_option maxRecDepth 100000 in
theorem nf_67 (lp : (List T → Option LRes) → List T → Option LRes) (a b : Int) : body lp ET11 67 [aI a, aI b] [] =
  (Option.elim
    (bif bif mIn a 0 1000000 then false else true then some [Value.bool true]
    else some [Value.bool (bif mIn b 1 1000000 then false else true)])
    none fun val =>
    bif bif okVl Kd.bool (vAt val 0) then true else false then
      bif bV (vAt val 0) then
        some (LRes.ret { rets := [A.c (T.im (Value.int IntKind.i64 (Int.negSucc 0)))], outs := [], pos := [] })
      else
        some
          (LRes.ret
            {
              rets :=
                [A.c (T.im (Value.int IntKind.i64 (sSub IntKind.i64 (sMul IntKind.i64 (sAdd IntKind.i64 a 1) b) 1)))],
              outs := [], pos := [] })
    else none) := by kernel_rfl

set_option maxRecDepth 100000 in
theorem nf_62 (lp : (List T → Option LRes) → List T → Option LRes) (rs : List (List T)) : body lp ET12 62 [.c (.sl .ro 6 rs)] [] =
  (Option.elim
    (lp
      (fun ds =>
        bif
            bif okT Fl.own Kd.bool (tAt ds 0) then
              bif okT Fl.own (Kd.int IntKind.i64) (tAt ds (0 + 1)) then true else false
            else false then
          bif sLt (iT (tAt ds 1)) (Int.ofNat ((sLen rs))) then
            bif
                bif
                    bif bif sLe 0 (iT (tAt ds 1)) then sLt (iT (tAt ds 1)) (Int.ofNat ((sLen rs))) else false then true
                    else false then
                  true
                else false then
              bif
                  sOkC
                    [Kd.int IntKind.i64, Kd.int IntKind.i64, Kd.int IntKind.i64, Kd.int IntKind.i64, Kd.int IntKind.i64,
                      Kd.int IntKind.i64]
                    rs ((iT (tAt ds 1)).toNat + 0) 0 then
                bif
                    bif
                        mAggOk (iT (sCell rs ((iT (tAt ds 1)).toNat + 0) 0))
                          (iT (sCell rs ((iT (tAt ds 1)).toNat + 0) (0 + 1)))
                          (iT (sCell rs ((iT (tAt ds 1)).toNat + 0) (0 + 1 + 1)))
                          (iT (sCell rs ((iT (tAt ds 1)).toNat + 0) (0 + 1 + 1 + 1)))
                          (iT (sCell rs ((iT (tAt ds 1)).toNat + 0) (0 + 1 + 1 + 1 + 1)))
                          (iT (sCell rs ((iT (tAt ds 1)).toNat + 0) (0 + 1 + 1 + 1 + 1 + 1))) then
                      false
                    else true then
                  some (LRes.ret { rets := [A.c (T.im (Value.bool false))], outs := [], pos := [] })
                else
                  some
                    (LRes.next
                      [T.im (Value.bool (bT (tAt ds 0))),
                        T.im (Value.int IntKind.i64 (sAdd IntKind.i64 (iT (tAt ds 1)) 1))])
              else none
            else none
          else some (LRes.brk [T.im (Value.bool (bT (tAt ds 0))), T.im (Value.int IntKind.i64 (iT (tAt ds 1)))])
        else none)
      [T.im (Value.bool false), T.im (Value.int IntKind.i64 0)])
    none fun val =>
    val.elim' (fun ds => none)
      (fun ds =>
        bif
            bif okT Fl.own Kd.bool (tAt ds 0) then
              bif okT Fl.own (Kd.int IntKind.i64) (tAt ds (0 + 1)) then true else false
            else false then
          some (LRes.ret { rets := [A.c (T.im (Value.bool true))], outs := [], pos := [] })
        else none)
      fun o => some (LRes.ret o)) := by kernel_rfl

set_option maxRecDepth 100000 in
theorem nf_65 (lp : (List T → Option LRes) → List T → Option LRes) (s n a b c d e f : Int) : body lp ET13 65 [.ag [tI a, tI b, tI c, tI d, tI e, tI f], .pt 20000 0 0 0, .pt 20001 0 0 0] [.box true [tI s], .box true [tI n]] =
  (Option.elim
    (bif bif mAggOk a b c d e f then false else true then some [Value.bool true]
    else
      bif bif mIn s 1 1000000 then false else true then some [Value.bool true]
      else some [Value.bool (sLt n (mWinEnd a s))])
    none fun val =>
    bif bif okVl Kd.bool (vAt val 0) then true else false then
      some
        (LRes.ret
          { rets := [A.c (T.im (Value.bool (bV (vAt val 0))))], outs := [], pos := [PO.box true [], PO.box true []] })
    else none) := by kernel_rfl

set_option maxRecDepth 100000 in
theorem nf_110 (lp : (List T → Option LRes) → List T → Option LRes) (rs : List (List T)) (s n : Int) : body lp ET14 110 [.c (.sl .ro 6 rs), .fn 65 [.pt 20000 0 0 0, .pt 20001 0 0 0]] [.box true [tI s], .box true [tI n]] =
  (Option.elim
    (lp
      (fun ds =>
        bif
            bif okT Fl.own (Kd.int IntKind.i64) (tAt ds 0) then
              bif okT Fl.own (Kd.int IntKind.i64) (tAt ds (0 + 1)) then true else false
            else false then
          bif sLt (iT (tAt ds 1)) (Int.ofNat ((sLen rs))) then
            bif
                bif
                    bif bif sLe 0 (iT (tAt ds 1)) then sLt (iT (tAt ds 1)) (Int.ofNat ((sLen rs))) else false then true
                    else false then
                  true
                else false then
              bif
                  sOkC
                    [Kd.int IntKind.i64, Kd.int IntKind.i64, Kd.int IntKind.i64, Kd.int IntKind.i64, Kd.int IntKind.i64,
                      Kd.int IntKind.i64]
                    rs ((iT (tAt ds 1)).toNat + 0) 0 then
                bif
                    mLate s n (iT (sCell rs ((iT (tAt ds 1)).toNat + 0) 0))
                      (iT (sCell rs ((iT (tAt ds 1)).toNat + 0) (0 + 1)))
                      (iT (sCell rs ((iT (tAt ds 1)).toNat + 0) (0 + 1 + 1)))
                      (iT (sCell rs ((iT (tAt ds 1)).toNat + 0) (0 + 1 + 1 + 1)))
                      (iT (sCell rs ((iT (tAt ds 1)).toNat + 0) (0 + 1 + 1 + 1 + 1)))
                      (iT (sCell rs ((iT (tAt ds 1)).toNat + 0) (0 + 1 + 1 + 1 + 1 + 1))) then
                  some
                    (LRes.ret
                      { rets := [A.c (T.im (Value.int IntKind.i64 (iT (tAt ds 1))))], outs := [],
                        pos := [PO.box true [], PO.box true []] })
                else
                  some
                    (LRes.next
                      [T.im (Value.int IntKind.i64 (iT (tAt ds 0))),
                        T.im (Value.int IntKind.i64 (sAdd IntKind.i64 (iT (tAt ds 1)) 1))])
              else none
            else none
          else
            some (LRes.brk [T.im (Value.int IntKind.i64 (iT (tAt ds 0))), T.im (Value.int IntKind.i64 (iT (tAt ds 1)))])
        else none)
      [T.im (Value.int IntKind.i64 0), T.im (Value.int IntKind.i64 0)])
    none fun val =>
    val.elim' (fun ds => none)
      (fun ds =>
        bif
            bif okT Fl.own (Kd.int IntKind.i64) (tAt ds 0) then
              bif okT Fl.own (Kd.int IntKind.i64) (tAt ds (0 + 1)) then true else false
            else false then
          some
            (LRes.ret
              { rets := [A.c (T.im (Value.int IntKind.i64 (Int.negSucc 0)))], outs := [],
                pos := [PO.box true [], PO.box true []] })
        else none)
      fun o => some (LRes.ret o)) := by kernel_rfl

set_option maxRecDepth 100000 in
theorem nf_64 (lp : (List T → Option LRes) → List T → Option LRes) (rs : List (List T)) (s n : Int) : body lp ET15 64 [.c (.sl .ro 6 rs), .fn 65 [.pt 20000 0 0 0, .pt 20001 0 0 0]] [.box true [tI s], .box true [tI n]] =
  (bif pAggs rs then
    some
      (LRes.ret
        { rets := [A.c (T.im (Value.bool (sLe 0 (mLateAt rs s n))))], outs := [],
          pos := [PO.box true [], PO.box true []] })
  else none) := by kernel_rfl

set_option maxRecDepth 100000 in
theorem nf_31 (lp : (List T → Option LRes) → List T → Option LRes) (rs : List (List T)) (s n : Int) : body lp ET16 31 [.c (.sl .ro 6 rs), aI s, aI n] [] =
  (bif pAggs rs then
    bif bif mAllOk rs then false else true then
      some (LRes.ret { rets := [A.c (T.im (Value.bool false))], outs := [], pos := [] })
    else
      Option.elim
        (lp
          (fun ds =>
            bif
                bif okT Fl.own Kd.bool (tAt ds 0) then
                  bif okT Fl.own (Kd.int IntKind.i64) (tAt ds (0 + 1)) then true else false
                else false then
              bif sLt (iT (tAt ds 1)) (Int.ofNat ((sLen rs))) then
                bif
                    bif
                        bif bif sLe 0 (iT (tAt ds 1)) then sLt (iT (tAt ds 1)) (Int.ofNat ((sLen rs))) else false then true
                        else false then
                      true
                    else false then
                  bif sOkC [Kd.int IntKind.i64] rs ((iT (tAt ds 1)).toNat + 0) (0 + 0) then
                    Option.elim
                      (bif sLt (mWinEnd (iT (sCell rs ((iT (tAt ds 1)).toNat + 0) (0 + 0))) s) 0 then
                        some [Value.bool true]
                      else some [Value.bool (sLt n (mWinEnd (iT (sCell rs ((iT (tAt ds 1)).toNat + 0) (0 + 0))) s))])
                      none fun val =>
                      bif bif okVl Kd.bool (vAt val 0) then true else false then
                        bif bV (vAt val 0) then
                          some (LRes.ret { rets := [A.c (T.im (Value.bool false))], outs := [], pos := [] })
                        else
                          some
                            (LRes.next
                              [T.im (Value.bool (bT (tAt ds 0))),
                                T.im (Value.int IntKind.i64 (sAdd IntKind.i64 (iT (tAt ds 1)) 1))])
                      else none
                  else none
                else none
              else some (LRes.brk [T.im (Value.bool (bT (tAt ds 0))), T.im (Value.int IntKind.i64 (iT (tAt ds 1)))])
            else none)
          [T.im (Value.bool false), T.im (Value.int IntKind.i64 0)])
        none fun val =>
        val.elim' (fun ds => none)
          (fun ds =>
            bif
                bif okT Fl.own Kd.bool (tAt ds 0) then
                  bif okT Fl.own (Kd.int IntKind.i64) (tAt ds (0 + 1)) then true else false
                else false then
              some (LRes.ret { rets := [A.c (T.im (Value.bool true))], outs := [], pos := [] })
            else none)
          fun o => some (LRes.ret o)
  else none) := by kernel_rfl

set_option maxRecDepth 100000 in
theorem nf_32 (lp : (List T → Option LRes) → List T → Option LRes) (rs : List (List T)) (s n : Int) : body lp ET17 32 [.c (.sl .ro 6 rs), aI s, aI n] [] =
  (bif pAggs rs then
    some
      (LRes.ret
        { rets := [A.c (T.im (Value.bool (bif bif mInTime rs s n then false else true then false else true)))],
          outs := [], pos := [] })
  else none) := by kernel_rfl

set_option maxRecDepth 100000 in
theorem nf_22 (lp : (List T → Option LRes) → List T → Option LRes) (rs : List (List T)) (n : Int) : body lp ET18 22 [.c (.sl .ro 6 rs), aI n] [] =
  (bif sLt (sSub IntKind.i64 n (Int.ofNat ((sLen rs)))) 0 then
    some (LRes.ret { rets := [A.c (T.im (Value.int IntKind.i64 (Int.negSucc 0)))], outs := [], pos := [] })
  else
    some
      (LRes.ret { rets := [A.c (T.im (Value.int IntKind.i64 (sSub IntKind.i64 n (Int.ofNat ((sLen rs))))))], outs := [], pos := [] })) := by kernel_rfl

set_option maxRecDepth 100000 in
theorem nf_56 (lp : (List T → Option LRes) → List T → Option LRes) (a b c d e f : Int) : body lp ET19 56 [.ag [tI a, tI b, tI c, tI d, tI e, tI f]] [] =
  (some
    (LRes.ret
      {
        rets :=
          [A.ag
              [T.im (Value.int IntKind.i64 a), T.im (Value.int IntKind.i64 b), T.im (Value.int IntKind.i64 c),
                T.im (Value.int IntKind.i64 d), T.im (Value.int IntKind.i64 e), T.im (Value.int IntKind.i64 f)]],
        outs := [], pos := [] })) := by kernel_rfl

set_option maxRecDepth 100000 in
theorem nf_24 (lp : (List T → Option LRes) → List T → Option LRes) (rs : List (List T)) : body lp ET20 24 [.c (.sl .ro 6 rs)] [] =
  (bif
      bif
          bif
              bif
                  bif
                      bif
                          bif bif sEq (Int.ofNat ((sLen rs))) (Int.ofNat ((sLen rs))) then sLe 0 (Int.ofNat ((sLen rs))) else false then
                            sLt ((Int.ofNat ((sLen rs)))) 4294967296
                          else false then
                        true
                      else false then
                    true
                  else false then
                true
              else false then
            true
          else false then
        true
      else false then
    Option.elim
      (lp
        (fun ds =>
          bif
              bif okT Fl.own (Kd.sl 6) (tAt ds 0) then
                bif okT Fl.own (Kd.int IntKind.i64) (tAt ds (0 + 1)) then true else false
              else false then
            bif sLt (iT (tAt ds 1)) (Int.ofNat ((sLen rs))) then
              bif
                  bif
                      bif bif sLe 0 (iT (tAt ds 1)) then sLt (iT (tAt ds 1)) (Int.ofNat ((sLen rs))) else false then true
                      else false then
                    true
                  else false then
                bif
                    sOkC
                      [Kd.int IntKind.i64, Kd.int IntKind.i64, Kd.int IntKind.i64, Kd.int IntKind.i64,
                        Kd.int IntKind.i64, Kd.int IntKind.i64]
                      rs ((iT (tAt ds 1)).toNat + 0) 0 then
                  bif
                      bif
                          bif bif sLe 0 (iT (tAt ds 1)) then sLt (iT (tAt ds 1)) (Int.ofNat (((Int.ofNat ((sLen rs)))).toNat)) else false then
                            true
                          else false then
                        true
                      else false then
                    some
                      (LRes.next
                        [T.sl Fl.own 6
                            (sSetRow (rT (tAt ds 0)) ((iT (tAt ds 1)).toNat + 0) 0
                              [T.im (Value.int IntKind.i64 (iT (sCell rs ((iT (tAt ds 1)).toNat + 0) 0))),
                                T.im (Value.int IntKind.i64 (iT (sCell rs ((iT (tAt ds 1)).toNat + 0) (0 + 1)))),
                                T.im (Value.int IntKind.i64 (iT (sCell rs ((iT (tAt ds 1)).toNat + 0) (0 + 1 + 1)))),
                                T.im
                                  (Value.int IntKind.i64 (iT (sCell rs ((iT (tAt ds 1)).toNat + 0) (0 + 1 + 1 + 1)))),
                                T.im
                                  (Value.int IntKind.i64
                                    (iT (sCell rs ((iT (tAt ds 1)).toNat + 0) (0 + 1 + 1 + 1 + 1)))),
                                T.im
                                  (Value.int IntKind.i64
                                    (iT (sCell rs ((iT (tAt ds 1)).toNat + 0) (0 + 1 + 1 + 1 + 1 + 1))))]),
                          T.im (Value.int IntKind.i64 (sAdd IntKind.i64 (iT (tAt ds 1)) 1))])
                  else none
                else none
              else none
            else some (LRes.brk [T.sl Fl.own 6 (rT (tAt ds 0)), T.im (Value.int IntKind.i64 (iT (tAt ds 1)))])
          else none)
        [T.sl Fl.own 6
            (sRep ((Int.ofNat ((sLen rs)))).toNat
              [T.im (Value.int IntKind.i64 0), T.im (Value.int IntKind.i64 0), T.im (Value.int IntKind.i64 0),
                T.im (Value.int IntKind.i64 0), T.im (Value.int IntKind.i64 0), T.im (Value.int IntKind.i64 0)]),
          T.im (Value.int IntKind.i64 0)])
      none fun val =>
      val.elim' (fun ds => none)
        (fun ds =>
          bif
              bif okT Fl.own (Kd.sl 6) (tAt ds 0) then
                bif okT Fl.own (Kd.int IntKind.i64) (tAt ds (0 + 1)) then true else false
              else false then
            some (LRes.ret { rets := [A.c (T.sl Fl.own 6 (rT (tAt ds 0)))], outs := [], pos := [] })
          else none)
        fun o => some (LRes.ret o)
  else none) := by kernel_rfl

set_option maxRecDepth 100000 in
theorem nf_58 (lp : (List T → Option LRes) → List T → Option LRes) (a b c d e f a' b' c' d' e' f' : Int) : body lp ET21 58 [.ag [tI a, tI b, tI c, tI d, tI e, tI f], .ag [tI a', tI b', tI c', tI d', tI e', tI f']] [] =
  (bif bif sEq a a' then false else true then
    some (LRes.ret { rets := [A.c (T.im (Value.bool false))], outs := [], pos := [] })
  else
    bif bif sEq b b' then false else true then
      some (LRes.ret { rets := [A.c (T.im (Value.bool false))], outs := [], pos := [] })
    else
      bif bif sEq c c' then false else true then
        some (LRes.ret { rets := [A.c (T.im (Value.bool false))], outs := [], pos := [] })
      else
        bif bif sEq d d' then false else true then
          some (LRes.ret { rets := [A.c (T.im (Value.bool false))], outs := [], pos := [] })
        else
          bif bif sEq e e' then false else true then
            some (LRes.ret { rets := [A.c (T.im (Value.bool false))], outs := [], pos := [] })
          else
            bif bif sEq f f' then false else true then
              some (LRes.ret { rets := [A.c (T.im (Value.bool false))], outs := [], pos := [] })
            else some (LRes.ret { rets := [A.c (T.im (Value.bool true))], outs := [], pos := [] })) := by kernel_rfl

set_option maxRecDepth 100000 in
theorem nf_26 (lp : (List T → Option LRes) → List T → Option LRes) (rs ss : List (List T)) : body lp ET22 26 [.c (.sl .ro 6 rs), .c (.sl .ro 6 ss)] [] =
  (bif bif sEq (Int.ofNat ((sLen rs))) (Int.ofNat ((sLen ss))) then false else true then
    some (LRes.ret { rets := [A.c (T.im (Value.bool false))], outs := [], pos := [] })
  else
    Option.elim
      (lp
        (fun ds =>
          bif
              bif okT Fl.own Kd.bool (tAt ds 0) then
                bif okT Fl.own (Kd.int IntKind.i64) (tAt ds (0 + 1)) then true else false
              else false then
            bif sLt (iT (tAt ds 1)) (Int.ofNat ((sLen rs))) then
              bif
                  bif
                      bif bif sLe 0 (iT (tAt ds 1)) then sLt (iT (tAt ds 1)) (Int.ofNat ((sLen rs))) else false then true
                      else false then
                    true
                  else false then
                bif
                    sOkC
                      [Kd.int IntKind.i64, Kd.int IntKind.i64, Kd.int IntKind.i64, Kd.int IntKind.i64,
                        Kd.int IntKind.i64, Kd.int IntKind.i64]
                      rs ((iT (tAt ds 1)).toNat + 0) 0 then
                  bif
                      bif
                          bif bif sLe 0 (iT (tAt ds 1)) then sLt (iT (tAt ds 1)) (Int.ofNat ((sLen ss))) else false then true
                          else false then
                        true
                      else false then
                    bif
                        sOkC
                          [Kd.int IntKind.i64, Kd.int IntKind.i64, Kd.int IntKind.i64, Kd.int IntKind.i64,
                            Kd.int IntKind.i64, Kd.int IntKind.i64]
                          ss ((iT (tAt ds 1)).toNat + 0) 0 then
                      bif
                          bif
                              mEqAgg (iT (sCell rs ((iT (tAt ds 1)).toNat + 0) 0))
                                (iT (sCell rs ((iT (tAt ds 1)).toNat + 0) (0 + 1)))
                                (iT (sCell rs ((iT (tAt ds 1)).toNat + 0) (0 + 1 + 1)))
                                (iT (sCell rs ((iT (tAt ds 1)).toNat + 0) (0 + 1 + 1 + 1)))
                                (iT (sCell rs ((iT (tAt ds 1)).toNat + 0) (0 + 1 + 1 + 1 + 1)))
                                (iT (sCell rs ((iT (tAt ds 1)).toNat + 0) (0 + 1 + 1 + 1 + 1 + 1)))
                                (iT (sCell ss ((iT (tAt ds 1)).toNat + 0) 0))
                                (iT (sCell ss ((iT (tAt ds 1)).toNat + 0) (0 + 1)))
                                (iT (sCell ss ((iT (tAt ds 1)).toNat + 0) (0 + 1 + 1)))
                                (iT (sCell ss ((iT (tAt ds 1)).toNat + 0) (0 + 1 + 1 + 1)))
                                (iT (sCell ss ((iT (tAt ds 1)).toNat + 0) (0 + 1 + 1 + 1 + 1)))
                                (iT (sCell ss ((iT (tAt ds 1)).toNat + 0) (0 + 1 + 1 + 1 + 1 + 1))) then
                            false
                          else true then
                        some (LRes.ret { rets := [A.c (T.im (Value.bool false))], outs := [], pos := [] })
                      else
                        some
                          (LRes.next
                            [T.im (Value.bool (bT (tAt ds 0))),
                              T.im (Value.int IntKind.i64 (sAdd IntKind.i64 (iT (tAt ds 1)) 1))])
                    else none
                  else none
                else none
              else none
            else some (LRes.brk [T.im (Value.bool (bT (tAt ds 0))), T.im (Value.int IntKind.i64 (iT (tAt ds 1)))])
          else none)
        [T.im (Value.bool false), T.im (Value.int IntKind.i64 0)])
      none fun val =>
      val.elim' (fun ds => none)
        (fun ds =>
          bif
              bif okT Fl.own Kd.bool (tAt ds 0) then
                bif okT Fl.own (Kd.int IntKind.i64) (tAt ds (0 + 1)) then true else false
              else false then
            some (LRes.ret { rets := [A.c (T.im (Value.bool true))], outs := [], pos := [] })
          else none)
        fun o => some (LRes.ret o)) := by kernel_rfl

set_option maxRecDepth 100000 in
theorem nf_8 (lp : (List T → Option LRes) → List T → Option LRes) (rs : List (List T)) (s n : Int) : body lp ET23 8 [.c (.sl .ro 6 rs), aI s, aI n] [] =
  (bif pSz rs 1048576 then
    bif sLt (mSz rs 1048576) 0 then some (LRes.ret { rets := [A.c (T.im (Value.bool true))], outs := [], pos := [] })
    else
      bif pAggs rs then
        bif bif sNoRo (T.sl Fl.own 6 rs) then true else false then
          bif pAggs rs then
            bif pAggs rs then
              bif bif sNoRo (T.sl Fl.own 6 rs) then true else false then
                bif pAggs rs then
                  bif bif sBeq (mInTime rs s n) (mInTime rs s n) then false else true then
                    some (LRes.ret { rets := [A.c (T.im (Value.bool false))], outs := [], pos := [] })
                  else
                    bif pAggs rs then
                      bif bif sNoRo (T.sl Fl.own 6 rs) then true else false then
                        bif bif pAggs rs then pAggs rs else false then
                          bif bif mEqAggs rs rs then false else true then
                            some (LRes.ret { rets := [A.c (T.im (Value.bool false))], outs := [], pos := [] })
                          else some (LRes.ret { rets := [A.c (T.im (Value.bool true))], outs := [], pos := [] })
                        else none
                      else none
                    else none
                else none
              else none
            else none
          else none
        else none
      else none
  else none) := by kernel_rfl

end Go.Vm
