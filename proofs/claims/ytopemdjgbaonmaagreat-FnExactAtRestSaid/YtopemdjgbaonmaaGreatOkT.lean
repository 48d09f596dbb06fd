/- what is right: the table -/
import Derived.Test.YtopemdjgbaonmaaGreatEngT
namespace Go.Vm
set_option linter.unusedVariables false
noncomputable section
def mIn : Int → Int → Int → Bool := sld fun a lo hi => decide (lo ≤ a) && decide (a ≤ hi)
def mAggOk : List T → Bool := sld fun r => mIn (cI r 0) 0 1000000 && mIn (cI r 1) 0 65535 && mIn (cI r 2) 1 1000000000 && mIn (cI r 3) (-1000000000) 1000000000 && mIn (cI r 4) (-1000000) 1000000 && mIn (cI r 5) (-1000000) 1000000 && decide (cI r 4 ≤ cI r 5)
def mSetupOk : List T → Bool := sld fun r => mIn (cI r 0) 1 6 && mIn (cI r 1) 1 4 && mIn (cI r 2) 1 1000 && mIn (cI r 3) 0 1000 && mIn (cI r 4) 0 1000 && mIn (cI r 5) 1 20 && mIn (cI r 6) 1 20 && mIn (cI r 7) 1 20 && mIn (cI r 8) 1 40
def mFrameOk : List T → Bool := sld fun r => (decide (cI r 0 = 1) && mIn (cI r 1) 0 65535 && mIn (cI r 2) 0 1000000 && mIn (cI r 3) (-1000000) 1000000) || (decide (cI r 0 = 2) && decide (cI r 1 = 0) && mIn (cI r 2) 0 1000000 && decide (cI r 3 = 0)) || (decide (cI r 0 = 3) && decide (cI r 1 = 0) && decide (cI r 2 = 0) && decide (cI r 3 = 0))
def mIsEvent : List T → Bool := sld fun r => decide (cI r 0 = 1) && mFrameOk r
def mMsgOk : List T → Bool → Bool := sld fun r al => mIn (cI r 4) (-1) 1000000 && (mIsEvent r || (al && decide (cI r 0 = 0) && decide (cI r 1 = 0) && decide (cI r 2 = 0) && decide (cI r 3 = 0)))
def mSrcOk : List T → Bool := sld fun r => mIn (cI r 0) (-1) 1000000 && mIn (cI r 1) (-1) 1000000 && mIn (cI r 2) 0 1000000000
def mDecOk : List T → Bool := sld fun r => decide ((r.getD 0 .no).rws.length ≤ 400) && (!(Value.asB (r.getD 1 .no).val) || decide ((r.getD 0 .no).rws.length = 0))
def mAhead : List T → List T → Bool := sld fun a b => decide (cI a 0 < cI b 0) || (decide (cI a 0 = cI b 0) && decide (cI a 1 < cI b 1))
def mCmp : Int → Int → Int := sld fun a b => if a < b then -1 else if b < a then 1 else 0
def mOr : Int → Int → Int := sld fun a b => if a = 0 then b else a
def mOrder : List T → List T → Int := sld fun a b => mOr (mCmp (cI a 0) (cI b 0)) (mCmp (cI a 1) (cI b 1))
def mNotAggOk : List T → Bool := sld fun r => !mAggOk r
def mAreAggs : List (List T) → Bool := sld fun rs => rs.all mAggOk
def mSorted : List (List T) → Bool := sld fun rs => (List.range rs.length).all fun i => decide (i = 0) || mAhead (rs.getD (i - 1) []) (rs.getD i [])
def mShardOk : List T → Bool := sld fun r => decide ((r.getD 0 .no).rws.length ≤ 40) && mAreAggs (r.getD 0 .no).rws && mSorted (r.getD 0 .no).rws && mIn (cI r 1) (-1) 1000000 && mIn (cI r 2) 0 1000000000 && mIn (cI r 3) 0 1000000000
def mBadIn : List T → Bool := sld fun r => !mMsgOk r false
def mBadQ : List T → Bool := sld fun r => !mMsgOk r true
def mBadConn : List T → Bool := sld fun r => !(mSrcOk (r.drop 2) && mDecOk (r.take 2))
def mQs (ts : List T) (k : Nat) : List (List T) := (((ts.getD 13 .no).rws.getD k []).getD 0 .no).rws
def mQue : List T → Nat → Bool := sld fun ts k => (mQs ts k).all fun r => mMsgOk r true
def mShd : List T → Nat → Bool := sld fun ts k => mShardOk ((ts.getD 14 .no).rws.getD k []) && decide (((((ts.getD 14 .no).rws.getD k []).getD 0 .no).rws.length : Int) ≤ cI ts 8) && decide (cI ((ts.getD 14 .no).rws.getD k []) 1 ≤ cI ((ts.getD 17 .no).rws.getD k []) 0) && decide (cI ((ts.getD 17 .no).rws.getD k []) 0 ≤ cI ts 16)
def mHead : List T → Bool := sld fun ts => mSetupOk (ts.take 9) && mIn (cI ts 10) 0 2 && decide (((ts.getD 13 .no).rws.length : Int) = cI ts 1) && decide (((ts.getD 14 .no).rws.length : Int) = cI ts 1) && decide (((ts.getD 17 .no).rws.length : Int) = cI ts 1) && decide (((ts.getD 12 .no).rws.length : Int) ≤ cI ts 5) && decide (((ts.getD 15 .no).rws.length : Int) ≤ cI ts 7)
def mSafe : List T → Bool := sld fun ts => mHead ts && ((ts.getD 12 .no).rws.all fun r => mMsgOk r false) &&
 ((List.range (ts.getD 13 .no).rws.length).all fun k => decide (((mQs ts k).length : Int) ≤ cI ts 6) && (mQue ts k && mShd ts k)) && (ts.getD 11 .no).rws.all (fun r => !mBadConn r)
def mIdx (q : List T → Bool) : List (List T) → Int := fun rs => match rs.findIdx? q with | some i => i | none => -1
def sIdx : (List T → Bool) → List (List T) → Int := sld mIdx
def sAny : (List T → Bool) → List (List T) → Bool := sld fun q rs => rs.any q

def gIn : GFn
 | [aI a, aI b, aI c], [] => (true, oB (mIn a b c))
 | _, _ => gNo
def gIn1 (lo hi : Int) : GFn
 | [aI a], [] => (true, oB (mIn a lo hi))
 | _, _ => gNo
def gR (m : List T → Bool) (p : List T → Bool) : GFn
 | [.ag ts], [] => (ts.all roT && p ts, oB (m ts))
 | _, _ => gNo
def sShR : List KT → List T → Bool := sld shR
def gMsgOk : GFn
 | [.ag ts, aB c], [] => (ts.all roT && sShR kMsg ts, oB (mMsgOk ts c))
 | _, _ => gNo
def gAhead : GFn
 | [.ag a, .ag b], [] => (a.all roT && b.all roT && sShR kAggT a && sShR kAggT b, oB (mAhead a b))
 | _, _ => gNo
def gNaN : GFn
 | [aI a], [] => (true, oB false)
 | _, _ => gNo
def gCmp : GFn
 | [aI a, aI b], [] => (true, oI (mCmp a b))
 | _, _ => gNo
def gOr : GFn
 | [.c (.sl .ro 1 [[tI a], [tI b]])], [] => (true, oI (mOr a b))
 | _, _ => gNo
def gOrder : GFn
 | [.ag a, .ag b], [] => (a.all roT && b.all roT && sShR kAggT a && sShR kAggT b, oI (mOrder a b))
 | _, _ => gNo
def gIdx (row : List KT) (l : List (Nat × (List T → Bool))) : GFn
 | [.c (.sl .ro sz rs), .fn f []], [] => match l.find? (fun x => Nat.beq x.1 f) with
  | some x => (Nat.beq sz row.length && pEq row rs, oI (sIdx x.2 rs))
  | none => gNo
 | _, _ => gNo
def gCont (row : List KT) (l : List (Nat × (List T → Bool))) : GFn
 | [.c (.sl .ro sz rs), .fn f []], [] => match l.find? (fun x => Nat.beq x.1 f) with
  | some x => (Nat.beq sz row.length && pEq row rs, oB (sAny x.2 rs))
  | none => gNo
 | _, _ => gNo
def gAggs (m : List (List T) → Bool) : GFn
 | [.c (.sl .ro sz rs)], [] => (Nat.beq sz 6 && pEq kAggT rs, oB (m rs))
 | _, _ => gNo
noncomputable def ET45 : Env := EE Go.Proofs.Tryz.prog md0 (fun _ => .own) TL45
noncomputable def TL46 : List (Nat × GFn) := (66, gIn) :: TL45
noncomputable def ET46 : Env := EE Go.Proofs.Tryz.prog md0 (fun _ => .own) TL46
noncomputable def TL47 : List (Nat × GFn) := (76, gIn) :: TL46
noncomputable def ET47 : Env := EE Go.Proofs.Tryz.prog md0 (fun _ => .own) TL47
noncomputable def TL48 : List (Nat × GFn) := (134, gIn1 0 1000000) :: TL47
noncomputable def ET48 : Env := EE Go.Proofs.Tryz.prog md0 (fun _ => .own) TL48
noncomputable def TL49 : List (Nat × GFn) := (133, gIn1 0 65535) :: TL48
noncomputable def ET49 : Env := EE Go.Proofs.Tryz.prog md0 (fun _ => .own) TL49
noncomputable def TL50 : List (Nat × GFn) := (148, gIn1 (-1000000000) 1000000000) :: TL49
noncomputable def ET50 : Env := EE Go.Proofs.Tryz.prog md0 (fun _ => .own) TL50
noncomputable def TL51 : List (Nat × GFn) := (135, gIn1 (-1000000) 1000000) :: TL50
noncomputable def ET51 : Env := EE Go.Proofs.Tryz.prog md0 (fun _ => .own) TL51
noncomputable def TL52 : List (Nat × GFn) := (131, gIn1 (-1000000) 1000000) :: TL51
noncomputable def ET52 : Env := EE Go.Proofs.Tryz.prog md0 (fun _ => .own) TL52
noncomputable def TL53 : List (Nat × GFn) := (98, gIn1 1 1000000) :: TL52
noncomputable def ET53 : Env := EE Go.Proofs.Tryz.prog md0 (fun _ => .own) TL53
noncomputable def TL54 : List (Nat × GFn) := (80, gIn1 (-1) 1000000) :: TL53
noncomputable def ET54 : Env := EE Go.Proofs.Tryz.prog md0 (fun _ => .own) TL54
noncomputable def TL55 : List (Nat × GFn) := (104, gIn1 (-1) 1000000) :: TL54
noncomputable def ET55 : Env := EE Go.Proofs.Tryz.prog md0 (fun _ => .own) TL55
noncomputable def TL56 : List (Nat × GFn) := (117, gIn1 0 1000000000) :: TL55
noncomputable def ET56 : Env := EE Go.Proofs.Tryz.prog md0 (fun _ => .own) TL56
noncomputable def TL57 : List (Nat × GFn) := (112, gIn1 1 4) :: TL56
noncomputable def ET57 : Env := EE Go.Proofs.Tryz.prog md0 (fun _ => .own) TL57
noncomputable def TL58 : List (Nat × GFn) := (108, gIn1 0 1000000000) :: TL57
noncomputable def ET58 : Env := EE Go.Proofs.Tryz.prog md0 (fun _ => .own) TL58
noncomputable def TL59 : List (Nat × GFn) := (119, gIn1 0 1000000000) :: TL58
noncomputable def ET59 : Env := EE Go.Proofs.Tryz.prog md0 (fun _ => .own) TL59
noncomputable def TL60 : List (Nat × GFn) := (105, gR mAggOk (fun ts => sShR kAggT ts)) :: TL59
noncomputable def ET60 : Env := EE Go.Proofs.Tryz.prog md0 (fun _ => .own) TL60
noncomputable def TL61 : List (Nat × GFn) := (138, gR mAggOk (fun ts => sShR kAggT ts)) :: TL60
noncomputable def ET61 : Env := EE Go.Proofs.Tryz.prog md0 (fun _ => .own) TL61
noncomputable def TL62 : List (Nat × GFn) := (65, gR mSetupOk (fun ts => sShR kSetup ts)) :: TL61
noncomputable def ET62 : Env := EE Go.Proofs.Tryz.prog md0 (fun _ => .own) TL62
noncomputable def TL63 : List (Nat × GFn) := (75, gR mSetupOk (fun ts => sShR kSetup ts)) :: TL62
noncomputable def ET63 : Env := EE Go.Proofs.Tryz.prog md0 (fun _ => .own) TL63
noncomputable def TL64 : List (Nat × GFn) := (107, gR mFrameOk (fun ts => sShR kFrame ts)) :: TL63
noncomputable def ET64 : Env := EE Go.Proofs.Tryz.prog md0 (fun _ => .own) TL64
noncomputable def TL65 : List (Nat × GFn) := (114, gR mFrameOk (fun ts => sShR kFrame ts)) :: TL64
noncomputable def ET65 : Env := EE Go.Proofs.Tryz.prog md0 (fun _ => .own) TL65
noncomputable def TL66 : List (Nat × GFn) := (79, gR mIsEvent (fun ts => sShR kFrame ts)) :: TL65
noncomputable def ET66 : Env := EE Go.Proofs.Tryz.prog md0 (fun _ => .own) TL66
noncomputable def TL67 : List (Nat × GFn) := (68, gMsgOk) :: TL66
noncomputable def ET67 : Env := EE Go.Proofs.Tryz.prog md0 (fun _ => .own) TL67
noncomputable def TL68 : List (Nat × GFn) := (69, gR mSrcOk (fun ts => sShR kSource ts)) :: TL67
noncomputable def ET68 : Env := EE Go.Proofs.Tryz.prog md0 (fun _ => .own) TL68
noncomputable def TL69 : List (Nat × GFn) := (85, gR mSrcOk (fun ts => sShR kSource ts)) :: TL68
noncomputable def ET69 : Env := EE Go.Proofs.Tryz.prog md0 (fun _ => .own) TL69
noncomputable def TL70 : List (Nat × GFn) := (70, gR mDecOk (fun ts => sShR kDecoder ts)) :: TL69
noncomputable def ET70 : Env := EE Go.Proofs.Tryz.prog md0 (fun _ => .own) TL70
noncomputable def TL71 : List (Nat × GFn) := (86, gR mDecOk (fun ts => sShR kDecoder ts)) :: TL70
noncomputable def ET71 : Env := EE Go.Proofs.Tryz.prog md0 (fun _ => .own) TL71
noncomputable def TL72 : List (Nat × GFn) := (106, gAhead) :: TL71
noncomputable def ET72 : Env := EE Go.Proofs.Tryz.prog md0 (fun _ => .own) TL72
noncomputable def TL73 : List (Nat × GFn) := (159, gNaN) :: TL72
noncomputable def ET73 : Env := EE Go.Proofs.Tryz.prog md0 (fun _ => .own) TL73
noncomputable def TL74 : List (Nat × GFn) := (150, gCmp) :: TL73
noncomputable def ET74 : Env := EE Go.Proofs.Tryz.prog md0 (fun _ => .own) TL74
noncomputable def TL75 : List (Nat × GFn) := (149, gOr) :: TL74
noncomputable def ET75 : Env := EE Go.Proofs.Tryz.prog md0 (fun _ => .own) TL75
noncomputable def TL76 : List (Nat × GFn) := (139, gOrder) :: TL75
noncomputable def ET76 : Env := EE Go.Proofs.Tryz.prog md0 (fun _ => .own) TL76
noncomputable def TL77 : List (Nat × GFn) := (137, gR mNotAggOk (fun ts => sShR kAggT ts)) :: TL76
noncomputable def ET77 : Env := EE Go.Proofs.Tryz.prog md0 (fun _ => .own) TL77
noncomputable def TL78 : List (Nat × GFn) := (128, gIdx kAggT [(137, mNotAggOk)]) :: TL77
noncomputable def ET78 : Env := EE Go.Proofs.Tryz.prog md0 (fun _ => .own) TL78
noncomputable def TL79 : List (Nat × GFn) := (136, gCont kAggT [(137, mNotAggOk)]) :: TL78
noncomputable def ET79 : Env := EE Go.Proofs.Tryz.prog md0 (fun _ => .own) TL79
noncomputable def TL80 : List (Nat × GFn) := (115, gAggs mAreAggs) :: TL79
noncomputable def ET80 : Env := EE Go.Proofs.Tryz.prog md0 (fun _ => .own) TL80
noncomputable def TL81 : List (Nat × GFn) := (116, gAggs mSorted) :: TL80
noncomputable def ET81 : Env := EE Go.Proofs.Tryz.prog md0 (fun _ => .own) TL81
noncomputable def TL82 : List (Nat × GFn) := (67, gR mShardOk (fun ts => pEqR kShard ts)) :: TL81
noncomputable def ET82 : Env := EE Go.Proofs.Tryz.prog md0 (fun _ => .own) TL82
noncomputable def TL83 : List (Nat × GFn) := (82, gR mShardOk (fun ts => pEqR kShard ts)) :: TL82
noncomputable def ET83 : Env := EE Go.Proofs.Tryz.prog md0 (fun _ => .own) TL83
noncomputable def TL84 : List (Nat × GFn) := (78, gR mBadIn (fun ts => sShR kMsg ts)) :: TL83
noncomputable def ET84 : Env := EE Go.Proofs.Tryz.prog md0 (fun _ => .own) TL84
noncomputable def TL85 : List (Nat × GFn) := (81, gR mBadQ (fun ts => sShR kMsg ts)) :: TL84
noncomputable def ET85 : Env := EE Go.Proofs.Tryz.prog md0 (fun _ => .own) TL85
noncomputable def TL86 : List (Nat × GFn) := (113, gIdx kMsg [(78, mBadIn), (81, mBadQ)]) :: TL85
noncomputable def ET86 : Env := EE Go.Proofs.Tryz.prog md0 (fun _ => .own) TL86
noncomputable def TL87 : List (Nat × GFn) := (77, gCont kMsg [(78, mBadIn), (81, mBadQ)]) :: TL86
noncomputable def ET87 : Env := EE Go.Proofs.Tryz.prog md0 (fun _ => .own) TL87
noncomputable def TL88 : List (Nat × GFn) := (84, gR mBadConn (fun ts => pEqR kConn ts)) :: TL87
noncomputable def ET88 : Env := EE Go.Proofs.Tryz.prog md0 (fun _ => .own) TL88
noncomputable def TL89 : List (Nat × GFn) := (118, gIdx kConn [(84, mBadConn)]) :: TL88
noncomputable def ET89 : Env := EE Go.Proofs.Tryz.prog md0 (fun _ => .own) TL89
noncomputable def TL90 : List (Nat × GFn) := (83, gCont kConn [(84, mBadConn)]) :: TL89
noncomputable def ET90 : Env := EE Go.Proofs.Tryz.prog md0 (fun _ => .own) TL90
noncomputable def TL91 : List (Nat × GFn) := (25, gR mSafe (fun ts => pEqR kEngine ts)) :: TL90
noncomputable def ET91 : Env := EE Go.Proofs.Tryz.prog md0 (fun _ => .own) TL91
noncomputable def TL92 : List (Nat × GFn) := (34, gR mSafe (fun ts => pEqR kEngine ts)) :: TL91

end
end Go.Vm
