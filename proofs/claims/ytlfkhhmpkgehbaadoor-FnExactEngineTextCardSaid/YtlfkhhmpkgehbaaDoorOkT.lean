/- what is right: the table -/
import Derived.Test.YtlfkhhmpkgehbaaDoorEngT
namespace Go.Vm
set_option linter.unusedVariables false
noncomputable section
def mIn : Int → Int → Int → Bool := sld fun a lo hi => decide (lo ≤ a) && decide (a ≤ hi)
def mAggOk : List T → Bool := sld fun r => mIn (cI r 0) 0 1000000 && mIn (cI r 1) 0 65535 && mIn (cI r 2) 1 1000000000 && mIn (cI r 3) (-1000000000) 1000000000 && mIn (cI r 4) (-1000000) 1000000 && mIn (cI r 5) (-1000000) 1000000 && decide (cI r 4 ≤ cI r 5)
def mSetupOk : List T → Bool := sld fun r => mIn (cI r 0) 1 6 && mIn (cI r 1) 1 4 && mIn (cI r 2) 1 1000 && mIn (cI r 3) 0 1000 && mIn (cI r 4) 0 1000 && mIn (cI r 5) 1 20 && mIn (cI r 6) 1 20 && mIn (cI r 7) 1 20 && mIn (cI r 8) 1 40
def mFrameOk : List T → Bool := sld fun r => (decide (cI r 0 = 1) && mIn (cI r 1) 0 65535 && mIn (cI r 2) 0 1000000 && mIn (cI r 3) (-1000000) 1000000) || (decide (cI r 0 = 2) && decide (cI r 1 = 0) && mIn (cI r 2) 0 1000000 && decide (cI r 3 = 0)) || (decide (cI r 0 = 3) && decide (cI r 1 = 0) && decide (cI r 2 = 0) && decide (cI r 3 = 0))
def mIsEvent : List T → Bool := sld fun r => decide (cI r 0 = 1) && mFrameOk r
def mMsgOk : List T → Bool → Bool := sld fun r al => mIn (cI r 4) (-1) 1000000 && (mIsEvent r || (al && decide (cI r 0 = 0) && decide (cI r 1 = 0) && decide (cI r 2 = 0) && decide (cI r 3 = 0)))
def mSrcOk : List T → Bool := sld fun r => mIn (cI r 0) (-1) 1000000 && mIn (cI r 1) (-1) 1000000 && mIn (cI r 2) 0 1000000000
def mDecOk : List T → Bool := sld fun r => decide ((r.getD 0 .no).rws.length ≤ 400) && (!(Value.asB (r.getD 1 .no).val) || decide ((r.getD 0 .no).rws.length = 0))
def mAhead : List T → List T → Bool := sld fun a b => decide (cI a 0 < cI b 0) || (decide (cI a 0 = cI b 0) && decide (cI a 1 < cI b 1))
def mCmp : Int → Int → Int := sld fun a b => if a < b then -1 else if b < a then 1 else 0
def mOr : Int → Int → Int := sld fun a b => if a = 0 then b else a
def mOrder : List T → List T → Int := sld fun a b => mOr (mCmp (cI a 0) (cI b 0)) (mCmp (cI a 1) (cI b 1))
def mNotAggOk : List T → Bool := sld fun r => !mAggOk r
def mAreAggs : List (List T) → Bool := sld fun rs => rs.all mAggOk
def mSorted : List (List T) → Bool := sld fun rs => (List.range rs.length).all fun i => decide (i = 0) || mAhead (rs.getD (i - 1) []) (rs.getD i [])
def mShardOk : List T → Bool := sld fun r => decide ((r.getD 0 .no).rws.length ≤ 40) && mAreAggs (r.getD 0 .no).rws && mSorted (r.getD 0 .no).rws && mIn (cI r 1) (-1) 1000000 && mIn (cI r 2) 0 1000000000 && mIn (cI r 3) 0 1000000000
def mBadIn : List T → Bool := sld fun r => !mMsgOk r false
def mBadQ : List T → Bool := sld fun r => !mMsgOk r true
def mBadConn : List T → Bool := sld fun r => !(mSrcOk (r.drop 2) && mDecOk (r.take 2))
def mQs (ts : List T) (k : Nat) : List (List T) := (((ts.getD 13 .no).rws.getD k []).getD 0 .no).rws
def mQue : List T → Nat → Bool := sld fun ts k => (mQs ts k).all fun r => mMsgOk r true
def mShd : List T → Nat → Bool := sld fun ts k => mShardOk ((ts.getD 14 .no).rws.getD k []) && decide (((((ts.getD 14 .no).rws.getD k []).getD 0 .no).rws.length : Int) ≤ cI ts 8) && decide (cI ((ts.getD 14 .no).rws.getD k []) 1 ≤ cI ((ts.getD 17 .no).rws.getD k []) 0) && decide (cI ((ts.getD 17 .no).rws.getD k []) 0 ≤ cI ts 16)
def mHead : List T → Bool := sld fun ts => mSetupOk (ts.take 9) && mIn (cI ts 10) 0 2 && decide (((ts.getD 13 .no).rws.length : Int) = cI ts 1) && decide (((ts.getD 14 .no).rws.length : Int) = cI ts 1) && decide (((ts.getD 17 .no).rws.length : Int) = cI ts 1) && decide (((ts.getD 12 .no).rws.length : Int) ≤ cI ts 5) && decide (((ts.getD 15 .no).rws.length : Int) ≤ cI ts 7)
def mSafe : List T → Bool := sld fun ts => mHead ts && ((ts.getD 12 .no).rws.all fun r => mMsgOk r false) &&
 ((List.range (ts.getD 13 .no).rws.length).all fun k => decide (((mQs ts k).length : Int) ≤ cI ts 6) && (mQue ts k && mShd ts k)) && (ts.getD 11 .no).rws.all (fun r => !mBadConn r)
def mIdx (q : List T → Bool) : List (List T) → Int := fun rs => match rs.findIdx? q with | some i => i | none => -1
def sIdx : (List T → Bool) → List (List T) → Int := sld mIdx
def sAny : (List T → Bool) → List (List T) → Bool := sld fun q rs => rs.any q

def gIn : GFn
 | [aI a, aI b, aI c], [] => (true, oB (mIn a b c))
 | _, _ => gNo
def gIn1 (lo hi : Int) : GFn
 | [aI a], [] => (true, oB (mIn a lo hi))
 | _, _ => gNo
def gR (m : List T → Bool) (p : List T → Bool) : GFn
 | [.ag ts], [] => (ts.all roT && p ts, oB (m ts))
 | _, _ => gNo
def sShR : List KT → List T → Bool := sld shR
def gMsgOk : GFn
 | [.ag ts, aB c], [] => (ts.all roT && sShR kMsg ts, oB (mMsgOk ts c))
 | _, _ => gNo
def gAhead : GFn
 | [.ag a, .ag b], [] => (a.all roT && b.all roT && sShR kAggT a && sShR kAggT b, oB (mAhead a b))
 | _, _ => gNo
def gNaN : GFn
 | [aI a], [] => (true, oB false)
 | _, _ => gNo
def gCmp : GFn
 | [aI a, aI b], [] => (true, oI (mCmp a b))
 | _, _ => gNo
def gOr : GFn
 | [.c (.sl .ro 1 [[tI a], [tI b]])], [] => (true, oI (mOr a b))
 | _, _ => gNo
def gOrder : GFn
 | [.ag a, .ag b], [] => (a.all roT && b.all roT && sShR kAggT a && sShR kAggT b, oI (mOrder a b))
 | _, _ => gNo
def gIdx (row : List KT) (l : List (Nat × (List T → Bool))) : GFn
 | [.c (.sl .ro sz rs), .fn f []], [] => match l.find? (fun x => Nat.beq x.1 f) with
  | some x => (Nat.beq sz row.length && pEq row rs, oI (sIdx x.2 rs))
  | none => gNo
 | _, _ => gNo
def gCont (row : List KT) (l : List (Nat × (List T → Bool))) : GFn
 | [.c (.sl .ro sz rs), .fn f []], [] => match l.find? (fun x => Nat.beq x.1 f) with
  | some x => (Nat.beq sz row.length && pEq row rs, oB (sAny x.2 rs))
  | none => gNo
 | _, _ => gNo
def gAggs (m : List (List T) → Bool) : GFn
 | [.c (.sl .ro sz rs)], [] => (Nat.beq sz 6 && pEq kAggT rs, oB (m rs))
 | _, _ => gNo
noncomputable def ET45 : Env := EE Go.Proofs.Tryd.prog md0 (fun _ => .own) TL45
noncomputable def TL46 : List (Nat × GFn) := (37, gIn) :: TL45
noncomputable def ET46 : Env := EE Go.Proofs.Tryd.prog md0 (fun _ => .own) TL46
noncomputable def TL47 : List (Nat × GFn) := (47, gIn) :: TL46
noncomputable def ET47 : Env := EE Go.Proofs.Tryd.prog md0 (fun _ => .own) TL47
noncomputable def TL48 : List (Nat × GFn) := (64, gIn1 0 65535) :: TL47
noncomputable def ET48 : Env := EE Go.Proofs.Tryd.prog md0 (fun _ => .own) TL48
noncomputable def TL49 : List (Nat × GFn) := (63, gIn1 1 4) :: TL48
noncomputable def ET49 : Env := EE Go.Proofs.Tryd.prog md0 (fun _ => .own) TL49
noncomputable def TL50 : List (Nat × GFn) := (20, gR mSetupOk (fun ts => sShR kSetup ts)) :: TL49
noncomputable def ET50 : Env := EE Go.Proofs.Tryd.prog md0 (fun _ => .own) TL50
noncomputable def TL51 : List (Nat × GFn) := (27, gR mSetupOk (fun ts => sShR kSetup ts)) :: TL50

end
end Go.Vm
