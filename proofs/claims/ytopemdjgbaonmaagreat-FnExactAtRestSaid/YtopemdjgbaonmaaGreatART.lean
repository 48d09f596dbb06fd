/- AtRest: the table -/
import Derived.Test.YtopemdjgbaonmaaGreatDBT
import Derived.Test.YtopemdjgbaonmaaGreatOkT
namespace Go.Vm
set_option linter.unusedVariables false
noncomputable section
def mWE (a n : Int) : Int := bif mIn a 0 1000000 && mIn n 1 1000000 then (a + 1) * n - 1 else -1
def sWE : Int → Int → Int := sld mWE
def mCa (m n : Int) (r : List T) : Bool := decide (mWE (cI r 0) n ≤ m)
def sCa : Int → Int → List T → Bool := sld mCa
def sCi : Int → Int → List (List T) → Int := sld fun m n rs => mIdx (fun r => !mCa m n r) rs
def mFil (m n : Int) (rs : List (List T)) : List (List T) := rs.filter (mCa m n)
def sFil : Int → Int → List (List T) → List (List T) := sld mFil
def mCo (r : List T) (n : Int) : List (List T) := bif mShardOk r && mIn n 1 1000000 then mFil (cI r 1) n (r.getD 0 .no).rws else []
def sCo : List T → Int → List (List T) := sld mCo
def pCns : List (List T) → Bool := sld fun rs => rs.all pCn && decide (rs.length ≤ 1048576)
def mQuiet : List T → Bool := sld fun ts => !((ts.getD 11 .no).rws.any mHas) && decide ((ts.getD 12 .no).rws.length = 0)
def mRest1 (ts : List T) (k : Nat) : Bool := decide ((mCo ((ts.getD 14 .no).rws.getD k []) (cI ts 2)).length = 0) && decide (cI ((ts.getD 17 .no).rws.getD k []) 0 = cI ts 16)
def mRest : List T → Bool := sld fun ts => mSafe ts && mQuiet ts && decide (mLens (ts.getD 13 .no).rws = 0) && decide ((ts.getD 15 .no).rws.length = 0) && (List.range (ts.getD 14 .no).rws.length).all (mRest1 ts)
def gWE : GFn
 | [aI a, aI n], [] => (true, oI (sWE a n))
 | _, _ => gNo
def gCa : GFn
 | [.pt x z 0 0, .ag r, aI n], [.box true [.sl .ro 6 a0, .im (.int .i64 m), .im (.int .i64 c1), .im (.int .i64 c2)]] => (Nat.beq x 20000 && Nat.beq z 0 && sShR kAggT r, ⟨[aB (sCa m n r)], [], [.box true []]⟩)
 | _, _ => gNo
def gCc : GFn
 | [.ag r, .pt x z 0 0, .pt x' z' 0 0], [.box true [.sl .ro 6 a0, .im (.int .i64 m), .im (.int .i64 c1), .im (.int .i64 c2)], .box true [.im (.int .i64 n)]] =>
  (Nat.beq x 20000 && Nat.beq z 0 && (Nat.beq x' 20001 && Nat.beq z' 0) && sShR kAggT r, ⟨[aB (!sCa m n r)], [], [.box true [], .box true []]⟩)
 | _, _ => gNo
def gCi (f : Nat) : GFn
 | [.c (.sl .ro sz rs), .fn f' [.pt x z 0 0, .pt x' z' 0 0]], [.box true [.sl .ro 6 a0, .im (.int .i64 m), .im (.int .i64 c1), .im (.int .i64 c2)], .box true [.im (.int .i64 n)]] =>
  (Nat.beq sz 6 && Nat.beq f' f && (Nat.beq x 20000 && Nat.beq z 0 && (Nat.beq x' 20001 && Nat.beq z' 0)) && pEq kAggT rs, ⟨[aI (sCi m n rs)], [], [.box true [], .box true []]⟩)
 | _, _ => gNo
def gDf (f : Nat) : GFn
 | [.c (.sl .own sz rs), .fn f' [.pt x z 0 0, .pt x' z' 0 0]], [.box true [.sl .ro 6 a0, .im (.int .i64 m), .im (.int .i64 c1), .im (.int .i64 c2)], .box true [.im (.int .i64 n)]] =>
  (Nat.beq sz 6 && Nat.beq f' f && (Nat.beq x 20000 && Nat.beq z 0 && (Nat.beq x' 20001 && Nat.beq z' 0)) && pEq kAggT rs, ⟨[.c (.sl .own 6 (sFil m n rs))], [], [.box true [], .box true []]⟩)
 | _, _ => gNo
def gCo : GFn
 | [.ag ts, aI n], [] => (ts.all roT && pEqR kShard ts, ⟨[.c (.sl .own 6 (sCo ts n))], [], []⟩)
 | _, _ => gNo
def gHc : GFn
 | [.ag ts], [] => (ts.all roT && pCn ts, oB (sHas ts))
 | _, _ => gNo
def gHi (f : Nat) : GFn
 | [.c (.sl .ro sz rs), .fn f' []], [] => (Nat.beq sz 7 && Nat.beq f' f && pCns rs, oI (sIdx sHas rs))
 | _, _ => gNo
def gHa (f : Nat) : GFn
 | [.c (.sl .ro sz rs), .fn f' []], [] => (Nat.beq sz 7 && Nat.beq f' f && pCns rs, oB (sAny sHas rs))
 | _, _ => gNo
def gDry : GFn
 | [.pt n z 0 0], [.box true ts] => (Nat.beq n 20000 && Nat.beq z 0 && ts.all roT && (pToR kEngine ts && pWf ts), ⟨[aB (!sAny sHas (ts.getD 11 .no).rws)], [], [.box true []]⟩)
 | _, _ => gNo
noncomputable def ET130 : Env := EE Go.Proofs.Tryz.prog md0 (fun _ => .own) TL130
noncomputable def TL131 : List (Nat × GFn) := (95, gWE) :: TL130
noncomputable def ET131 : Env := EE Go.Proofs.Tryz.prog md0 (fun _ => .own) TL131
noncomputable def TL132 : List (Nat × GFn) := (129, gWE) :: TL131
noncomputable def ET132 : Env := EE Go.Proofs.Tryz.prog md0 (fun _ => .own) TL132
noncomputable def TL133 : List (Nat × GFn) := (102, gCa) :: TL132
noncomputable def ET133 : Env := EE Go.Proofs.Tryz.prog md0 (fun _ => .own) TL133
noncomputable def TL134 : List (Nat × GFn) := (101, gCc) :: TL133
noncomputable def ET134 : Env := EE Go.Proofs.Tryz.prog md0 (fun _ => .own) TL134
noncomputable def TL135 : List (Nat × GFn) := (128, gCi 101) :: TL134
noncomputable def ET135 : Env := EE Go.Proofs.Tryz.prog md0 (fun _ => .own) TL135
noncomputable def TL136 : List (Nat × GFn) := (99, gDf 101) :: TL135
noncomputable def ET136 : Env := EE Go.Proofs.Tryz.prog md0 (fun _ => .own) TL136
noncomputable def TL137 : List (Nat × GFn) := (60, gCo) :: TL136
noncomputable def ET137 : Env := EE Go.Proofs.Tryz.prog md0 (fun _ => .own) TL137
noncomputable def TL138 : List (Nat × GFn) := (62, gCo) :: TL137
noncomputable def ET138 : Env := EE Go.Proofs.Tryz.prog md0 (fun _ => .own) TL138
noncomputable def TL139 : List (Nat × GFn) := (96, gHc) :: TL138
noncomputable def ET139 : Env := EE Go.Proofs.Tryz.prog md0 (fun _ => .own) TL139
noncomputable def TL140 : List (Nat × GFn) := (118, gHi 96) :: TL139
noncomputable def ET140 : Env := EE Go.Proofs.Tryz.prog md0 (fun _ => .own) TL140
noncomputable def TL141 : List (Nat × GFn) := (83, gHa 96) :: TL140
noncomputable def ET141 : Env := EE Go.Proofs.Tryz.prog md0 (fun _ => .own) TL141
noncomputable def TL142 : List (Nat × GFn) := (61, gDry) :: TL141
noncomputable def ET142 : Env := EE Go.Proofs.Tryz.prog md0 (fun _ => .own) TL142
noncomputable def TL143 : List (Nat × GFn) := (59, gR mQuiet (fun ts => pToR kEngine ts && pWf ts)) :: TL142
noncomputable def ET143 : Env := EE Go.Proofs.Tryz.prog md0 (fun _ => .own) TL143
noncomputable def TL144 : List (Nat × GFn) := (17, gR mRest (fun ts => pToR kEngine ts && pWf ts)) :: TL143
noncomputable def ET144 : Env := EE Go.Proofs.Tryz.prog md0 (fun _ => .own) TL144
noncomputable def TL145 : List (Nat × GFn) := (18, gR mRest (fun ts => pToR kEngine ts && pWf ts)) :: TL144

end
end Go.Vm
