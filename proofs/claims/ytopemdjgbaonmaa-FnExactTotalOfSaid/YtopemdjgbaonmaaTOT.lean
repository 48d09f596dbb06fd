/- TotalOf: the table -/
import Derived.Test.YtopemdjgbaonmaaClT
import Derived.Test.YtopemdjgbaonmaaOkT
namespace Go.Vm
set_option linter.unusedVariables false
noncomputable section
def mCap (n : Int) : Int := if 1000000000 < n then 1000000000 else if n < -1000000000 then -1000000000 else n
def sCap : Int → Int := sld mCap
def mTC (n : Int) (rs : List (List T)) : Int := rs.foldl (fun n r => bif mAggOk r then mCap (n + cI r 2) else n) n
def sTC : List (List T) → Int := sld fun rs => mTC 0 rs
def mAll (ts : List T) : List (List T) := (ts.getD 15 .no).rws ++ ((ts.getD 14 .no).rws.map fun r => (r.getD 0 .no).rws).flatten
def sTO : List T → Int := sld fun ts => bif mSafe ts then mTC 0 (mAll ts) else -1
def gCap : GFn
  | [aI a], [] => (true, oI (sCap a))
  | _, _ => gNo
def gTC : GFn
  | [.c (.sl .ro 6 rs)], [] => (pEq kAggT rs, oI (sTC rs))
  | _, _ => gNo
def gEI (m : List T → Int) : GFn
  | [.ag ts], [] => (ts.all roT && pToR kEngine ts, oI (m ts))
  | _, _ => gNo
noncomputable def ET95 : Env := EE Go.Proofs.Try.prog md0 (fun _ => .own) TL95
noncomputable def TL96 : List (Nat × GFn) := (43, gCap) :: TL95
noncomputable def ET96 : Env := EE Go.Proofs.Try.prog md0 (fun _ => .own) TL96
noncomputable def TL97 : List (Nat × GFn) := (42, gTC) :: TL96
noncomputable def ET97 : Env := EE Go.Proofs.Try.prog md0 (fun _ => .own) TL97
noncomputable def TL98 : List (Nat × GFn) := (53, gTC) :: TL97
noncomputable def ET98 : Env := EE Go.Proofs.Try.prog md0 (fun _ => .own) TL98
noncomputable def TL99 : List (Nat × GFn) := (10, gEI sTO) :: TL98
noncomputable def ET99 : Env := EE Go.Proofs.Try.prog md0 (fun _ => .own) TL99
noncomputable def TL100 : List (Nat × GFn) := (12, gEI sTO) :: TL99

end
end Go.Vm
