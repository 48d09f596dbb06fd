/- InFlight: its table -/
import Derived.Test.YtmoebcnkdccheaaOkT
namespace Go.Vm
set_option linter.unusedVariables false
noncomputable section
def mCnt (rs : List (List T)) : Nat := (rs.filter fun r => decide (cI r 0 = 1)).length
def sFlight : List T → Int := sld fun ts => ((mCnt (ts.getD 12 .no).rws + ((ts.getD 13 .no).rws.map fun r => mCnt (r.getD 0 .no).rws).sum : Nat) : Int)
def gEI (m : List T → Int) : GFn
  | [.ag ts], [] => (ts.all roT && pToR kEngine ts, oI (m ts))
  | _, _ => gNo
noncomputable def ET92 : Env := EE Go.Proofs.Try.prog md0 (fun _ => .own) TL92
noncomputable def TL93 : List (Nat × GFn) := (22, gEI sFlight) :: TL92
noncomputable def ET93 : Env := EE Go.Proofs.Try.prog md0 (fun _ => .own) TL93
noncomputable def TL94 : List (Nat × GFn) := (24, gEI sFlight) :: TL93

end
end Go.Vm
