/- InFlight: its table -/
import Derived.Test.YtmfbonhdjpmbkaaEngT
namespace Go.Vm
set_option linter.unusedVariables false
noncomputable section
def mCnt (rs : List (List T)) : Nat := (rs.filter fun r => decide (cI r 0 = 1)).length
def sFlight : List T → Int := sld fun ts => ((mCnt (ts.getD 12 .no).rws + ((ts.getD 13 .no).rws.map fun r => mCnt (r.getD 0 .no).rws).sum : Nat) : Int)
def gEI (m : List T → Int) : GFn
  | [.ag ts], [] => (ts.all roT && pToR kEngine ts, oI (m ts))
  | _, _ => gNo
noncomputable def ET45 : Env := EE Go.Proofs.Try.prog md0 (fun _ => .own) TL45
noncomputable def TL46 : List (Nat × GFn) := (36, gEI sFlight) :: TL45
noncomputable def ET46 : Env := EE Go.Proofs.Try.prog md0 (fun _ => .own) TL46
noncomputable def TL47 : List (Nat × GFn) := (38, gEI sFlight) :: TL46
noncomputable def ET47 : Env := EE Go.Proofs.Try.prog md0 (fun _ => .own) TL47

end
end Go.Vm
