/- texts of engines: the table -/
import Derived.Test.YtlfkhhmpkgehbaaDoorSTT
import Derived.Test.YtlfkhhmpkgehbaaDoorOkT
namespace Go.Vm
open Go.Proofs
set_option linter.unusedVariables false
noncomputable section
def mLens (rs : List (List T)) : Nat := (rs.map fun r => (r.getD 0 .no).rws.length).sum
def sLens : List (List T) → Int := sld fun rs => ((mLens rs : Nat) : Int)
def nums (ts : List T) : List Int := [cI ts 16, ((ts.getD 12 .no).rws.length : Nat), ((mLens (ts.getD 13 .no).rws : Nat) : Int), ((mLens (ts.getD 14 .no).rws : Nat) : Int), ((ts.getD 15 .no).rws.length : Nat), cI ts 18, cI ts 19, cI ts 20, cI ts 21]
def names : List (List UInt8) := [[114, 117, 110, 115], [100, 114, 97, 105, 110, 115], [100, 114, 97, 105, 110, 101, 100]]
def labels : List (List UInt8) := [[32, 109, 97, 114, 107, 32], [32, 105, 110, 32], [32, 113, 117, 101, 117, 101, 100, 32], [32, 104, 101, 108, 100, 32], [32, 111, 117, 116, 32], [32, 114, 101, 97, 100, 32], [32, 116, 97, 107, 101, 110, 32], [32, 108, 97, 116, 101, 32], [32, 111, 118, 101, 114, 32]]
def eL (a : List UInt8) (L : List (List UInt8)) (V : List Int) (i : Nat) : List UInt8 := a ++ (((L.zip V).take i).map fun p => p.1 ++ Lib.itoa p.2).flatten
def sET : List T → ByteArray := sld fun ts => bif mIn (cI ts 10) 0 2 then ⟨(eL (names.getD (cI ts 10).toNat []) labels (nums ts) 9).toArray⟩ else ⟨#[]⟩
def gQd : GFn
 | [.ag ts], [] => (ts.all roT && pToR kEngine ts, oI (sLens (ts.getD 13 .no).rws))
 | _, _ => gNo
def gQdP : GFn
 | [.pt n z 0 0], [.box true ts] => (Nat.beq n 20000 && Nat.beq z 0 && ts.all roT && pToR kEngine ts, ⟨[aI (sLens (ts.getD 13 .no).rws)], [], [.box true []]⟩)
 | _, _ => gNo
def gHd : GFn
 | [.ag ts], [] => (ts.all roT && pToR kEngine ts, oI (sLens (ts.getD 14 .no).rws))
 | _, _ => gNo
def gHdP : GFn
 | [.pt n z 0 0], [.box true ts] => (Nat.beq n 20000 && Nat.beq z 0 && ts.all roT && pToR kEngine ts, ⟨[aI (sLens (ts.getD 14 .no).rws)], [], [.box true []]⟩)
 | _, _ => gNo
def pWf : List T → Bool := sld wfR
def gET : GFn
 | [.ag ts], [] => (ts.all roT && pToR kEngine ts && pWf ts, ⟨[aS (sET ts)], [], []⟩)
 | _, _ => gNo
noncomputable def ET59 : Env := EE Go.Proofs.Tryd.prog md0 (fun _ => .own) TL59
noncomputable def TL60 : List (Nat × GFn) := (38, gQd) :: TL59
noncomputable def ET60 : Env := EE Go.Proofs.Tryd.prog md0 (fun _ => .own) TL60
noncomputable def TL61 : List (Nat × GFn) := (48, gQdP) :: TL60
noncomputable def ET61 : Env := EE Go.Proofs.Tryd.prog md0 (fun _ => .own) TL61
noncomputable def TL62 : List (Nat × GFn) := (39, gHd) :: TL61
noncomputable def ET62 : Env := EE Go.Proofs.Tryd.prog md0 (fun _ => .own) TL62
noncomputable def TL63 : List (Nat × GFn) := (49, gHdP) :: TL62
noncomputable def ET63 : Env := EE Go.Proofs.Tryd.prog md0 (fun _ => .own) TL63
noncomputable def TL64 : List (Nat × GFn) := (11, gET) :: TL63
noncomputable def ET64 : Env := EE Go.Proofs.Tryd.prog md0 (fun _ => .own) TL64
noncomputable def TL65 : List (Nat × GFn) := (13, gET) :: TL64

end
end Go.Vm
