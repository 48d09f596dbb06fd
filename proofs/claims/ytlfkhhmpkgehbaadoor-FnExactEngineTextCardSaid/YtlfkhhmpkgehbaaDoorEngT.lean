/- the table of the data helpers -/
import Derived.Test.YtlfkhhmpkgehbaaDoorDa4
import Derived.Test.YtlfkhhmpkgehbaaDoorProg
namespace Go.Vm
set_option linter.unusedVariables false
noncomputable section
/-- the marking helpers write what they are handed -/
def md0 : FuncId → Option (List Mode) := fun f =>
 bif Nat.beq f 28 then some [.ptrR] else
 bif Nat.beq f 48 then some [.ptrR] else
 bif Nat.beq f 49 then some [.ptrR] else
 none
noncomputable def TL0 : List (Nat × GFn) := []
noncomputable def ET0 : Env := EE Go.Proofs.Tryd.prog md0 (fun _ => .own) TL0
noncomputable def TL1 : List (Nat × GFn) := (109, gSzS [kB]) :: TL0
noncomputable def ET1 : Env := EE Go.Proofs.Tryd.prog md0 (fun _ => .own) TL1
noncomputable def TL2 : List (Nat × GFn) := (90, gSzR kDecoder) :: TL1
noncomputable def ET2 : Env := EE Go.Proofs.Tryd.prog md0 (fun _ => .own) TL2
noncomputable def TL3 : List (Nat × GFn) := (69, gSzR kConn) :: TL2
noncomputable def ET3 : Env := EE Go.Proofs.Tryd.prog md0 (fun _ => .own) TL3
noncomputable def TL4 : List (Nat × GFn) := (31, gSzS kConn) :: TL3
noncomputable def ET4 : Env := EE Go.Proofs.Tryd.prog md0 (fun _ => .own) TL4
noncomputable def TL5 : List (Nat × GFn) := (32, gSzS kMsg) :: TL4
noncomputable def ET5 : Env := EE Go.Proofs.Tryd.prog md0 (fun _ => .own) TL5
noncomputable def TL6 : List (Nat × GFn) := (33, gSzS [.sl kMsg]) :: TL5
noncomputable def ET6 : Env := EE Go.Proofs.Tryd.prog md0 (fun _ => .own) TL6
noncomputable def TL7 : List (Nat × GFn) := (35, gSzS kAggT) :: TL6
noncomputable def ET7 : Env := EE Go.Proofs.Tryd.prog md0 (fun _ => .own) TL7
noncomputable def TL8 : List (Nat × GFn) := (70, gSzR kShard) :: TL7
noncomputable def ET8 : Env := EE Go.Proofs.Tryd.prog md0 (fun _ => .own) TL8
noncomputable def TL9 : List (Nat × GFn) := (34, gSzS kShard) :: TL8
noncomputable def ET9 : Env := EE Go.Proofs.Tryd.prog md0 (fun _ => .own) TL9
noncomputable def TL10 : List (Nat × GFn) := (36, gSzS [kI]) :: TL9
noncomputable def ET10 : Env := EE Go.Proofs.Tryd.prog md0 (fun _ => .own) TL10
noncomputable def TL11 : List (Nat × GFn) := (10, gSzR kEngine) :: TL10
noncomputable def ET11 : Env := EE Go.Proofs.Tryd.prog md0 (fun _ => .own) TL11
noncomputable def TL12 : List (Nat × GFn) := (110, gToS [kB]) :: TL11
noncomputable def ET12 : Env := EE Go.Proofs.Tryd.prog md0 (fun _ => .own) TL12
noncomputable def TL13 : List (Nat × GFn) := (91, gToR kDecoder) :: TL12
noncomputable def ET13 : Env := EE Go.Proofs.Tryd.prog md0 (fun _ => .own) TL13
noncomputable def TL14 : List (Nat × GFn) := (92, gToR kSource) :: TL13
noncomputable def ET14 : Env := EE Go.Proofs.Tryd.prog md0 (fun _ => .own) TL14
noncomputable def TL15 : List (Nat × GFn) := (71, gToR kConn) :: TL14
noncomputable def ET15 : Env := EE Go.Proofs.Tryd.prog md0 (fun _ => .own) TL15
noncomputable def TL16 : List (Nat × GFn) := (40, gToS kConn) :: TL15
noncomputable def ET16 : Env := EE Go.Proofs.Tryd.prog md0 (fun _ => .own) TL16
noncomputable def TL17 : List (Nat × GFn) := (93, gToR kFrame) :: TL16
noncomputable def ET17 : Env := EE Go.Proofs.Tryd.prog md0 (fun _ => .own) TL17
noncomputable def TL18 : List (Nat × GFn) := (72, gToR kMsg) :: TL17
noncomputable def ET18 : Env := EE Go.Proofs.Tryd.prog md0 (fun _ => .own) TL18
noncomputable def TL19 : List (Nat × GFn) := (41, gToS kMsg) :: TL18
noncomputable def ET19 : Env := EE Go.Proofs.Tryd.prog md0 (fun _ => .own) TL19
noncomputable def TL20 : List (Nat × GFn) := (42, gToS [.sl kMsg]) :: TL19
noncomputable def ET20 : Env := EE Go.Proofs.Tryd.prog md0 (fun _ => .own) TL20
noncomputable def TL21 : List (Nat × GFn) := (74, gToR kAggT) :: TL20
noncomputable def ET21 : Env := EE Go.Proofs.Tryd.prog md0 (fun _ => .own) TL21
noncomputable def TL22 : List (Nat × GFn) := (44, gToS kAggT) :: TL21
noncomputable def ET22 : Env := EE Go.Proofs.Tryd.prog md0 (fun _ => .own) TL22
noncomputable def TL23 : List (Nat × GFn) := (73, gToR kShard) :: TL22
noncomputable def ET23 : Env := EE Go.Proofs.Tryd.prog md0 (fun _ => .own) TL23
noncomputable def TL24 : List (Nat × GFn) := (43, gToS kShard) :: TL23
noncomputable def ET24 : Env := EE Go.Proofs.Tryd.prog md0 (fun _ => .own) TL24
noncomputable def TL25 : List (Nat × GFn) := (45, gToS [kI]) :: TL24
noncomputable def ET25 : Env := EE Go.Proofs.Tryd.prog md0 (fun _ => .own) TL25
noncomputable def TL26 : List (Nat × GFn) := (8, gToR kSetup) :: TL25
noncomputable def ET26 : Env := EE Go.Proofs.Tryd.prog md0 (fun _ => .own) TL26
noncomputable def TL27 : List (Nat × GFn) := (46, gToR kTally) :: TL26
noncomputable def ET27 : Env := EE Go.Proofs.Tryd.prog md0 (fun _ => .own) TL27
noncomputable def TL28 : List (Nat × GFn) := (12, gToR kEngine) :: TL27
noncomputable def ET28 : Env := EE Go.Proofs.Tryd.prog md0 (fun _ => .own) TL28
noncomputable def TL29 : List (Nat × GFn) := (111, gEqS [kB]) :: TL28
noncomputable def ET29 : Env := EE Go.Proofs.Tryd.prog md0 (fun _ => .own) TL29
noncomputable def TL30 : List (Nat × GFn) := (94, gEqR kDecoder) :: TL29
noncomputable def ET30 : Env := EE Go.Proofs.Tryd.prog md0 (fun _ => .own) TL30
noncomputable def TL31 : List (Nat × GFn) := (95, gEqR kSource) :: TL30
noncomputable def ET31 : Env := EE Go.Proofs.Tryd.prog md0 (fun _ => .own) TL31
noncomputable def TL32 : List (Nat × GFn) := (75, gEqR kConn) :: TL31
noncomputable def ET32 : Env := EE Go.Proofs.Tryd.prog md0 (fun _ => .own) TL32
noncomputable def TL33 : List (Nat × GFn) := (50, gEqS kConn) :: TL32
noncomputable def ET33 : Env := EE Go.Proofs.Tryd.prog md0 (fun _ => .own) TL33
noncomputable def TL34 : List (Nat × GFn) := (96, gEqR kFrame) :: TL33
noncomputable def ET34 : Env := EE Go.Proofs.Tryd.prog md0 (fun _ => .own) TL34
noncomputable def TL35 : List (Nat × GFn) := (76, gEqR kMsg) :: TL34
noncomputable def ET35 : Env := EE Go.Proofs.Tryd.prog md0 (fun _ => .own) TL35
noncomputable def TL36 : List (Nat × GFn) := (51, gEqS kMsg) :: TL35
noncomputable def ET36 : Env := EE Go.Proofs.Tryd.prog md0 (fun _ => .own) TL36
noncomputable def TL37 : List (Nat × GFn) := (52, gEqS [.sl kMsg]) :: TL36
noncomputable def ET37 : Env := EE Go.Proofs.Tryd.prog md0 (fun _ => .own) TL37
noncomputable def TL38 : List (Nat × GFn) := (78, gEqR kAggT) :: TL37
noncomputable def ET38 : Env := EE Go.Proofs.Tryd.prog md0 (fun _ => .own) TL38
noncomputable def TL39 : List (Nat × GFn) := (54, gEqS kAggT) :: TL38
noncomputable def ET39 : Env := EE Go.Proofs.Tryd.prog md0 (fun _ => .own) TL39
noncomputable def TL40 : List (Nat × GFn) := (77, gEqR kShard) :: TL39
noncomputable def ET40 : Env := EE Go.Proofs.Tryd.prog md0 (fun _ => .own) TL40
noncomputable def TL41 : List (Nat × GFn) := (53, gEqS kShard) :: TL40
noncomputable def ET41 : Env := EE Go.Proofs.Tryd.prog md0 (fun _ => .own) TL41
noncomputable def TL42 : List (Nat × GFn) := (55, gEqS [kI]) :: TL41
noncomputable def ET42 : Env := EE Go.Proofs.Tryd.prog md0 (fun _ => .own) TL42
noncomputable def TL43 : List (Nat × GFn) := (17, gEqR kSetup) :: TL42
noncomputable def ET43 : Env := EE Go.Proofs.Tryd.prog md0 (fun _ => .own) TL43
noncomputable def TL44 : List (Nat × GFn) := (56, gEqR kTally) :: TL43
noncomputable def ET44 : Env := EE Go.Proofs.Tryd.prog md0 (fun _ => .own) TL44
noncomputable def TL45 : List (Nat × GFn) := (14, gEqR kEngine) :: TL44

end
end Go.Vm
