/- the table of the marking helpers -/
import Derived.Test.YtmfbonhdjpmbkaaOkT
import Derived.Test.YtmfbonhdjpmbkaaDa4
namespace Go.Vm
set_option linter.unusedVariables false
noncomputable section
noncomputable def ET68 : Env := EE Go.Proofs.Try.prog md0 (fun _ => .own) TL68
noncomputable def TL69 : List (Nat × GFn) := (122, gMkS [kB]) :: TL68
noncomputable def ET69 : Env := EE Go.Proofs.Try.prog md0 (fun _ => .own) TL69
noncomputable def TL70 : List (Nat × GFn) := (20, gMkS [kI]) :: TL69
noncomputable def ET70 : Env := EE Go.Proofs.Try.prog md0 (fun _ => .own) TL70
noncomputable def TL71 : List (Nat × GFn) := (47, gMkS kAggT) :: TL70
noncomputable def ET71 : Env := EE Go.Proofs.Try.prog md0 (fun _ => .own) TL71
noncomputable def TL72 : List (Nat × GFn) := (94, gMkS kMsg) :: TL71
noncomputable def ET72 : Env := EE Go.Proofs.Try.prog md0 (fun _ => .own) TL72
noncomputable def TL73 : List (Nat × GFn) := (95, gMkS [.sl kMsg]) :: TL72
noncomputable def ET73 : Env := EE Go.Proofs.Try.prog md0 (fun _ => .own) TL73
noncomputable def TL74 : List (Nat × GFn) := (93, gMkS kConn) :: TL73
noncomputable def ET74 : Env := EE Go.Proofs.Try.prog md0 (fun _ => .own) TL74
noncomputable def TL75 : List (Nat × GFn) := (96, gMkS kShard) :: TL74
noncomputable def ET75 : Env := EE Go.Proofs.Try.prog md0 (fun _ => .own) TL75
noncomputable def TL76 : List (Nat × GFn) := (43, gMkE kEngine) :: TL75
noncomputable def ET76 : Env := EE Go.Proofs.Try.prog md0 (fun _ => .own) TL76
noncomputable def TL77 : List (Nat × GFn) := (123, gHeS [kB]) :: TL76
noncomputable def ET77 : Env := EE Go.Proofs.Try.prog md0 (fun _ => .own) TL77
noncomputable def TL78 : List (Nat × GFn) := (21, gHeS [kI]) :: TL77
noncomputable def ET78 : Env := EE Go.Proofs.Try.prog md0 (fun _ => .own) TL78
noncomputable def TL79 : List (Nat × GFn) := (48, gHeS kAggT) :: TL78
noncomputable def ET79 : Env := EE Go.Proofs.Try.prog md0 (fun _ => .own) TL79
noncomputable def TL80 : List (Nat × GFn) := (98, gHeS kMsg) :: TL79
noncomputable def ET80 : Env := EE Go.Proofs.Try.prog md0 (fun _ => .own) TL80
noncomputable def TL81 : List (Nat × GFn) := (99, gHeS [.sl kMsg]) :: TL80
noncomputable def ET81 : Env := EE Go.Proofs.Try.prog md0 (fun _ => .own) TL81
noncomputable def TL82 : List (Nat × GFn) := (97, gHeS kConn) :: TL81
noncomputable def ET82 : Env := EE Go.Proofs.Try.prog md0 (fun _ => .own) TL82
noncomputable def TL83 : List (Nat × GFn) := (100, gHeS kShard) :: TL82
noncomputable def ET83 : Env := EE Go.Proofs.Try.prog md0 (fun _ => .own) TL83
noncomputable def TL84 : List (Nat × GFn) := (44, gHeE kEngine) :: TL83

end
end Go.Vm
