/- the law says true -/
import Derived.Test.YtlfkhhmpkgehbaaDoorLSetupTextN
import Derived.Test.YtlfkhhmpkgehbaaDoorSTB
namespace Go.Vm
set_option linter.unusedVariables false
set_option linter.unusedSimpArgs false
theorem sSeq_self (a : ByteArray) : sSeq a a = true := by rw [sSeq_eq]; simp
theorem sBeq_self' (a : Bool) : sBeq a a = true := by rw [sBeq_eq]; simp
theorem b_L {ts : List T} (hs : shR kSetup ts = true) : body lp0 ET59 3 [.ag ts] [] = some (.ret (oB true)) := by
 have h2 : sShR kSetup ts = true := by rw [sShR_eq]; exact hs
 obtain ⟨a0, a1, a2, a3, a4, a5, a6, a7, a8, rfl, _⟩ := row_Setup hs
 have h1 : pToR kSetup [tI a0, tI a1, tI a2, tI a3, tI a4, tI a5, tI a6, tI a7, tI a8] = true := by rw [pToR_eq, hs]; rfl
 rw [nf_3, h1, h2, sSeq_self, sBeq_self']
 simp only [Option.elim_some, vAt0, okVl_b, bV_b, Bool.and_true, Bool.not_true, cond_true, cond_false]
theorem mixed : Go.Proofs.Tryd.prog.follows .mixedOrders = true := by kernel_rfl
theorem law_FnExactSetupText (ts : List T) (h : okKR kSetup ts = true) :
  Sound Go.Proofs.Tryd.prog (modesOf ET59 3) 3 [.ag ts] [] ⟨[.c (.im (.bool true))], [], []⟩ ∧ ([.ag ts] : List A).all A.ro = true := by
 obtain ⟨h1, h2, h3, h4⟩ := okKR_sh h
 exact ⟨body_sound rfl mixed (good59.soundG mixed) (b_L h1), by simp only [List.all_cons, List.all_nil, Bool.and_true]; exact h3⟩
end Go.Vm
