/- Data as trees: what the laws' helpers come to. -/
import Derived.Test.YtlfkhhmpkgehbaaDoorDa0
namespace Go.Vm
set_option linter.unusedVariables false
set_option linter.unusedSimpArgs false
noncomputable section

def pSz : List KT → List (List T) → Int → Bool := sld fun row rs n => shRs row rs && lenRs reachBytes rs && decide (rs.length ≤ reachBytes) && decide (0 ≤ n) && decide (n ≤ 1048576)
def sSz : List (List T) → Int → Int := sld fun rs n => szT (.sl .own 0 rs) n
def pSzR : List KT → List T → Int → Bool := sld fun row ts n => shR row ts && lenR reachBytes ts && decide (0 ≤ n) && decide (n ≤ 1048576)
def sSzR : List T → Int → Int := sld fun ts n => szR ts n
/-- small enough to be copied -/
def pTo : List KT → List (List T) → Bool := sld fun row rs => shRs row rs && lenRs 1048576 rs && decide (rs.length ≤ 1048576)
def pToR : List KT → List T → Bool := sld fun row ts => shR row ts && lenR 1048576 ts
def sOwn : List (List T) → List (List T) := sld ownRs
def pEq : List KT → List (List T) → Bool := sld fun row rs => shRs row rs && lenRs reachBytes rs && decide (rs.length ≤ reachBytes)
def pEqR : List KT → List T → Bool := sld fun row ts => shR row ts && lenR reachBytes ts
open Classical in
def sEqS : List (List T) → List (List T) → Bool := sld fun a b => decide (ownRs a = ownRs b)
open Classical in
def sEqR : List T → List T → Bool := sld fun a b => decide (ownR a = ownR b)
theorem pSz_eq (row : List KT) (rs : List (List T)) (n : Int) : pSz row rs n = (shRs row rs && lenRs reachBytes rs && decide (rs.length ≤ reachBytes) && decide (0 ≤ n) && decide (n ≤ 1048576)) := by rw [pSz, sld_eq]
theorem sSz_eq (rs : List (List T)) (n : Int) : sSz rs n = szT (.sl .own 0 rs) n := by rw [sSz, sld_eq]
theorem pSzR_eq (row : List KT) (ts : List T) (n : Int) : pSzR row ts n = (shR row ts && lenR reachBytes ts && decide (0 ≤ n) && decide (n ≤ 1048576)) := by rw [pSzR, sld_eq]
theorem sSzR_eq (ts : List T) (n : Int) : sSzR ts n = szR ts n := by rw [sSzR, sld_eq]
theorem pTo_eq (row : List KT) (rs : List (List T)) : pTo row rs = (shRs row rs && lenRs 1048576 rs && decide (rs.length ≤ 1048576)) := by rw [pTo, sld_eq]
theorem pToR_eq (row : List KT) (ts : List T) : pToR row ts = (shR row ts && lenR 1048576 ts) := by rw [pToR, sld_eq]
theorem sOwn_eq (rs : List (List T)) : sOwn rs = ownRs rs := by rw [sOwn, sld_eq]
theorem pEq_eq (row : List KT) (rs : List (List T)) : pEq row rs = (shRs row rs && lenRs reachBytes rs && decide (rs.length ≤ reachBytes)) := by rw [pEq, sld_eq]
theorem pEqR_eq (row : List KT) (ts : List T) : pEqR row ts = (shR row ts && lenR reachBytes ts) := by rw [pEqR, sld_eq]
open Classical in
theorem sEqS_eq (a b : List (List T)) : sEqS a b = decide (ownRs a = ownRs b) := by rw [sEqS, sld_eq]
open Classical in
theorem sEqR_eq (a b : List T) : sEqR a b = decide (ownR a = ownR b) := by rw [sEqR, sld_eq]

open Classical in
theorem sEqS_iff {a b : List (List T)} : sEqS a b = true ↔ ownRs a = ownRs b := by rw [sEqS_eq]; exact decide_eq_true_iff
open Classical in
theorem sEqR_iff {a b : List T} : sEqR a b = true ↔ ownR a = ownR b := by rw [sEqR_eq]; exact decide_eq_true_iff

/-- copied, its rows sealed -/
def cpT : T → T
 | .sl _ sz rs => .sl .own sz (sOwn rs)
 | t => t
theorem cpT_eq (t : T) : cpT t = ownT t := by
 cases t with
 | sl f sz rs => rw [cpT, ownT, sOwn_eq]
 | im v => rw [cpT, ownT]; intro _ _ _ h; cases h; intro _ _ _ h; cases h
 | no => rw [cpT, ownT]; intro _ _ _ h; cases h; intro _ _ _ h; cases h
def cpR : List T → List T
 | [] => []
 | t :: ts => cpT t :: cpR ts
theorem cpR_eq : ∀ ts, cpR ts = ownR ts
 | [] => by rw [cpR, ownR]
 | t :: ts => by rw [cpR, ownR, cpT_eq, cpR_eq ts]

def gSzS (row : List KT) : GFn
 | [.c (.sl .ro sz rs), aI n], [] => (Nat.beq sz row.length && pSz row rs n, oI (sSz rs n))
 | _, _ => gNo
def gSzR (row : List KT) : GFn
 | [.ag ts, aI n], [] => (ts.all roT && pSzR row ts n, oI (sSzR ts n))
 | _, _ => gNo
def gToS (row : List KT) : GFn
 | [.c (.sl .ro sz rs)], [] => (Nat.beq sz row.length && pTo row rs, ⟨[.c (.sl .own sz (sOwn rs))], [], []⟩)
 | _, _ => gNo
def gToR (row : List KT) : GFn
 | [.ag ts], [] => (ts.all roT && pToR row ts, ⟨[.ag (cpR ts)], [], []⟩)
 | _, _ => gNo
def gEqS (row : List KT) : GFn
 | [.c (.sl .ro sz a), .c (.sl .ro sz' b)], [] => (Nat.beq sz row.length && Nat.beq sz' row.length && pEq row a && pEq row b, oB (sEqS a b))
 | _, _ => gNo
def gEqR (row : List KT) : GFn
 | [.ag a, .ag b], [] => (a.all roT && b.all roT && pEqR row a && pEqR row b, oB (sEqR a b))
 | _, _ => gNo

mutual
theorem okKT_sh : ∀ {k : KT} {t : T}, okKT k t = true → shT k t = true ∧ lenT reachBytes t = true ∧ roT t = true ∧ wfT t = true
 | .int k, .im (.int k' n), h => by
  rw [okKT, Bool.and_eq_true, decide_eq_true_eq] at h
  obtain ⟨rfl, h⟩ := h
  exact ⟨by simp [shT], by unfold lenT; rfl, rfl, by rw [wfT]; exact h⟩
 | .bool, .im (.bool _), h => ⟨by simp [shT], by unfold lenT; rfl, rfl, by unfold wfT; rfl⟩
 | .str, .im (.string s), h => by
  rw [okKT] at h
  exact ⟨by simp [shT], by unfold lenT; rfl, rfl, by rw [wfT]; exact h⟩
 | .sl row, .sl .ro sz rs, h => by
  rw [okKT, Bool.and_eq_true, Bool.and_eq_true, decide_eq_true_eq] at h
  obtain ⟨⟨h1, h2⟩, h3⟩ := h
  obtain rfl := beq_eq h1
  obtain ⟨h4, h5, h6⟩ := okKRs_sh h3
  exact ⟨by rw [shT, h4]; simp, by rw [lenT, h5, decide_eq_true h2]; rfl, rfl, by rw [wfT]; exact h6⟩
 | .sl _, .sl .own _ _, h => by cases h
 | .sl _, .sl .fz _ _, h => by cases h
theorem okKRs_sh : ∀ {row : List KT} {rs : List (List T)}, okKRs row rs = true → shRs row rs = true ∧ lenRs reachBytes rs = true ∧ wfRs rs = true
 | row, [], _ => ⟨by unfold shRs; rfl, by unfold lenRs; rfl, by unfold wfRs; rfl⟩
 | row, r :: rs, h => by
  rw [okKRs, Bool.and_eq_true] at h
  obtain ⟨h1, h2, _, h3⟩ := okKR_sh h.1
  obtain ⟨h4, h5, h6⟩ := okKRs_sh h.2
  exact ⟨by rw [shRs, h1, h4]; rfl, by rw [lenRs, h2, h5]; rfl, by rw [wfRs, h3, h6]; rfl⟩
theorem okKR_sh : ∀ {ks : List KT} {ts : List T}, okKR ks ts = true → shR ks ts = true ∧ lenR reachBytes ts = true ∧ ts.all roT = true ∧ wfR ts = true
 | [], [], _ => ⟨by unfold shR; rfl, by unfold lenR; rfl, rfl, by unfold wfR; rfl⟩
 | k :: ks, t :: ts, h => by
  rw [okKR, Bool.and_eq_true] at h
  obtain ⟨h1, h2, h3, h7⟩ := okKT_sh h.1
  obtain ⟨h4, h5, h6, h8⟩ := okKR_sh h.2
  exact ⟨by rw [shR, h1, h4]; rfl, by rw [lenR, h2, h5]; rfl, by rw [List.all_cons, h3, h6]; rfl, by rw [wfR, h7, h8]; rfl⟩
 | [], _ :: _, h => by cases h
 | _ :: _, [], h => by cases h
end

section
variable {P : Program} {md : FuncId → Option (List Mode)} {fl : FuncId → Fl} {l : List (Nat × GFn)} {f : Nat} {row : List KT}
theorem good_szS (hb : ∀ {rs n}, pSz row rs n = true → body lp0 (EE P md fl l) f [.c (.sl .ro row.length rs), aI n] [] = some (.ret (oI (sSz rs n)))) (hl : Good P md fl l) : Good P md fl ((f, gSzS row) :: l) := .cons (fun xs ps h => by
 unfold gSzS at h ⊢
 split at h
 ·rw [Bool.and_eq_true] at h; obtain rfl := beq_eq h.1; exact hb h.2
 ·cases h) hl
theorem good_szR (hb : ∀ {ts n}, ts.all roT = true → pSzR row ts n = true → body lp0 (EE P md fl l) f [.ag ts, aI n] [] = some (.ret (oI (sSzR ts n)))) (hl : Good P md fl l) : Good P md fl ((f, gSzR row) :: l) := .cons (fun xs ps h => by
 unfold gSzR at h ⊢
 split at h
 ·rw [Bool.and_eq_true] at h; exact hb h.1 h.2
 ·cases h) hl
theorem good_toS (hb : ∀ {rs}, pTo row rs = true → body lp0 (EE P md fl l) f [.c (.sl .ro row.length rs)] [] = some (.ret ⟨[.c (.sl .own row.length (sOwn rs))], [], []⟩)) (hl : Good P md fl l) : Good P md fl ((f, gToS row) :: l) := .cons (fun xs ps h => by
 unfold gToS at h ⊢
 split at h
 ·rw [Bool.and_eq_true] at h; obtain rfl := beq_eq h.1; exact hb h.2
 ·cases h) hl
theorem good_toR (hb : ∀ {ts}, ts.all roT = true → pToR row ts = true → body lp0 (EE P md fl l) f [.ag ts] [] = some (.ret ⟨[.ag (cpR ts)], [], []⟩)) (hl : Good P md fl l) : Good P md fl ((f, gToR row) :: l) := .cons (fun xs ps h => by
 unfold gToR at h ⊢
 split at h
 ·rw [Bool.and_eq_true] at h; exact hb h.1 h.2
 ·cases h) hl
theorem good_eqS (hb : ∀ {a b}, pEq row a = true → pEq row b = true → body lp0 (EE P md fl l) f [.c (.sl .ro row.length a), .c (.sl .ro row.length b)] [] = some (.ret (oB (sEqS a b)))) (hl : Good P md fl l) : Good P md fl ((f, gEqS row) :: l) := .cons (fun xs ps h => by
 unfold gEqS at h ⊢
 split at h
 ·simp only [Bool.and_eq_true] at h; obtain rfl := beq_eq h.1.1.1; obtain rfl := beq_eq h.1.1.2; exact hb h.1.2 h.2
 ·cases h) hl
theorem good_eqR (hb : ∀ {a b}, a.all roT = true → b.all roT = true → pEqR row a = true → pEqR row b = true → body lp0 (EE P md fl l) f [.ag a, .ag b] [] = some (.ret (oB (sEqR a b)))) (hl : Good P md fl l) : Good P md fl ((f, gEqR row) :: l) := .cons (fun xs ps h => by
 unfold gEqR at h ⊢
 split at h
 ·simp only [Bool.and_eq_true] at h; exact hb h.1.1.1 h.1.1.2 h.1.2 h.2
 ·cases h) hl
end

abbrev kI : KT := .int .i64
abbrev kB : KT := .int .u8
abbrev kAggT : List KT := [kI, kI, kI, kI, kI, kI]
abbrev kFrame : List KT := [kI, kI, kI, kI]
abbrev kMsg : List KT := [kI, kI, kI, kI, kI]
abbrev kDecoder : List KT := [.sl [kB], .bool]
abbrev kSource : List KT := [kI, kI, kI, .bool, .bool]
abbrev kConn : List KT := [.sl [kB], .bool, kI, kI, kI, .bool, .bool]
abbrev kShard : List KT := [.sl kAggT, kI, kI, kI]
abbrev kSetup : List KT := [kI, kI, kI, kI, kI, kI, kI, kI, kI]
abbrev kTally : List KT := [kI, kI, kI, kI, kI, kI]
abbrev kOp : List KT := [kI, kI, kI, .sl [kB]]
abbrev kEngine : List KT := [kI, kI, kI, kI, kI, kI, kI, kI, kI, kI, kI, .sl kConn, .sl kMsg, .sl [.sl kMsg], .sl kShard, .sl kAggT, kI, .sl [kI], kI, kI, kI, kI, kI, kI]
end
end Go.Vm
