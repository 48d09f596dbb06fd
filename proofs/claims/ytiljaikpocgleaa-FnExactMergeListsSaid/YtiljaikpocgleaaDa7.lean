/- Maps of two numbers as lists of pairs. -/
import Derived.Test.YtiljaikpocgleaaDa2
namespace Go.Vm
set_option linter.unusedVariables false
set_option linter.unusedSimpArgs false

abbrev K2 (a b : Int) : List Value := [.int .i64 a, .int .i64 b]
abbrev AL := List ((Int × Int) × Value)
def mRow (p : (Int × Int) × Value) : List T := [.im (.int .i64 p.1.1), .im (.int .i64 p.1.2), .im p.2]
def aPut (k : Int × Int) (v : Value) : AL → AL
 | [] => [(k, v)]
 | p :: L => bif decide (p.1 = k) then (k, v) :: L else p :: aPut k v L
def aGet (k : Int × Int) (L : AL) : Option Value := (L.find? fun p => decide (p.1 = k)).map (·.2)
theorem keyEq2 (a b : Int) (p : (Int × Int) × Value) : keyEq (K2 a b) (mRow p) = decide (p.1 = (a, b)) := by
 obtain ⟨⟨x, y⟩, v⟩ := p
 show (decide (a = x) && (decide (b = y) && true)) = _
 rw [Bool.and_true]
 by_cases h1 : a = x <;> by_cases h2 : b = y
 ·subst h1 h2; simp
 ·rw [decide_eq_false h2, decide_eq_false (fun h => h2 (congrArg Prod.snd h).symm), Bool.and_false]
 ·rw [decide_eq_false h1, decide_eq_false (fun h => h1 (congrArg Prod.fst h).symm)]; rfl
 ·rw [decide_eq_false h1, decide_eq_false (fun h => h1 (congrArg Prod.fst h).symm)]; rfl
theorem mPut_row (a b : Int) (v : Value) (L : AL) : sMPut (K2 a b) [v] (L.map mRow) = (aPut (a, b) v L).map mRow := by
 rw [sMPut_eq]
 induction L with
 | nil => rfl
 | cons p L ih =>
  rw [List.map_cons, mPut, keyEq2, aPut]
  cases decide (p.1 = (a, b)) with
  | true => rfl
  | false => rw [cond_false, cond_false, ih]; rfl
theorem mHas_row (a b : Int) (L : AL) : sMHas (K2 a b) (L.map mRow) = (aGet (a, b) L).isSome := by
 rw [sMHas_eq, mHas, aGet, Option.isSome_map]
 induction L with
 | nil => rfl
 | cons p L ih =>
  rw [List.map_cons, List.any_cons, keyEq2, List.find?_cons]
  cases decide (p.1 = (a, b)) with
  | true => rfl
  | false => rw [Bool.false_or, ih]
theorem mGet_row (a b : Int) (L : AL) : sMGet (K2 a b) (L.map mRow) 0 = match aGet (a, b) L with | some v => .im v | none => .no := by
 rw [sMGet_eq, mGet, aGet]
 induction L with
 | nil => rfl
 | cons p L ih =>
  rw [List.map_cons, List.find?_cons, keyEq2, List.find?_cons]
  cases decide (p.1 = (a, b)) with
  | true => rfl
  | false => exact ih
theorem aGet_put (k k' : Int × Int) (v : Value) (L : AL) : aGet k (aPut k' v L) = if k' = k then some v else aGet k L := by
 induction L with
 | nil =>
  rw [aPut, aGet, List.find?_cons]
  by_cases h : k' = k
  ·rw [decide_eq_true h, if_pos h]; rfl
  ·rw [decide_eq_false h, if_neg h]; rfl
 | cons p L ih =>
  rw [aPut]
  by_cases hp : p.1 = k'
  ·rw [decide_eq_true hp, cond_true, aGet, List.find?_cons, aGet, List.find?_cons, hp]
   by_cases h : k' = k
   ·rw [decide_eq_true h, if_pos h]; rfl
   ·rw [decide_eq_false h, if_neg h]
  ·rw [decide_eq_false hp, cond_false, aGet, List.find?_cons]
   by_cases h : p.1 = k
   ·rw [decide_eq_true h, if_neg (fun e => hp (h.trans e.symm)), aGet, List.find?_cons, decide_eq_true h]
   ·rw [decide_eq_false h, aGet, List.find?_cons, decide_eq_false h]
    exact ih

/-! laws over slices -/
theorem lenT_mono' {a b : Nat} (hab : a ≤ b) {rs : List (List T)} (h : lenRs a rs = true ∧ rs.length ≤ a) : lenRs b rs = true ∧ rs.length ≤ b := ⟨lenRs_mono hab h.1, by omega⟩
theorem szS_to {row : List KT} {rs : List (List T)} {n : Int} (hs : shRs row rs = true) (h0 : 0 ≤ n) (h1 : n ≤ 1048576) (h : ¬ sSz rs n < 0) : pTo row rs = true ∧ sSz rs n ≤ 1048576 := by
 rw [sSz_eq] at h ⊢
 obtain ⟨_, h2, h3⟩ := szT_le (.sl .own 0 rs) n h0
 have h4 := h3 (by omega)
 rw [lenT, Bool.and_eq_true, decide_eq_true_eq] at h4
 have := lenT_mono' (show n.toNat ≤ 1048576 by omega) ⟨h4.2, h4.1⟩
 rw [pTo_eq, hs, this.1, decide_eq_true this.2]
 exact ⟨rfl, by omega⟩
theorem pTo_own {row : List KT} {rs : List (List T)} (h : pTo row rs = true) : pTo row (sOwn rs) = true := by
 rw [pTo_eq] at h ⊢
 rw [sOwn_eq, shRs_own, lenRs_own, ownRs_length]; exact h
theorem pTo_pEq {row : List KT} {rs : List (List T)} (h : pTo row rs = true) : pEq row rs = true := by
 rw [pTo_eq] at h
 rw [pEq_eq]
 simp only [Bool.and_eq_true, decide_eq_true_eq] at h ⊢
 exact ⟨⟨h.1.1, lenRs_mono (by decide) h.1.2⟩, Nat.le_trans h.2 (by decide)⟩
theorem pSz_of {row : List KT} {rs : List (List T)} {n : Int} (hs : shRs row rs = true) (hl : lenRs reachBytes rs = true) (hn : rs.length ≤ reachBytes) (h0 : 0 ≤ n) (h1 : n ≤ 1048576) : pSz row rs n = true := by
 rw [pSz_eq, hs, hl, decide_eq_true hn, decide_eq_true h0, decide_eq_true h1]; rfl
theorem sEqS_rfl (a : List (List T)) : sEqS a a = true := sEqS_iff.2 rfl
theorem sBeq_self (a : Bool) : sBeq a a = true := by rw [sBeq_eq]; simp
end Go.Vm
