/- numbers as texts: plain laws -/
import Derived.Test.YtlfkhhmpkgehbaaDoorSTT
import Derived.Test.YtlfkhhmpkgehbaaDoorOkB
namespace Go.Vm
open Go.Proofs
set_option linter.unusedVariables false
set_option linter.unusedSimpArgs false
theorem bcat (l m : List UInt8) : (⟨l.toArray⟩ : ByteArray) ++ ⟨m.toArray⟩ = ⟨(l ++ m).toArray⟩ := by
 apply ByteArray.ext; simp
theorem bsz (l : List UInt8) : (⟨l.toArray⟩ : ByteArray).size = l.length := by simp [ByteArray.size]
theorem scat (l m : List UInt8) : sCat ⟨l.toArray⟩ ⟨m.toArray⟩ = ⟨(l ++ m).toArray⟩ := by rw [sCat_eq, bcat]
theorem sT_str (s : ByteArray) : sT (.im (.string s)) = s := by rw [sT_eq]; rfl
/-- the last k digits -/
def dl (k u : Nat) : List UInt8 := (List.range k).map fun t => Lib.dg u (k - 1 - t)
theorem dl_succ (k u : Nat) : dl (k + 1) u = Lib.dg u k :: dl k u := by
 unfold dl
 rw [List.range_succ_eq_map, List.map_cons, List.map_map]
 refine congr (congrArg _ (by simp)) (List.map_congr_left fun t _ => ?_)
 show Lib.dg u (k + 1 - 1 - (t + 1)) = Lib.dg u (k - 1 - t)
 congr 1; omega
theorem dl_all (u : Nat) : dl (Lib.nDigits u) u = Lib.decDigits u := (Lib.decDigits_eq u).symm
theorem dl_len (k u : Nat) : (dl k u).length = k := by simp [dl]
theorem nDig_le : ∀ (k u : Nat), u < 10 ^ (k + 1) → Lib.nDigits u ≤ k + 1
 | 0, u, h => by rw [Lib.nDigits_small (by simpa using h)]; exact Nat.le_refl _
 | k + 1, u, h => by
  by_cases h1 : u < 10
  ·rw [Lib.nDigits_small h1]; omega
  ·rw [Lib.nDigits_big h1]
   have := nDig_le k (u / 10) (by rw [Nat.pow_succ] at h; omega)
   omega
theorem pow_le {k u : Nat} (h0 : 0 < u) (h : k < Lib.nDigits u) : 10 ^ k ≤ u := by
 cases k with
 | zero => rw [Nat.pow_zero]; omega
 | succ k =>
  refine Decidable.byContradiction fun h1 => ?_
  have := nDig_le k u (by omega)
  omega
/-- what is left of a number behind k rounds -/
def xk (n : Int) (k : Nat) : Int := if n < 0 then -((n.natAbs / 10 ^ k : Nat) : Int) else ((n.natAbs / 10 ^ k : Nat) : Int)
theorem xk0 (n : Int) : xk n 0 = n := by
 unfold xk
 rw [Nat.pow_zero, Nat.div_one]
 split <;> omega
theorem div_succ (u k : Nat) : u / 10 ^ (k + 1) = u / 10 ^ k / 10 := by rw [Nat.pow_succ, Nat.div_div_eq_div_mul]
theorem xk_quo (n : Int) (k : Nat) : (xk n k).tdiv 10 = xk n (k + 1) := by
 unfold xk
 rw [div_succ]
 split
 ·rw [Int.neg_tdiv]; rfl
 ·rfl
theorem xk_rem (n : Int) (k : Nat) : (xk n k).tmod 10 = if n < 0 then -((n.natAbs / 10 ^ k % 10 : Nat) : Int) else ((n.natAbs / 10 ^ k % 10 : Nat) : Int) := by
 unfold xk
 split
 ·rw [Int.neg_tmod]; rfl
 ·rfl
theorem xk_end (n : Int) : xk n (Lib.nDigits n.natAbs) = 0 := by
 have := Lib.lt_pow_nDigits n.natAbs
 unfold xk
 rw [Nat.div_eq_of_lt this]
 split <;> rfl
theorem xk_ne {n : Int} {k : Nat} (h0 : n ≠ 0) (h : k < Lib.nDigits n.natAbs) : xk n k ≠ 0 := by
 have h1 := pow_le (u := n.natAbs) (by omega) h
 have h2 : 0 < n.natAbs / 10 ^ k := Nat.div_pos h1 (Nat.pow_pos (by decide))
 unfold xk
 split <;> omega
theorem xk_le (n : Int) (k : Nat) : -(n.natAbs : Int) ≤ xk n k ∧ xk n k ≤ n.natAbs := by
 have h := Nat.div_le_self n.natAbs (10 ^ k)
 unfold xk
 generalize n.natAbs / 10 ^ k = m at h
 split <;> omega
theorem xk_le1 (n : Int) (k : Nat) : -((n.natAbs / 10 : Nat) : Int) ≤ xk n (k + 1) ∧ xk n (k + 1) ≤ ((n.natAbs / 10 : Nat) : Int) := by
 have h := Nat.div_le_self n.natAbs (10 ^ k)
 unfold xk
 rw [div_succ]
 generalize n.natAbs / 10 ^ k = m at h
 split <;> omega
theorem itoa_len {n : Int} {k : Nat} (h0 : 0 ≤ n) (h : n < ((10 ^ (k + 1) : Nat) : Int)) : (Lib.itoa n).length ≤ k + 1 := by
 unfold Lib.itoa
 rw [if_neg (by omega), Lib.decDigits_length]
 exact nDig_le k _ (by omega)
theorem join_snoc (xs : List (List UInt8)) (y sep : List UInt8) : Lib.join (xs ++ [y]) sep = if xs = [] then y else Lib.join xs sep ++ sep ++ y := by
 cases xs with
 | nil => rw [List.nil_append, Lib.join_one, if_pos rfl]
 | cons x r =>
  rw [if_neg (by simp), List.cons_append, Lib.join_cons, Lib.join_cons]
  simp [Lib.joinTail, List.append_assoc]
/-- the texts of the first i numbers, a space between -/
def jL (V : List Int) (i : Nat) : List UInt8 := Lib.join ((V.take i).map Lib.itoa) [32]
theorem jL0 (V : List Int) : jL V 0 = [] := rfl
theorem jL_succ {V : List Int} {i : Nat} (hi : i < V.length) : jL V (i + 1) = if i = 0 then Lib.itoa V[i] else jL V i ++ [32] ++ Lib.itoa V[i] := by
 unfold jL
 rw [List.take_add_one, List.getElem?_eq_getElem hi, Option.toList_some, List.map_append, List.map_singleton, join_snoc]
 by_cases h : i = 0
 ·subst h; simp
 ·rw [if_neg h, if_neg (fun e => by have := congrArg List.length e; rw [List.length_map, List.length_take, List.length_nil] at this; omega)]
theorem jL_len {V : List Int} {m : Nat} (hV : ∀ v ∈ V, (Lib.itoa v).length ≤ m) : ∀ i, i ≤ V.length → (jL V i).length ≤ i * (m + 1)
 | 0, _ => by rw [jL0]; simp
 | i + 1, h => by
  have ih := jL_len hV i (by omega)
  have := hV V[i] (List.getElem_mem _)
  rw [jL_succ (by omega), Nat.add_mul, Nat.one_mul]
  split
  ·omega
  ·simp only [List.length_append, List.length_singleton]; omega
def rowsI (V : List Int) : List (List T) := V.map fun v => [tI v]
theorem rowsI_len (V : List Int) : sLen (rowsI V) = V.length := by rw [sLen_eq, rowsI, List.length_map]
theorem rowsI_cell {V : List Int} {i : Nat} (hi : i < V.length) : sCell (rowsI V) (i : Int).toNat 0 = tI V[i] := by
 rw [sCell_eq, cell, rowsI, Int.toNat_natCast]
 simp [List.getD, hi]
theorem rowsI_okc {V : List Int} {i : Nat} (hi : i < V.length) : sOkC [.int .i64] (rowsI V) (i : Int).toNat 0 = true := by
 have := rowsI_cell hi
 rw [sCell_eq] at this
 rw [sOkC_eq]
 show (T.okK .own (.int .i64) (cell (rowsI V) (i : Int).toNat 0) && true) = true
 rw [this]; rfl
theorem rowsI_noRo (V : List Int) : sNoRo (.sl .own 1 (rowsI V)) = true := by
 rw [sNoRo_eq, T.noRo]
 induction V with
 | nil => unfold rowsI noRoRs; rfl
 | cons v V ih =>
  rw [rowsI, List.map_cons, noRoRs]
  rw [rowsI] at ih
  rw [ih]
  simp [noRoR, T.noRo]
noncomputable def wordsI (V : List Int) (i : Nat) : List (List T) := (V.take i).map fun v => [.im (.string (sItoa v))]
theorem wordsI_succ {V : List Int} {i : Nat} (hi : i < V.length) : wordsI V (i + 1) = wordsI V i ++ [[.im (.string (sItoa V[i]))]] := by
 unfold wordsI
 rw [List.take_add_one, List.getElem?_eq_getElem hi, Option.toList_some, List.map_append, List.map_singleton]
theorem wordsI_join (V : List Int) (i : Nat) : joinL (wordsI V i) ⟨⟨[32]⟩⟩ = jL V i := by
 unfold joinL jL wordsI
 rw [List.map_map]
 congr 1
 refine List.map_congr_left fun v _ => ?_
 show (sItoa v).data.toList = _
 rw [sItoa_eq]
theorem wordsI_str (V : List Int) (i : Nat) : (wordsI V i).all isStrR = true := by
 rw [wordsI, List.all_map, List.all_eq_true]; intro v _; rfl
theorem in64 {n : Int} (h0 : -1000000000000 ≤ n) (h1 : n ≤ 1000000000000) : sIn64 n = true := by rw [sIn64_eq, decide_eq_true (by omega), decide_eq_true (by omega)]; rfl
end Go.Vm
