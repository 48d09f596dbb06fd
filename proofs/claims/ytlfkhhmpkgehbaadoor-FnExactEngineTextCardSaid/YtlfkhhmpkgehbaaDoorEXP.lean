/- texts of engines: plain laws -/
import Derived.Test.YtlfkhhmpkgehbaaDoorEXT
import Derived.Test.YtlfkhhmpkgehbaaDoorSTP
namespace Go.Vm
open Go.Proofs
set_option linter.unusedVariables false
set_option linter.unusedSimpArgs false
def rowsS (L : List (List UInt8)) : List (List T) := L.map fun l => [.im (.string ⟨l.toArray⟩)]
theorem names_rows : ([[.im (.string (⟨⟨[114, 117, 110, 115]⟩⟩ : ByteArray))], [.im (.string (⟨⟨[100, 114, 97, 105, 110, 115]⟩⟩ : ByteArray))], [.im (.string (⟨⟨[100, 114, 97, 105, 110, 101, 100]⟩⟩ : ByteArray))]] : List (List T)) = rowsS names := rfl
theorem labels_rows : ([[.im (.string (⟨⟨[32, 109, 97, 114, 107, 32]⟩⟩ : ByteArray))], [.im (.string (⟨⟨[32, 105, 110, 32]⟩⟩ : ByteArray))], [.im (.string (⟨⟨[32, 113, 117, 101, 117, 101, 100, 32]⟩⟩ : ByteArray))], [.im (.string (⟨⟨[32, 104, 101, 108, 100, 32]⟩⟩ : ByteArray))], [.im (.string (⟨⟨[32, 111, 117, 116, 32]⟩⟩ : ByteArray))], [.im (.string (⟨⟨[32, 114, 101, 97, 100, 32]⟩⟩ : ByteArray))], [.im (.string (⟨⟨[32, 116, 97, 107, 101, 110, 32]⟩⟩ : ByteArray))], [.im (.string (⟨⟨[32, 108, 97, 116, 101, 32]⟩⟩ : ByteArray))], [.im (.string (⟨⟨[32, 111, 118, 101, 114, 32]⟩⟩ : ByteArray))]] : List (List T)) = rowsS labels := rfl
theorem rowsS_cell {L : List (List UInt8)} {i : Nat} (hi : i < L.length) : sCell (rowsS L) i 0 = .im (.string ⟨L[i].toArray⟩) := by
 rw [sCell_eq, cell, rowsS]
 simp [List.getD, hi]
theorem rowsS_okc {L : List (List UInt8)} {i : Nat} (hi : i < L.length) : sOkC [.str] (rowsS L) i 0 = true := by
 have := rowsS_cell hi
 rw [sCell_eq] at this
 rw [sOkC_eq]
 show (T.okK .own .str (cell (rowsS L) i 0) && true) = true
 rw [this]; rfl
theorem stName_all : ∀ l ∈ names, l.length ≤ 7 := by decide
theorem stName_le {i : Nat} (hi : i < names.length) : names[i].length ≤ 7 := stName_all _ (List.getElem_mem hi)
theorem labels_le : ∀ l ∈ labels, l.length ≤ 8 := by decide
theorem eL0 (a : List UInt8) (L : List (List UInt8)) (V : List Int) : eL a L V 0 = a := by simp [eL]
theorem eL_succ (a : List UInt8) {L : List (List UInt8)} {V : List Int} {i : Nat} (h1 : i < L.length) (h2 : i < V.length) : eL a L V (i + 1) = eL a L V i ++ (L[i] ++ Lib.itoa V[i]) := by
 have hz : (L.zip V)[i]? = some (L[i], V[i]) := by rw [List.getElem?_zip_eq_some]; exact ⟨List.getElem?_eq_getElem h1, List.getElem?_eq_getElem h2⟩
 unfold eL
 rw [List.take_add_one, hz, Option.toList_some, List.map_append, List.map_singleton, List.flatten_append, List.flatten_singleton, List.append_assoc]
theorem eL_len {a : List UInt8} {L : List (List UInt8)} {V : List Int} (ha : a.length ≤ 7) (hL : ∀ l ∈ L, l.length ≤ 8) (hV : ∀ v ∈ V, (Lib.itoa v).length ≤ 20) : ∀ i, i ≤ L.length → i ≤ V.length → (eL a L V i).length ≤ 7 + i * 28
 | 0, _, _ => by rw [eL0]; omega
 | i + 1, h1, h2 => by
  have ih := eL_len ha hL hV i (by omega) (by omega)
  have := hL L[i] (List.getElem_mem _)
  have := hV V[i] (List.getElem_mem _)
  rw [eL_succ a (by omega) (by omega), List.length_append, List.length_append]
  omega
theorem eL9 (nm : List UInt8) (v0 v1 v2 v3 v4 v5 v6 v7 v8 : Int) : eL nm labels [v0, v1, v2, v3, v4, v5, v6, v7, v8] 9 = (((((((((nm ++ [32, 109, 97, 114, 107, 32] ++ Lib.itoa v0) ++ [32, 105, 110, 32] ++ Lib.itoa v1) ++ [32, 113, 117, 101, 117, 101, 100, 32] ++ Lib.itoa v2) ++ [32, 104, 101, 108, 100, 32] ++ Lib.itoa v3) ++ [32, 111, 117, 116, 32] ++ Lib.itoa v4) ++ [32, 114, 101, 97, 100, 32] ++ Lib.itoa v5) ++ [32, 116, 97, 107, 101, 110, 32] ++ Lib.itoa v6) ++ [32, 108, 97, 116, 101, 32] ++ Lib.itoa v7) ++ [32, 111, 118, 101, 114, 32] ++ Lib.itoa v8) := by
 simp [eL, labels]
theorem cIg {L : List T} {j : Nat} {n : Int} (h : L.getD j .no = tI n) : cI L j = n := by rw [cI, h, iT_im]
theorem ltNN (a b : Nat) : sLt (a : Int) (b : Int) = decide (a < b) := by
 rw [sLt_eq]
 by_cases h : a < b
 ·rw [decide_eq_true h]; exact decide_eq_true (by omega)
 ·rw [decide_eq_false h]; exact decide_eq_false (by omega)
theorem in64_iff {n : Int} : sIn64 n = true ↔ -9223372036854775808 ≤ n ∧ n ≤ 9223372036854775807 := by rw [sIn64_eq, Bool.and_eq_true, decide_eq_true_eq, decide_eq_true_eq]
theorem wf_in64 {n : Int} (h : (Lit.int .i64 n).wf = true) : sIn64 n = true := by
 have h2 : (decide (IntKind.i64.min ≤ n) && decide (n ≤ IntKind.i64.max)) = true := h
 simp only [Bool.and_eq_true, decide_eq_true_eq] at h2
 have m1 : IntKind.i64.min = -9223372036854775808 := by decide
 have m2 : IntKind.i64.max = 9223372036854775807 := by decide
 rw [in64_iff]; omega
theorem itoa_len20 {n : Int} (h : sIn64 n = true) : (Lib.itoa n).length ≤ 20 := by
 rw [in64_iff] at h
 unfold Lib.itoa
 split
 ·rw [List.length_cons, Lib.decDigits_length]
  have := nDig_le 18 n.natAbs (by omega)
  omega
 ·rw [Lib.decDigits_length]
  have := nDig_le 18 n.toNat (by omega)
  omega
end Go.Vm
