/- Small laws on functions with rounds: a loop that counts up. Nothing of the program. -/
import Derived.Test.YtmfbonhdjpmbkaaWWords
import Derived.WalkKit
namespace Go.Proofs.Ytmfbonhdjpmbkaa.Aid
open Go.RowKit Go.Proofs.YtmfbonhdjpmbkaaW.PrintWords

theorem w64 {n : Int} (h : -9223372036854775808 ≤ n ∧ n ≤ 9223372036854775807) : wrap64 n = n := by
  unfold wrap64
  omega

/-- A loop that counts from i to n: s i is its state at i. -/
theorem ev_count {σ ρ : Type} (n : Nat) (g : Nat → σ → Int → Option ρ) (s : Nat → σ) (r : ρ)
    (step : ∀ i : Nat, i < n → Ev (fun k => g k (s (i + 1)) ((i : Int) + 1)) r → Ev (fun k => g k (s i) (i : Int)) r) (fin : Ev (fun k => g k (s n) (n : Int)) r) : Ev (fun k => g k (s 0) 0) r := by
  have key : ∀ d i : Nat, i + d = n → Ev (fun k => g k (s i) (i : Int)) r := by
    intro d
    induction d with
    | zero =>
      intro i hi
      obtain rfl : i = n := by omega
      exact fin
    | succ d ih =>
      intro i hi
      refine step i (by omega) ?_
      have := ih (i + 1) (by omega)
      simpa using this
  simpa using key n 0 (by omega)

theorem ev_step {α : Type} {g f : Nat → Option α} {r : α} (k : Ev f r) (h : ∀ k, g (k + 1) = f k) : Ev g r := Ev.step h k
theorem ev_now1 {α : Type} {g : Nat → Option α} {r : α} (h : ∀ k, g (k + 1) = some r) : Ev g r := Ev.step h (Ev.now r)

/-- A list that is filled place by place. -/
theorem fill_next {β : Type} {xs l : List β} {i : Nat} {y : β} (hl : l.length = xs.length) (hi : i < xs.length) (hy : xs[i]? = some y) : (xs.take i ++ l.drop i).set i y = xs.take (i + 1) ++ l.drop (i + 1) := by
  have h1 : (xs.take i).length = i := by rw [List.length_take]; omega
  have h2 : l.drop i = l[i]'(by omega) :: l.drop (i + 1) := List.drop_eq_getElem_cons (by omega)
  rw [List.set_append_right _ _ (by omega), h1, Nat.sub_self, h2, List.set_cons_zero, List.take_add_one, hy]
  simp

theorem mem_getD {α : Type} (xs : List α) (i : Nat) (d : α) (h : i < xs.length) : xs[i]? = some (xs.getD i d) := by
  rw [List.getD_eq_getElem?_getD, List.getElem?_eq_getElem h]
  rfl


/-- A loop that tests place by place, and goes on behind the last. -/
theorem ev_allK {ρ : Type} (n : Nat) (g : Nat → Int → Option ρ) (b : Nat → Bool) (no r : ρ) (hyes : ∀ i : Nat, i < n → b i = true → ∀ q, Ev (fun k => g k ((i : Int) + 1)) q → Ev (fun k => g k (i : Int)) q)
    (hno : ∀ i : Nat, i < n → b i = false → Ev (fun k => g k (i : Int)) no) (hend : Ev (fun k => g k (n : Int)) r) : Ev (fun k => g k 0) (if (List.range n).all b = true then r else no) := by
  have key : ∀ d i : Nat, i + d = n → Ev (fun k => g k (i : Int)) (if (List.range d).all (fun j => b (i + j)) = true then r else no) := by
    intro d
    induction d with
    | zero =>
      intro i hi
      obtain rfl : i = n := by omega
      simpa using hend
    | succ d ih =>
      intro i hi
      have hr : (List.range (d + 1)).all (fun j => b (i + j)) = (b i && (List.range d).all (fun j => b (i + 1 + j))) := by
        rw [List.range_succ_eq_map, List.all_cons, List.all_map]
        congr 1
        refine congrArg (fun f => (List.range d).all f) (funext fun j => ?_)
        simp [Function.comp]
        congr 1
        omega
      rw [hr]
      cases hb : b i with
      | true =>
        have := ih (i + 1) (by omega)
        simp only [Bool.true_and]
        refine hyes i (by omega) hb _ ?_
        simpa using this
      | false =>
        simp only [Bool.false_and, Bool.false_eq_true, if_false]
        exact hno i (by omega) hb
  simpa using key n 0 (by omega)
theorem ev_all (n : Nat) (g : Nat → Int → Option Bool) (b : Nat → Bool) (hyes : ∀ i : Nat, i < n → b i = true → ∀ q, Ev (fun k => g k ((i : Int) + 1)) q → Ev (fun k => g k (i : Int)) q)
    (hno : ∀ i : Nat, i < n → b i = false → Ev (fun k => g k (i : Int)) false) (hend : Ev (fun k => g k (n : Int)) true) : Ev (fun k => g k 0) ((List.range n).all b) := by
  have := ev_allK n g b false true hyes hno hend
  cases h : (List.range n).all b <;> simpa [h] using this

theorem all_range {α : Type} (l : List α) (z : α) (p : α → Bool) : (List.range l.length).all (fun i => p (l.getD i z)) = l.all p := by
  rw [Bool.eq_iff_iff, List.all_eq_true, List.all_eq_true]
  constructor
  · intro h x hx
    obtain ⟨i, hi, he⟩ := List.mem_iff_getElem.1 hx
    have := h i (by simpa using hi)
    rwa [List.getD_eq_getElem?_getD, List.getElem?_eq_getElem hi, Option.getD_some, he] at this
  · intro h i hi
    have hi' : i < l.length := by simpa using hi
    rw [List.getD_eq_getElem?_getD, List.getElem?_eq_getElem hi', Option.getD_some]
    exact h _ (List.getElem_mem hi')

end Go.Proofs.Ytmfbonhdjpmbkaa.Aid
