/- areSorted of the program: a list by window, then key, no two alike. -/
import Derived.Test.YtmfbonhdjpmbkaaPBx0
import Derived.Test.YtmfbonhdjpmbkaaPBx4
import Derived.Test.YtmfbonhdjpmbkaaPBx5
import Derived.Test.YtmfbonhdjpmbkaaAid
import Derived.Test.YtmfbonhdjpmbkaaPureAggB
import Derived.Test.YtmfbonhdjpmbkaaPureAggOrderB
namespace Go.Proofs.Ytmfbonhdjpmbkaa.PureB
open Go.RowKit Go.Proofs.Ytmfbonhdjpmbkaa.PB Go.Proofs.YtmfbonhdjpmbkaaW.PrintWords Go.Proofs.YtmfbonhdjpmbkaaW.PrintLast Go.Proofs.YtmfbonhdjpmbkaaW.PrintMore Go.Proofs.Ytmfbonhdjpmbkaa.Aid
set_option linter.unusedVariables false
theorem getD_eq {α : Type} (l : List α) (i : Nat) (z : α) (h : i < l.length) : l.getD i z = l[i] := by
  rw [List.getD_eq_getElem?_getD, List.getElem?_eq_getElem h, Option.getD_some]
/-- No two stand the wrong way, or alike. -/
def sorted (l : List (S77)) : Bool := decide (l.Pairwise (fun a b => ahead a b = true))
theorem sorted_next (l : List (S77)) : (List.range (l.length - 1)).all (fun i => ahead (l.getD i z77) (l.getD (i + 1) z77)) = sorted l := by
  rw [Bool.eq_iff_iff, List.all_eq_true]
  simp only [sorted, decide_eq_true_eq, List.pairwise_iff_getElem, List.mem_range]
  constructor
  · intro h
    have key : ∀ d i (hj : i + d + 1 < l.length), ahead (l[i]'(by omega)) (l[i + d + 1]) = true := by
      intro d
      induction d with
      | zero =>
        intro i hj
        have := h i (by omega)
        rwa [getD_eq _ _ _ (by omega), getD_eq _ _ _ (by omega)] at this
      | succ d ih =>
        intro i hj
        have h1 := ih i (by omega)
        have h2 := h (i + d + 1) (by omega)
        rw [getD_eq _ _ _ (by omega), getD_eq _ _ _ (by omega)] at h2
        exact ahead_trans h1 h2
    intro i j hi hj hij
    obtain ⟨d, rfl⟩ : ∃ d, j = i + d + 1 := ⟨j - i - 1, by omega⟩
    exact key d i hj
  · intro h i hi
    rw [getD_eq _ _ _ (by omega), getD_eq _ _ _ (by omega)]
    exact h i (i + 1) _ _ (by omega)
theorem areSorted_ev (l : List (S77)) (h : l.length ≤ 9223372036854775806) : Ev (fun k => impl_areSorted.f k l) (sorted l) := by
  rw [← sorted_next l]
  refine Ev.congr (f := fun k => impl_areSorted.l0 k l (0 + 1)) (fun k => rfl) ?_
  refine ev_all (l.length - 1) (fun k i => impl_areSorted.l0 k l (i + 1)) _ ?_ ?_ ?_
  · intro i hi hb q hq
    have ho := aggOrder_ev (rd_T77 l (i : Int)) (rd_T77 l ((i : Int) + 1))
    have hn : ¬ (orderI (rd_T77 l (i : Int)) (rd_T77 l ((i : Int) + 1)) ≥ 0) := by
      have : orderI (rd_T77 l (i : Int)) (rd_T77 l ((i : Int) + 1)) < 0 := by
        rw [orderI_neg]
        simpa [rd_T77] using hb
      omega
    refine Ev.step (f := fun k => (impl_aggOrder.f k (rd_T77 l (i : Int)).f0 (rd_T77 l (i : Int)).f1 (rd_T77 l (i : Int)).f2 (rd_T77 l (i : Int)).f3 (rd_T77 l (i : Int)).f4 (rd_T77 l (i : Int)).f5 (rd_T77 l ((i : Int) + 1)).f0 (rd_T77 l ((i : Int) + 1)).f1 (rd_T77 l ((i : Int) + 1)).f2 (rd_T77 l ((i : Int) + 1)).f3 (rd_T77 l ((i : Int) + 1)).f4 (rd_T77 l ((i : Int) + 1)).f5).bind fun t => if t ≥ 0 then some false else impl_areSorted.l0 k l ((i : Int) + 1 + 1)) (fun k => ?_) (Ev.bind ho (Ev.congr (fun k => if_neg hn) hq))
    simp only [impl_areSorted.l0]
    rw [w64 (n := (i : Int) + 1 - 1) (by omega), w64 (n := (i : Int) + 1 + 1) (by omega), show ((i : Int) + 1 - 1) = i from by omega, if_pos (by omega), if_pos (by omega), if_pos (by omega), if_pos (by omega)]
  · intro i hi hb
    have ho := aggOrder_ev (rd_T77 l (i : Int)) (rd_T77 l ((i : Int) + 1))
    have hn : orderI (rd_T77 l (i : Int)) (rd_T77 l ((i : Int) + 1)) ≥ 0 := by
      have : ¬ orderI (rd_T77 l (i : Int)) (rd_T77 l ((i : Int) + 1)) < 0 := by
        rw [orderI_neg]
        have : ahead (rd_T77 l (i : Int)) (rd_T77 l ((i : Int) + 1)) = false := by simpa [rd_T77] using hb
        simp [this]
      omega
    refine Ev.step (f := fun k => (impl_aggOrder.f k (rd_T77 l (i : Int)).f0 (rd_T77 l (i : Int)).f1 (rd_T77 l (i : Int)).f2 (rd_T77 l (i : Int)).f3 (rd_T77 l (i : Int)).f4 (rd_T77 l (i : Int)).f5 (rd_T77 l ((i : Int) + 1)).f0 (rd_T77 l ((i : Int) + 1)).f1 (rd_T77 l ((i : Int) + 1)).f2 (rd_T77 l ((i : Int) + 1)).f3 (rd_T77 l ((i : Int) + 1)).f4 (rd_T77 l ((i : Int) + 1)).f5).bind fun t => if t ≥ 0 then some false else impl_areSorted.l0 k l ((i : Int) + 1 + 1)) (fun k => ?_) (Ev.bind ho (Ev.congr (fun k => if_pos hn) (Ev.now _)))
    simp only [impl_areSorted.l0]
    rw [w64 (n := (i : Int) + 1 - 1) (by omega), w64 (n := (i : Int) + 1 + 1) (by omega), show ((i : Int) + 1 - 1) = i from by omega, if_pos (by omega), if_pos (by omega), if_pos (by omega), if_pos (by omega)]
  · refine ev_now1 (fun k => ?_)
    simp only [impl_areSorted.l0]
    rw [if_neg (by omega)]

end Go.Proofs.Ytmfbonhdjpmbkaa.PureB
