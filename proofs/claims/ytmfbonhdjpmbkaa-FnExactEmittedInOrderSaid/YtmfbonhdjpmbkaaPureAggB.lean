/- Aggs: what is right, and their order; both programs tell the same. -/
import Derived.Test.YtmfbonhdjpmbkaaPBx0
import Derived.Test.YtmfbonhdjpmbkaaPBx1
import Derived.Test.YtmfbonhdjpmbkaaPBx2
import Derived.Test.YtmfbonhdjpmbkaaPBx4
import Derived.Test.YtmfbonhdjpmbkaaAid
import Derived.Test.YtmfbonhdjpmbkaaFnArg
namespace Go.Proofs.Ytmfbonhdjpmbkaa.PureB
open Go.RowKit Go.Proofs.Ytmfbonhdjpmbkaa.PB Go.Proofs.YtmfbonhdjpmbkaaW.PrintWords Go.Proofs.YtmfbonhdjpmbkaaW.PrintLast Go.Proofs.YtmfbonhdjpmbkaaW.PrintMore Go.Proofs.Ytmfbonhdjpmbkaa.Aid
set_option linter.unusedVariables false
theorem l01In_eq (a b c : Int) : spec_l01In.f a b c = some (decide (b ≤ a ∧ a ≤ c)) := by
  by_cases h : b ≤ a <;> simp [spec_l01In.f, h]
theorem within_eq (a b c : Int) : impl_within.f a b c = some (decide (b ≤ a ∧ a ≤ c)) := by
  by_cases h : b ≤ a <;> simp [impl_within.f, h]
/-- What AggOk says. -/
def aggOk (x : S77) : Bool := decide (0 ≤ x.f0 ∧ x.f0 ≤ 1000000) && (decide (0 ≤ x.f1 ∧ x.f1 ≤ 65535) && (decide (1 ≤ x.f2 ∧ x.f2 ≤ 1000000000) && (decide (-1000000000 ≤ x.f3 ∧ x.f3 ≤ 1000000000) && (decide (-1000000 ≤ x.f4 ∧ x.f4 ≤ 1000000) && (decide (-1000000 ≤ x.f5 ∧ x.f5 ≤ 1000000) && decide (x.f4 ≤ x.f5))))))
theorem ite_and (a : Bool) (b : Bool) : (if a = true then some b else some false) = some (a && b) := by cases a <;> rfl
theorem specAggOk_eq (x : S77) : spec_AggOk.f x.f0 x.f1 x.f2 x.f3 x.f4 x.f5 = some (aggOk x) := by
  simp only [spec_AggOk.f, spec_l05Value.f, l01In_eq, Option.bind_some, ite_and, aggOk]
theorem implAggOk_eq (x : S77) : impl_AggOk.f x.f0 x.f1 x.f2 x.f3 x.f4 x.f5 = some (aggOk x) := by
  simp only [impl_AggOk.f, impl_isTime.f, impl_isKey.f, impl_isSum.f, impl_isValue.f, within_eq, Option.bind_some, ite_and, aggOk]
theorem aggOk_key {x : S77} (h : aggOk x = true) : (0 ≤ x.f0 ∧ x.f0 ≤ 1000000) ∧ (0 ≤ x.f1 ∧ x.f1 ≤ 65535) ∧ (1 ≤ x.f2 ∧ x.f2 ≤ 1000000000) ∧ (-1000000000 ≤ x.f3 ∧ x.f3 ≤ 1000000000) ∧ (-1000000 ≤ x.f4 ∧ x.f4 ≤ 1000000) ∧ (-1000000 ≤ x.f5 ∧ x.f5 ≤ 1000000) ∧ x.f4 ≤ x.f5 := by
  simpa [aggOk, and_assoc] using h
theorem idx_not (q : S77 → Bool) : ∀ (l : List (S77)) (i : Int), 0 ≤ i → ∃ r, FnArg.idxF (fun x => some (!q x)) l i = some r ∧ (decide (r ≥ 0) = !l.all q)
  | [], i, h => ⟨-1, rfl, rfl⟩
  | x :: l, i, h => by
    cases hq : q x with
    | true =>
      obtain ⟨r, h1, h2⟩ := idx_not q l (i + 1) (by omega)
      exact ⟨r, by simp [FnArg.idxF, hq, h1], by simp [h2, hq]⟩
    | false => exact ⟨i, by simp [FnArg.idxF, hq], by simp [hq, h]⟩
theorem areAggs_eq (l : List (S77)) : impl_areAggs.f l = some (l.all aggOk) := by
  have hp : impl_areAggs.p = fun x => some (!aggOk x) := funext fun x => by simp only [impl_areAggs.p, implAggOk_eq, Option.bind_some]
  obtain ⟨r, h1, h2⟩ := idx_not aggOk l 0 (by omega)
  simp only [impl_areAggs.f, FnArg.noneF, FnArg.anyF, hp, h1, Option.bind_some, h2, Bool.not_not]
theorem allOk_ev (l : List (S77)) (h : l.length ≤ 9223372036854775806) : Ev (fun k => spec_l08AllOk.f k l) (l.all aggOk) := by
  rw [← all_range l z77]
  refine ev_all l.length (fun k i => spec_l08AllOk.l0 k l i) _ ?_ ?_ ?_
  · intro i hi hb q hq
    refine ev_step hq (fun k => ?_)
    have hb' : aggOk (rd_T77 l (i : Int)) = true := by simpa [rd_T77] using hb
    simp only [spec_l08AllOk.l0, specAggOk_eq, Option.bind_some]
    rw [if_pos (by omega), if_pos (by omega), if_pos hb', w64 (by omega)]
  · intro i hi hb
    have hb' : aggOk (rd_T77 l (i : Int)) = false := by simpa [rd_T77] using hb
    refine ev_now1 (fun k => ?_)
    simp only [spec_l08AllOk.l0, specAggOk_eq, Option.bind_some]
    rw [if_pos (by omega), if_pos (by omega), if_neg (by simp [hb'])]
  · refine ev_now1 (fun k => ?_)
    simp only [spec_l08AllOk.l0]
    rw [if_neg (by omega)]
/-- By window, then key. -/
def ahead (a b : S77) : Bool := decide (a.f0 < b.f0 ∨ a.f0 = b.f0 ∧ a.f1 < b.f1)
theorem ahead_trans {a b c : S77} (h : ahead a b = true) (h' : ahead b c = true) : ahead a c = true := by
  simp only [ahead, decide_eq_true_eq] at *
  omega

end Go.Proofs.Ytmfbonhdjpmbkaa.PureB
