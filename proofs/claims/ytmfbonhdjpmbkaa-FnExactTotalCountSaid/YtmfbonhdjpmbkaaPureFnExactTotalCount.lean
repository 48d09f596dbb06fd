/- TotalCount of the program and of the reference give the same number, for all lists. No condition. -/
import Derived.Test.YtmfbonhdjpmbkaaPFnExactTotalCountx2
import Derived.Test.YtmfbonhdjpmbkaaAid
namespace Go.Proofs.Ytmfbonhdjpmbkaa.Pure
open Go.RowKit Go.Proofs.Ytmfbonhdjpmbkaa.PFnExactTotalCount Go.Proofs.YtmfbonhdjpmbkaaW.PrintWords Go.Proofs.YtmfbonhdjpmbkaaW.PrintLast Go.Proofs.YtmfbonhdjpmbkaaW.PrintMore Go.Proofs.Ytmfbonhdjpmbkaa.Aid

theorem szAggS_no (l : List S79) (a : Int) (ha : 0 ≤ a ∧ a ≤ 1048576) (h0 : l.length ≤ 9223372036854775807) (h : a < l.length) : laws_szAggS.f l a = some (-1) := by
  simp only [laws_szAggS.f]
  rw [w64 (by omega), if_pos (by omega)]
theorem szAggS_yes (l : List S79) (a : Int) (ha : 0 ≤ a ∧ a ≤ 1048576) (h : (l.length : Int) ≤ a) : laws_szAggS.f l a = some (a - l.length) := by
  simp only [laws_szAggS.f]
  rw [w64 (by omega), if_neg (by omega)]

def conv77 (x : S79) : S77 := ⟨x.f0, x.f1, x.f2, x.f3, x.f4, x.f5⟩
theorem laws_toAggS_ev (l : List S79) (h : l.length ≤ 1048576) : Ev (fun k => laws_toAggS.f k l) (l.map conv77) := by
  have hlen : (l.map conv77).length = l.length := by simp
  have main := ev_count l.length (fun k s i => laws_toAggS.l0 k l s i) (fun i => (l.map conv77).take i ++ (List.replicate l.length z77).drop i) (l.map conv77) (by
    intro i hi hk
    refine ev_step hk (fun k => ?_)
    have hsl : ((l.map conv77).take i ++ (List.replicate l.length z77).drop i).length = l.length := by simp; omega
    have hx : (l.map conv77)[i]? = some (conv77 (rd_T79 l (i : Int))) := by
      rw [List.getElem?_map, mem_getD l i z79 hi]
      simp [rd_T79]
    simp only [laws_toAggS.l0]
    rw [if_pos (by omega), if_pos (by omega)]
    simp only [laws_toAgg.f, Option.bind_some]
    rw [if_pos (by omega), w64 (by omega), Int.toNat_natCast, ← fill_next (by simp) (by simpa using hi) hx]
    rfl) (ev_now1 (fun k => by
    simp only [laws_toAggS.l0]
    rw [if_neg (by omega)]
    simp [List.take_of_length_le]))
  refine Ev.congr (fun k => ?_) main
  simp only [laws_toAggS.f]
  rw [if_pos (by omega), if_pos (by omega)]
  simp
theorem laws_eqAggS_ev (l : List S77) (h : l.length ≤ 1048576) : Ev (fun k => laws_eqAggS.f k l l) true := by
  refine Ev.congr (fun k => ?_) (ev_count l.length (fun k _ i => laws_eqAggS.l0 k l l i) (fun _ => ()) true (by
    intro i hi hk
    refine ev_step hk (fun k => ?_)
    simp only [laws_eqAggS.l0, laws_eqAgg.f, if_true, Option.bind_some]
    rw [if_pos (by omega), if_pos (by omega), if_pos (by omega), w64 (by omega)]) (ev_now1 (fun k => by
    simp only [laws_eqAggS.l0]
    rw [if_neg (by omega)])))
  simp [laws_eqAggS.f]

theorem l01In_eq (a b c : Int) : spec_l01In.f a b c = some (decide (b ≤ a ∧ a ≤ c)) := by
  by_cases h : b ≤ a <;> simp [spec_l01In.f, h]
theorem within_eq (a b c : Int) : impl_within.f a b c = some (decide (b ≤ a ∧ a ≤ c)) := by
  by_cases h : b ≤ a <;> simp [impl_within.f, h]
theorem aggOk_eq (a b c d e f : Int) : impl_AggOk.f a b c d e f = spec_AggOk.f a b c d e f := by
  simp only [impl_AggOk.f, spec_AggOk.f, impl_isTime.f, impl_isKey.f, impl_isSum.f, impl_isValue.f, spec_l05Value.f, l01In_eq, within_eq, Option.bind_some]
theorem aggOk_some (a b c d e f : Int) : ∃ r, spec_AggOk.f a b c d e f = some r ∧ (r = true → 1 ≤ c ∧ c ≤ 1000000000) := by
  simp only [spec_AggOk.f, spec_l05Value.f, l01In_eq, Option.bind_some]
  by_cases h : 1 ≤ c ∧ c ≤ 1000000000
  · repeat' split
    all_goals exact ⟨_, rfl, fun _ => h⟩
  · simp only [h, decide_false, Bool.false_eq_true, if_false]
    repeat' split
    all_goals exact ⟨_, rfl, fun h => by cases h⟩
theorem total_loop (l : List S77) (h : l.length ≤ 1048576) (d : Nat) : ∀ (i : Nat) (s : Int), i + d = l.length → 0 ≤ s → s ≤ 1000000000 → ∃ r, Ev (fun k => spec_TotalCount.l0 k l s i) r ∧ Ev (fun k => impl_TotalCount.l0 k s l l.length i) r := by
  induction d with
  | zero =>
    intro i s hi h0 h1
    refine ⟨s, ev_now1 (fun k => ?_), ev_now1 (fun k => ?_)⟩
    · simp only [spec_TotalCount.l0]
      rw [if_neg (by omega)]
    · simp only [impl_TotalCount.l0]
      rw [if_neg (by omega)]
  | succ d ih =>
    intro i s hi h0 h1
    obtain ⟨b, hb, hc⟩ := aggOk_some (rd_T77 l i).f0 (rd_T77 l i).f1 (rd_T77 l i).f2 (rd_T77 l i).f3 (rd_T77 l i).f4 (rd_T77 l i).f5
    cases b with
    | true =>
      have hc' := hc rfl
      have hcv : ∃ c, c = (rd_T77 l i).f2 := ⟨_, rfl⟩
      obtain ⟨c, hcv⟩ := hcv
      rw [← hcv] at hc'
      have hcap : spec_l05Cap.f (s + c) = some (mn (s + c) 1000000000) := by
        simp only [spec_l05Cap.f, mn]
        by_cases hg : s + c > 1000000000
        · rw [if_pos hg, if_pos (by omega)]
        · rw [if_neg hg, if_neg (by omega), if_neg (by omega)]
      obtain ⟨r, e1, e2⟩ := ih (i + 1) (mn (s + c) 1000000000) (by omega) (by unfold mn; omega) (by unfold mn; omega)
      refine ⟨r, ev_step e1 (fun k => ?_), ev_step e2 (fun k => ?_)⟩
      · simp only [spec_TotalCount.l0]
        rw [if_pos (by omega), if_pos (by omega), hb]
        simp only [Option.bind_some, if_true]
        rw [← hcv, w64 (n := s + c) (by omega), hcap]
        simp only [Option.bind_some]
        rw [w64 (by omega)]
        rfl
      · simp only [impl_TotalCount.l0]
        rw [if_pos (by omega), if_pos (by omega), if_pos (by omega), aggOk_eq, hb]
        simp only [Option.bind_some, if_true]
        rw [← hcv, w64 (n := s + c) (by omega), w64 (by omega)]
        rfl
    | false =>
      obtain ⟨r, e1, e2⟩ := ih (i + 1) s (by omega) h0 h1
      refine ⟨r, ev_step e1 (fun k => ?_), ev_step e2 (fun k => ?_)⟩
      · simp only [spec_TotalCount.l0]
        rw [if_pos (by omega), if_pos (by omega), hb]
        simp only [Option.bind_some, Bool.false_eq_true, if_false]
        rw [w64 (by omega)]
        rfl
      · simp only [impl_TotalCount.l0]
        rw [if_pos (by omega), if_pos (by omega), if_pos (by omega), aggOk_eq, hb]
        simp only [Option.bind_some, Bool.false_eq_true, if_false]
        rw [w64 (by omega)]
        rfl
theorem FnExactTotalCount (l : List S79) (hl : l.length ≤ 9223372036854775807) {p : Prop} (_ : p) : ∃ k, laws_FnExactTotalCount.f k l = some true := by
  refine Ev.rounds (r := true) ?_
  unfold laws_FnExactTotalCount.f
  by_cases h1 : l.length ≤ 1048576
  · rw [szAggS_yes l _ (by omega) (by omega)]
    refine Ev.congr (fun k => (Option.bind_some _ _).trans (if_neg (by omega))) ?_
    have tl := laws_toAggS_ev l (by omega)
    obtain ⟨r, hs, hi⟩ := total_loop (l.map conv77) (by simpa using h1) (l.map conv77).length 0 0 (by omega) (by omega) (by omega)
    refine Ev.bind tl (Ev.bind hs (Ev.bind tl (Ev.bind hi ?_)))
    refine Ev.congr (fun k => if_pos rfl) (Ev.bind tl (Ev.bind (laws_eqAggS_ev _ (by simpa using h1)) ?_))
    exact Ev.congr (fun k => if_pos rfl) (Ev.now _)
  · rw [szAggS_no l _ (by omega) hl (by omega)]
    exact Ev.congr (fun k => (Option.bind_some _ _).trans (if_pos (by omega))) (Ev.now _)

end Go.Proofs.Ytmfbonhdjpmbkaa.Pure
