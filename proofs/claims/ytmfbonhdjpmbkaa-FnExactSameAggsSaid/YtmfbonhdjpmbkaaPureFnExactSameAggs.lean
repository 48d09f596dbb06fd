/- SameAggs of the program and of the reference give the same answer, for all lists. No condition. -/
import Derived.Test.YtmfbonhdjpmbkaaPFnExactSameAggsx3
import Derived.Test.YtmfbonhdjpmbkaaAid
namespace Go.Proofs.Ytmfbonhdjpmbkaa.Pure
open Go.RowKit Go.Proofs.Ytmfbonhdjpmbkaa.PFnExactSameAggs Go.Proofs.YtmfbonhdjpmbkaaW.PrintWords Go.Proofs.YtmfbonhdjpmbkaaW.PrintLast Go.Proofs.YtmfbonhdjpmbkaaW.PrintMore Go.Proofs.Ytmfbonhdjpmbkaa.Aid

theorem szAggS_no (l : List S79) (a : Int) (ha : 0 ≤ a ∧ a ≤ 1048576) (h0 : l.length ≤ 9223372036854775807) (h : a < l.length) : laws_szAggS.f l a = some (-1) := by
  simp only [laws_szAggS.f]
  rw [w64 (by omega), if_pos (by omega)]
theorem szAggS_yes (l : List S79) (a : Int) (ha : 0 ≤ a ∧ a ≤ 1048576) (h : (l.length : Int) ≤ a) : laws_szAggS.f l a = some (a - l.length) := by
  simp only [laws_szAggS.f]
  rw [w64 (by omega), if_neg (by omega)]

def conv77 (x : S79) : S77 := ⟨x.f0, x.f1, x.f2, x.f3, x.f4, x.f5⟩
theorem laws_toAggS_ev (l : List S79) (h : l.length ≤ 1048576) : Ev (fun k => laws_toAggS.f k l) (l.map conv77) := by
  have hlen : (l.map conv77).length = l.length := by simp
  have main := ev_count l.length (fun k s i => laws_toAggS.l0 k l s i) (fun i => (l.map conv77).take i ++ (List.replicate l.length z77).drop i) (l.map conv77) (by
    intro i hi hk
    refine ev_step hk (fun k => ?_)
    have hsl : ((l.map conv77).take i ++ (List.replicate l.length z77).drop i).length = l.length := by simp; omega
    have hx : (l.map conv77)[i]? = some (conv77 (rd_T79 l (i : Int))) := by
      rw [List.getElem?_map, mem_getD l i z79 hi]
      simp [rd_T79]
    simp only [laws_toAggS.l0]
    rw [if_pos (by omega), if_pos (by omega)]
    simp only [laws_toAgg.f, Option.bind_some]
    rw [if_pos (by omega), w64 (by omega), Int.toNat_natCast, ← fill_next (by simp) (by simpa using hi) hx]
    rfl) (ev_now1 (fun k => by
    simp only [laws_toAggS.l0]
    rw [if_neg (by omega)]
    simp [List.take_of_length_le]))
  refine Ev.congr (fun k => ?_) main
  simp only [laws_toAggS.f]
  rw [if_pos (by omega), if_pos (by omega)]
  simp
theorem laws_eqAggS_ev (l : List S77) (h : l.length ≤ 1048576) : Ev (fun k => laws_eqAggS.f k l l) true := by
  refine Ev.congr (fun k => ?_) (ev_count l.length (fun k _ i => laws_eqAggS.l0 k l l i) (fun _ => ()) true (by
    intro i hi hk
    refine ev_step hk (fun k => ?_)
    simp only [laws_eqAggS.l0, laws_eqAgg.f, if_true, Option.bind_some]
    rw [if_pos (by omega), if_pos (by omega), if_pos (by omega), w64 (by omega)]) (ev_now1 (fun k => by
    simp only [laws_eqAggS.l0]
    rw [if_neg (by omega)])))
  simp [laws_eqAggS.f]

/-- The answer of both. -/
def same1 (a b : S77) : Bool := !(!(a.f0 == b.f0) || (!(a.f1 == b.f1) || (!(a.f2 == b.f2) || (!(a.f3 == b.f3) || (!(a.f4 == b.f4) || (!(a.f5 == b.f5)))))))
theorem spec_loop (l m : List S77) (h : l.length ≤ 1048576) (hm : l.length = m.length) (d : Nat) : ∀ i : Nat, i + d = l.length → ∃ r, Ev (fun k => spec_SameAggs.l0 k l m i) r ∧ Ev (fun k => impl_Agg.l0 k l m l.length i) r := by
  induction d with
  | zero =>
    intro i hi
    refine ⟨true, ev_now1 (fun k => ?_), ev_now1 (fun k => ?_)⟩
    · simp only [spec_SameAggs.l0]
      rw [if_neg (by omega)]
    · simp only [impl_Agg.l0]
      rw [if_neg (by omega)]
  | succ d ih =>
    intro i hi
    by_cases hs : same1 (rd_T77 l i) (rd_T77 m i) = true
    · obtain ⟨r, h1, h2⟩ := ih (i + 1) (by omega)
      have hs' := hs
      simp only [same1, Bool.not_eq_true'] at hs'
      refine ⟨r, ev_step h1 (fun k => ?_), ev_step h2 (fun k => ?_)⟩
      · simp only [spec_SameAggs.l0]
        rw [if_pos (by omega), if_pos (by omega), if_pos (by omega), hs', w64 (by omega)]
        simp
      · simp only [impl_Agg.l0]
        rw [if_pos (by omega), if_pos (by omega), if_pos (by omega), if_pos (by omega), hs', w64 (by omega)]
        simp
    · have hs' : same1 (rd_T77 l i) (rd_T77 m i) = false := by simpa using hs
      simp only [same1, Bool.not_eq_false'] at hs'
      refine ⟨false, ev_now1 (fun k => ?_), ev_now1 (fun k => ?_)⟩
      · simp only [spec_SameAggs.l0]
        rw [if_pos (by omega), if_pos (by omega), if_pos (by omega), if_pos hs']
      · simp only [impl_Agg.l0]
        rw [if_pos (by omega), if_pos (by omega), if_pos (by omega), if_pos (by omega), if_pos hs']
theorem same_ev (l m : List S77) (h : l.length ≤ 1048576) : ∃ r, Ev (fun k => spec_SameAggs.f k l m) r ∧ Ev (fun k => impl_SameAggs.f k l m) r := by
  by_cases hm : l.length = m.length
  · obtain ⟨r, h1, h2⟩ := spec_loop l m h hm l.length 0 (by omega)
    refine ⟨r, Ev.congr (fun k => ?_) h1, Ev.congr (f := fun k => impl_Agg.l0 k l m l.length 0) (fun k => ?_) h2⟩
    · simp [spec_SameAggs.f, hm]
    · simp [impl_SameAggs.f, impl_Agg.f, hm]
  · have hm' : ¬ ((l.length : Int) = m.length) := by omega
    refine ⟨false, Ev.congr (f := fun _ => some false) (fun k => ?_) (Ev.now _), Ev.congr (f := fun _ => some false) (fun k => ?_) (Ev.now _)⟩
    · simp only [spec_SameAggs.f]
      rw [if_neg hm']
    · simp only [impl_SameAggs.f, impl_Agg.f]
      rw [if_neg hm']
      rfl
theorem FnExactSameAggs (l m : List S79) (hl : l.length ≤ 9223372036854775807) {p : Prop} (_ : p) (hm : m.length ≤ 9223372036854775807) {q : Prop} (_ : q) : ∃ k, laws_FnExactSameAggs.f k l m = some true := by
  refine Ev.rounds (r := true) ?_
  unfold laws_FnExactSameAggs.f
  by_cases h1 : l.length ≤ 1048576
  · rw [szAggS_yes l _ (by omega) (by omega)]
    refine Ev.congr (fun k => (Option.bind_some _ _).trans (if_neg (by omega))) ?_
    by_cases h2 : (m.length : Int) ≤ 1048576 - l.length
    · rw [szAggS_yes m _ (by omega) (by omega)]
      refine Ev.congr (fun k => (Option.bind_some _ _).trans (if_neg (by omega))) ?_
      have tl := laws_toAggS_ev l (by omega)
      have tm := laws_toAggS_ev m (by omega)
      obtain ⟨r, hs, hi⟩ := same_ev (l.map conv77) (m.map conv77) (by simpa using h1)
      refine Ev.bind tl (Ev.bind tm (Ev.bind hs (Ev.bind tl (Ev.bind tm (Ev.bind hi ?_)))))
      refine Ev.congr (fun k => if_neg (by simp)) (Ev.bind tl (Ev.bind (laws_eqAggS_ev _ (by simpa using h1)) ?_))
      refine Ev.congr (fun k => if_pos rfl) (Ev.bind tm (Ev.bind (laws_eqAggS_ev _ (by simp; omega)) ?_))
      exact Ev.congr (fun k => if_pos rfl) (Ev.now _)
    · rw [szAggS_no m _ (by omega) hm (by omega)]
      exact Ev.congr (fun k => (Option.bind_some _ _).trans (if_pos (by omega))) (Ev.now _)
  · rw [szAggS_no l _ (by omega) hl (by omega)]
    exact Ev.congr (fun k => (Option.bind_some _ _).trans (if_pos (by omega))) (Ev.now _)

end Go.Proofs.Ytmfbonhdjpmbkaa.Pure
