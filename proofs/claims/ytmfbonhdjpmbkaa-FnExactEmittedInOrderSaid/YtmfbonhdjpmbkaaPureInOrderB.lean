/- EmittedInOrder of the program and of the reference give the same answer, for all lists. No condition. -/
import Derived.Test.YtmfbonhdjpmbkaaPBx0
import Derived.Test.YtmfbonhdjpmbkaaPBx1
import Derived.Test.YtmfbonhdjpmbkaaPBx2
import Derived.Test.YtmfbonhdjpmbkaaPBx3
import Derived.Test.YtmfbonhdjpmbkaaPBx4
import Derived.Test.YtmfbonhdjpmbkaaPBx5
import Derived.Test.YtmfbonhdjpmbkaaPBx6
import Derived.Test.YtmfbonhdjpmbkaaAid
import Derived.Test.YtmfbonhdjpmbkaaFnArg
import Derived.Test.YtmfbonhdjpmbkaaPureAggB
import Derived.Test.YtmfbonhdjpmbkaaPureAggOrderB
import Derived.Test.YtmfbonhdjpmbkaaPureAggSortedB
import Derived.Test.YtmfbonhdjpmbkaaPureAggListB
namespace Go.Proofs.Ytmfbonhdjpmbkaa.PureB
open Go.RowKit Go.Proofs.Ytmfbonhdjpmbkaa.PB Go.Proofs.YtmfbonhdjpmbkaaW.PrintWords Go.Proofs.YtmfbonhdjpmbkaaW.PrintLast Go.Proofs.YtmfbonhdjpmbkaaW.PrintMore Go.Proofs.Ytmfbonhdjpmbkaa.Aid
set_option linter.unusedVariables false
theorem shardOf_eq (a b : Int) : impl_ShardOf.f a b = spec_ShardOf.f a b := by
  simp only [impl_ShardOf.f, spec_ShardOf.f, impl_isKey.f, impl_areShards.f, l01In_eq, within_eq, Option.bind_some]
/-- The shard of a key. -/
def shardN (key n : Int) : Int := Int.tmod (wrap64 (Int.tdiv (Int.tmod (wrap64 (key * 40503)) 65536) 64)) n
theorem shardOf_some {key n : Int} (hk : 0 ≤ key ∧ key ≤ 65535) (hn : 1 ≤ n ∧ n ≤ 4) : spec_ShardOf.f key n = some (shardN key n) ∧ 0 ≤ shardN key n ∧ shardN key n < n := by
  have h1 : wrap64 (key * 40503) = key * 40503 := w64 (by omega)
  have h2 : 0 ≤ Int.tmod (key * 40503) 65536 := Int.tmod_nonneg _ (by omega)
  have h3 : Int.tmod (key * 40503) 65536 < 65536 := Int.tmod_lt_of_pos _ (by omega)
  have h4 : 0 ≤ Int.tdiv (Int.tmod (key * 40503) 65536) 64 := Int.tdiv_nonneg h2 (by omega)
  have h5 : Int.tdiv (Int.tmod (key * 40503) 65536) 64 ≤ Int.tmod (key * 40503) 65536 := by
    rw [Int.tdiv_eq_ediv_of_nonneg h2]
    omega
  have h6 : wrap64 (Int.tdiv (Int.tmod (key * 40503) 65536) 64) = Int.tdiv (Int.tmod (key * 40503) 65536) 64 := w64 (by omega)
  have h0 : ¬ n = 0 := by omega
  refine ⟨?_, ?_, ?_⟩
  · simp [spec_ShardOf.f, l01In_eq, hk, hn, h0, shardN]
  · unfold shardN
    rw [h1, h6]
    exact Int.tmod_nonneg _ h4
  · unfold shardN
    exact Int.tmod_lt_of_pos _ (by omega)

theorem all_pairs (l : List (S77)) (q : S77 → S77 → Bool) : (List.range l.length).all (fun i => (List.range i).all (fun k => q (l.getD k z77) (l.getD i z77))) = decide (l.Pairwise (fun a b => q a b = true)) := by
  rw [Bool.eq_iff_iff, List.all_eq_true]
  simp only [decide_eq_true_eq, List.pairwise_iff_getElem, List.mem_range, List.all_eq_true]
  constructor
  · intro h i j hi hj hij
    have := h j hj i hij
    rwa [getD_eq _ _ _ (by omega), getD_eq _ _ _ (by omega)] at this
  · intro h i hi k hk
    rw [getD_eq _ _ _ (by omega), getD_eq _ _ _ (by omega)]
    exact h k i _ _ hk

/-- One of a shard stands behind another of it the right way. -/
def pairOk (n : Int) (a b : S77) : Bool := !(decide (shardN b.f1 n = shardN a.f1 n)) || ahead a b
theorem spec_inner (l : List (S77)) (n : Int) (hl : l.length ≤ 1048576) (hn : 1 ≤ n ∧ n ≤ 4) (hok : ∀ x ∈ l, aggOk x = true) (i : Nat) (hi : i < l.length) (q : Bool) (hq : Ev (fun k => spec_EmittedInOrder.l0 k l n ((i : Int) + 1)) q) :
    Ev (fun k => spec_EmittedInOrder.l1 k l n i 0) (if (List.range i).all (fun k => pairOk n (l.getD k z77) (l.getD i z77)) = true then q else false) := by
  have hsh : ∀ j : Nat, j < l.length → spec_ShardOf.f (rd_T77 l (j : Int)).f1 n = some (shardN (rd_T77 l (j : Int)).f1 n) := by
    intro j hj
    refine (shardOf_some ?_ hn).1
    have := hok (rd_T77 l (j : Int)) (by simp [rd_T77, hj])
    exact (aggOk_key this).2.1
  have hrd : ∀ j : Nat, l.getD j z77 = rd_T77 l (j : Int) := fun j => by simp [rd_T77]
  simp only [hrd]
  refine ev_allK i (fun k x => spec_EmittedInOrder.l1 k l n i x) _ false q ?_ ?_ ?_
  · intro j hj hb q' hq'
    refine ev_step hq' (fun k => ?_)
    simp only [spec_EmittedInOrder.l1, hsh i hi, hsh j (by omega), Option.bind_some, specAhead_eq]
    rw [if_pos (by omega), if_pos (by omega), if_pos (by omega), if_pos (by omega), if_pos (by omega), w64 (by omega)]
    by_cases he : shardN (rd_T77 l (i : Int)).f1 n = shardN (rd_T77 l (j : Int)).f1 n
    · have ha : ahead (rd_T77 l (j : Int)) (rd_T77 l (i : Int)) = true := by simpa [pairOk, he] using hb
      rw [if_pos he, if_pos ha]
    · rw [if_neg he]
  · intro j hj hb
    refine ev_now1 (fun k => ?_)
    have he : shardN (rd_T77 l (i : Int)).f1 n = shardN (rd_T77 l (j : Int)).f1 n := by
      refine Classical.byContradiction fun hne => ?_
      simp [pairOk, hne] at hb
    have ha : ahead (rd_T77 l (j : Int)) (rd_T77 l (i : Int)) = false := by simpa [pairOk, he] using hb
    simp only [spec_EmittedInOrder.l1, hsh i hi, hsh j (by omega), Option.bind_some, specAhead_eq]
    rw [if_pos (by omega), if_pos (by omega), if_pos (by omega), if_pos (by omega), if_pos (by omega), if_pos he, if_neg (by simp [ha])]
  · refine ev_step hq (fun k => ?_)
    simp only [spec_EmittedInOrder.l1]
    rw [if_neg (by omega), w64 (by omega)]
theorem spec_order (l : List (S77)) (n : Int) (hl : l.length ≤ 1048576) (hn : 1 ≤ n ∧ n ≤ 4) (hok : ∀ x ∈ l, aggOk x = true) : Ev (fun k => spec_EmittedInOrder.l0 k l n 0) (decide (l.Pairwise (fun a b => pairOk n a b = true))) := by
  rw [← all_pairs]
  refine ev_all l.length (fun k x => spec_EmittedInOrder.l0 k l n x) _ ?_ ?_ ?_
  · intro i hi hb q hq
    have := spec_inner l n hl hn hok i hi q hq
    rw [hb, if_pos rfl] at this
    refine ev_step this (fun k => ?_)
    simp only [spec_EmittedInOrder.l0]
    rw [if_pos (by omega)]
  · intro i hi hb
    obtain ⟨q, hq⟩ : ∃ q, Ev (fun k => spec_EmittedInOrder.l0 k l n ((i : Int) + 1)) q ∨ q = false := ⟨false, .inr rfl⟩
    have key : ∀ d i : Nat, i + d = l.length → ∃ q, Ev (fun k => spec_EmittedInOrder.l0 k l n (i : Int)) q := by
      intro d
      induction d with
      | zero => intro i hi; exact ⟨true, ev_now1 (fun k => by simp only [spec_EmittedInOrder.l0]; rw [if_neg (by omega)])⟩
      | succ d ih =>
        intro i hi
        obtain ⟨q, hq⟩ := ih (i + 1) (by omega)
        have := spec_inner l n hl hn hok i (by omega) q (by simpa using hq)
        exact ⟨_, ev_step this (fun k => by simp only [spec_EmittedInOrder.l0]; rw [if_pos (by omega)])⟩
    obtain ⟨q, hq⟩ := key (l.length - (i + 1)) (i + 1) (by omega)
    have := spec_inner l n hl hn hok i hi q (by simpa using hq)
    rw [hb, if_neg (by simp)] at this
    refine ev_step this (fun k => ?_)
    simp only [spec_EmittedInOrder.l0]
    rw [if_pos (by omega)]
  · refine ev_now1 (fun k => ?_)
    simp only [spec_EmittedInOrder.l0]
    rw [if_neg (by omega)]

/-- The parts of the first i. -/
def part (l : List (S77)) (n : Int) (s : Nat) : List (S77) := l.filter (fun x => decide (shardN x.f1 n = s))
theorem part_snoc (l : List (S77)) (n : Int) (s i : Nat) (hi : i < l.length) : part (l.take (i + 1)) n s = part (l.take i) n s ++ (if shardN (l.getD i z77).f1 n = s then [l.getD i z77] else []) := by
  rw [getD_eq _ _ _ hi, List.take_succ_eq_append_getElem hi, part, part, List.filter_append]
  congr 1
  by_cases h : shardN (l[i]).f1 n = s <;> simp [h]
theorem part_le (l : List (S77)) (n : Int) (s : Nat) : (part l n s).length ≤ l.length := List.length_filter_le _ _

theorem notSorted_ev (ps : List (List (S77))) (h : ∀ p ∈ ps, p.length ≤ 9223372036854775806) : Ev (fun k => inOrder_any.f k ps) (!ps.all sorted) := by
  have key : ∀ (ps : List (List (S77))) (i : Int), 0 ≤ i → (∀ p ∈ ps, p.length ≤ 9223372036854775806) → ∃ r, Ev (fun k => FnArg.idxF (inOrder_any.p k) ps i) r ∧ decide (r ≥ 0) = !ps.all sorted := by
    intro ps
    induction ps with
    | nil => intro i _ _; exact ⟨-1, Ev.now _, rfl⟩
    | cons p ps ih =>
      intro i hi hp
      have hs := areSorted_ev p (hp p (by simp))
      cases hb : sorted p with
      | true =>
        obtain ⟨r, h1, h2⟩ := ih (i + 1) (by omega) (fun q hq => hp q (by simp [hq]))
        rw [hb] at hs
        refine ⟨r, ?_, by simp [h2, hb]⟩
        refine Ev.congr (f := fun k => (inOrder_any.p k p).bind fun b => if b = true then some i else FnArg.idxF (inOrder_any.p k) ps (i + 1)) (fun k => rfl) (Ev.bind (a := false) ?_ h1)
        exact Ev.bind hs (Ev.now _)
      | false =>
        rw [hb] at hs
        refine ⟨i, ?_, by simp [hb, hi]⟩
        refine Ev.congr (f := fun k => (inOrder_any.p k p).bind fun b => if b = true then some i else FnArg.idxF (inOrder_any.p k) ps (i + 1)) (fun k => rfl) (Ev.bind (a := true) ?_ (Ev.now _))
        exact Ev.bind hs (Ev.now _)
  obtain ⟨r, h1, h2⟩ := key ps 0 (by omega) h
  refine Ev.congr (f := fun k => (FnArg.idxF (inOrder_any.p k) ps 0).bind fun r => some (decide (r ≥ 0))) (fun k => rfl) (Ev.bind h1 ?_)
  rw [h2]
  exact Ev.now _

theorem impl_parts (l : List (S77)) (n : Nat) (hl : l.length ≤ 1048576) (hn : 1 ≤ n ∧ n ≤ 4) (hok : ∀ x ∈ l, aggOk x = true) :
    Ev (fun k => impl_EmittedInOrder.l0 k n (List.replicate n []) l l.length 0) ((List.range n).all (fun s => sorted (part l n s))) := by
  have h0 : (List.replicate n ([] : List (S77))) = (List.range n).map (fun s => part (l.take 0) n s) := by
    apply List.ext_getElem
    · simp
    · intro i h1 h2
      simp [part]
  rw [h0]
  refine ev_count l.length (fun k ps i => impl_EmittedInOrder.l0 k n ps l l.length i) (fun i => (List.range n).map (fun s => part (l.take i) n s)) _ ?_ ?_
  · intro i hi hq
    have hx : aggOk (rd_T77 l (i : Int)) = true := hok _ (by simp [rd_T77, hi])
    obtain ⟨h1, h2, h3⟩ := shardOf_some (n := n) (aggOk_key hx).2.1 (by omega)
    obtain ⟨s, hs⟩ : ∃ s : Nat, shardN (rd_T77 l (i : Int)).f1 n = s := ⟨(shardN (rd_T77 l (i : Int)).f1 n).toNat, by omega⟩
    have hrd : rd_T77 l (i : Int) = l.getD i z77 := by simp [rd_T77]
    have hrl : rd_L3 ((List.range n).map (fun s => part (l.take i) n s)) (s : Int) = part (l.take i) n s := by
      have : s < n := by omega
      simp [rd_L3, this]
    refine ev_step hq (fun k => ?_)
    simp only [impl_EmittedInOrder.l0, shardOf_eq, h1, Option.bind_some, hs, hrl]
    have hpl := part_le (l.take i) n s
    have htl : (l.take i).length ≤ l.length := by simp; omega
    rw [if_pos (by omega), if_pos (by omega), if_pos (by omega), if_pos (by omega), if_pos (by simp; omega), if_pos (by omega), w64 (by omega), Int.toNat_natCast]
    congr 1
    apply List.ext_getElem
    · simp
    · intro j hj1 hj2
      simp only [List.getElem_set, List.getElem_map, List.getElem_range]
      rw [part_snoc l n j i hi, ← hrd, hs]
      by_cases hjs : s = j
      · subst hjs
        simp
      · have : ¬ ((s : Int) = (j : Int)) := by omega
        simp [hjs, this]
  · have hp : ∀ p ∈ (List.range n).map (fun s => part (l.take l.length) n s), p.length ≤ 9223372036854775806 := by
      intro p hp
      obtain ⟨s, _, rfl⟩ := List.mem_map.1 hp
      have := part_le (l.take l.length) n s
      rw [List.take_length] at this ⊢
      omega
    have := notSorted_ev _ hp
    refine Ev.step (f := fun k => (inOrder_any.f k ((List.range n).map (fun s => part (l.take l.length) n s))).bind fun t => some (!t)) (fun k => ?_) (Ev.bind this ?_)
    · simp only [impl_EmittedInOrder.l0]
      rw [if_neg (by omega)]
    · have e : (!(!((List.range n).map (fun s => part (l.take l.length) n s)).all sorted)) = (List.range n).all (fun s => sorted (part l n s)) := by
        rw [Bool.not_not, List.all_map, List.take_length]
        rfl
      rw [e]
      exact Ev.now _

theorem order_same (l : List (S77)) (n : Nat) (hn : 1 ≤ n ∧ n ≤ 4) (hok : ∀ x ∈ l, aggOk x = true) : (List.range n).all (fun s => sorted (part l n s)) = decide (l.Pairwise (fun a b => pairOk n a b = true)) := by
  rw [Bool.eq_iff_iff, List.all_eq_true]
  simp only [sorted, part, decide_eq_true_eq, List.pairwise_filter, List.mem_range]
  constructor
  · intro h
    rw [List.pairwise_iff_getElem]
    intro i j hi hj hij
    by_cases he : shardN (l[j]).f1 n = shardN (l[i]).f1 n
    · obtain ⟨_, h2, h3⟩ := shardOf_some (n := n) (aggOk_key (hok l[i] (by simp))).2.1 (by omega)
      have := List.pairwise_iff_getElem.1 (h (shardN (l[i]).f1 n).toNat (by omega)) i j hi hj hij (by omega) (by omega)
      simp [pairOk, this]
    · simp [pairOk, he]
  · intro h s hs
    refine h.imp ?_
    intro a b hab ha hb
    simpa [pairOk, ha, hb] using hab

theorem FnExactEmittedInOrder (l : List (S79)) (a1 : Int) (hl : l.length ≤ 9223372036854775807) {p : Prop} (_ : p) {q : Prop} (_ : q) : ∃ k, laws_FnExactEmittedInOrder.f k l a1 = some true := by
  refine Ev.rounds (r := true) ?_
  unfold laws_FnExactEmittedInOrder.f
  by_cases h1 : l.length ≤ 1048576
  · rw [szAggS_yes l _ (by omega) (by omega)]
    refine Ev.congr (fun k => (Option.bind_some _ _).trans (if_neg (by omega))) ?_
    have tl := laws_toAggS_ev l (by omega)
    have both : ∃ r, Ev (fun k => spec_EmittedInOrder.f k (l.map conv77) a1) r ∧ Ev (fun k => impl_EmittedInOrder.f k (l.map conv77) a1) r := by
      generalize hm : l.map conv77 = m
      have hml : m.length ≤ 1048576 := by rw [← hm]; simpa using h1
      have s1 : Ev (fun k => spec_EmittedInOrder.j0 k m a1 true) false := ev_now1 (fun k => by simp [spec_EmittedInOrder.j0])
      have i1 : Ev (fun k => impl_EmittedInOrder.j0 k m a1 true) false := ev_now1 (fun k => by simp [impl_EmittedInOrder.j0])
      by_cases hn : 1 ≤ a1 ∧ a1 ≤ 4
      · have ha := allOk_ev m (by omega)
        have hb := areAggs_eq m
        cases hall : m.all aggOk with
        | true =>
          obtain ⟨n, rfl⟩ : ∃ n : Nat, a1 = n := ⟨a1.toNat, by omega⟩
          have hok : ∀ x ∈ m, aggOk x = true := List.all_eq_true.1 hall
          rw [hall] at ha hb
          refine ⟨decide (m.Pairwise (fun a b => pairOk n a b = true)), ?_, Ev.congr (f := fun k => impl_EmittedInOrder.j0 k m n false) (fun k => by simp [impl_EmittedInOrder.f, impl_areShards.f, within_eq, hn, hb]) ?_⟩
          · refine Ev.congr (f := fun k => (spec_l08AllOk.f k m).bind fun t => spec_EmittedInOrder.j0 k m n (!t)) (fun k => by simp [spec_EmittedInOrder.f, l01In_eq, hn]) (Ev.bind ha ?_)
            exact ev_step (spec_order m n hml hn hok) (fun k => by simp [spec_EmittedInOrder.j0])
          · rw [← order_same m n (by omega) hok]
            refine ev_step (impl_parts m n hml (by omega) hok) (fun k => ?_)
            simp only [impl_EmittedInOrder.j0]
            rw [if_neg (by simp), if_pos (by omega), if_pos (by omega), Int.toNat_natCast]
        | false =>
          rw [hall] at ha hb
          exact ⟨false, Ev.congr (f := fun k => (spec_l08AllOk.f k m).bind fun t => spec_EmittedInOrder.j0 k m a1 (!t)) (fun k => by simp [spec_EmittedInOrder.f, l01In_eq, hn]) (Ev.bind ha s1), Ev.congr (fun k => by simp [impl_EmittedInOrder.f, impl_areShards.f, within_eq, hn, hb]) i1⟩
      · exact ⟨false, Ev.congr (fun k => by simp [spec_EmittedInOrder.f, l01In_eq, hn]) s1, Ev.congr (fun k => by simp [impl_EmittedInOrder.f, impl_areShards.f, within_eq, hn]) i1⟩
    obtain ⟨r, hs, hi⟩ := both
    refine Ev.bind tl (Ev.bind hs (Ev.bind tl (Ev.bind hi ?_)))
    refine Ev.congr (fun k => if_neg (by simp)) (Ev.bind tl (Ev.bind (laws_eqAggS_ev _ (by simpa using h1)) ?_))
    exact Ev.congr (fun k => if_pos rfl) (Ev.now _)
  · rw [szAggS_no l _ (by omega) hl (by omega)]
    exact Ev.congr (fun k => (Option.bind_some _ _).trans (if_pos (by omega))) (Ev.now _)

end Go.Proofs.Ytmfbonhdjpmbkaa.PureB
