/- KeysOf of the program and of the reference give the same list, for all arguments. No condition. -/
import Derived.Test.YtmfbonhdjpmbkaaPFnExactKeysOfx2
namespace Go.Proofs.Ytmfbonhdjpmbkaa.Pure
open Go.RowKit Go.Proofs.Ytmfbonhdjpmbkaa.PFnExactKeysOf Go.Proofs.YtmfbonhdjpmbkaaW.PrintWords Go.Proofs.YtmfbonhdjpmbkaaW.PrintLast

theorem wrap_small {n : Int} (h : -9223372036854775808 ≤ n ∧ n ≤ 9223372036854775807) : wrap64 n = n := by
  unfold wrap64
  omega

theorem l01In_eq (a b c : Int) : spec_l01In.f a b c = some (decide (b ≤ a ∧ a ≤ c)) := by
  by_cases h : b ≤ a <;> simp [spec_l01In.f, h]
theorem within_eq (a b c : Int) : impl_within.f a b c = some (decide (b ≤ a ∧ a ≤ c)) := by
  by_cases h : b ≤ a <;> simp [impl_within.f, h]
theorem shardOf_eq (a b : Int) : impl_ShardOf.f a b = spec_ShardOf.f a b := by
  simp only [impl_ShardOf.f, spec_ShardOf.f, impl_isKey.f, impl_areShards.f, l01In_eq, within_eq, Option.bind_some]

theorem keysOf_l (k : Nat) : (∀ a0 a1 a2 l i, impl_KeysOf.l0 k a0 a1 a2 l i = spec_KeysOf.l0 k a0 a1 a2 l i) ∧ (∀ a0 a1 a2 l i b, impl_KeysOf.j2 k a0 a1 a2 l i b = spec_KeysOf.j2 k a0 a1 a2 l i b) := by
  induction k with
  | zero => exact ⟨fun _ _ _ _ _ => by simp only [impl_KeysOf.l0, spec_KeysOf.l0], fun _ _ _ _ _ _ => by simp only [impl_KeysOf.j2, spec_KeysOf.j2]⟩
  | succ k ih => exact ⟨fun _ _ _ _ _ => by simp only [impl_KeysOf.l0, spec_KeysOf.l0, ih.2], fun _ _ _ _ _ _ => by simp only [impl_KeysOf.j2, spec_KeysOf.j2, ih.1, shardOf_eq]⟩
theorem keysOf_eq (k : Nat) (a0 a1 a2 : Int) : impl_KeysOf.f k a0 a1 a2 = spec_KeysOf.f k a0 a1 a2 := by
  have hj : ∀ b, impl_KeysOf.j0 k a0 a1 a2 b = spec_KeysOf.j0 k a0 a1 a2 [] b := by
    intro b
    cases k with
    | zero => simp only [impl_KeysOf.j0, spec_KeysOf.j0]
    | succ k => simp only [impl_KeysOf.j0, spec_KeysOf.j0, (keysOf_l k).1]
  simp only [impl_KeysOf.f, spec_KeysOf.f, impl_areShards.f, l01In_eq, within_eq, Option.bind_some, hj]

theorem shardOf_some (i a1 : Int) (h : 1 ≤ a1 ∧ a1 ≤ 4) : ∃ r, spec_ShardOf.f i a1 = some r := by
  have h0 : ¬ a1 = 0 := by omega
  simp only [spec_ShardOf.f, l01In_eq, Option.bind_some, h0, if_false]
  repeat' split
  all_goals exact ⟨_, rfl⟩

theorem keysOf_loop (a0 a1 a2 : Int) (h1 : 1 ≤ a1 ∧ a1 ≤ 4) (d : Nat) : ∀ (l : List Int) (i : Int), 0 ≤ i → i + d = 65536 → (l.length : Int) ≤ i → ∃ r : List Int, Ev (fun k => spec_KeysOf.l0 k a0 a1 a2 l i) r ∧ r.length ≤ 65536 := by
  induction d with
  | zero =>
    intro l i h0 hd hl
    refine ⟨l, ?_, by omega⟩
    refine Ev.step (f := fun k => spec_KeysOf.j2 k a0 a1 a2 l i false) (fun k => by simp only [spec_KeysOf.l0]; rw [if_neg (by omega)]) ?_
    exact Ev.step (f := fun _ => some l) (fun k => by simp [spec_KeysOf.j2]) (Ev.now _)
  | succ d ih =>
    intro l i h0 hd hl
    have hi : i ≤ 65535 := by omega
    by_cases hc : (l.length : Int) < a2
    · obtain ⟨s, hs⟩ := shardOf_some i a1 h1
      have hw : wrap64 (i + 1) = i + 1 := wrap_small (by omega)
      by_cases he : s = a0
      · obtain ⟨r, hr, hl'⟩ := ih (l ++ [i]) (i + 1) (by omega) (by omega) (by simp; omega)
        refine ⟨r, ?_, hl'⟩
        refine Ev.step (f := fun k => spec_KeysOf.j2 k a0 a1 a2 l i true) (fun k => by simp only [spec_KeysOf.l0]; rw [if_pos hi, decide_eq_true hc]) ?_
        exact Ev.step (fun k => by simp only [spec_KeysOf.j2, if_true, hs, Option.bind_some]; rw [if_pos he, if_pos (by omega), hw]) hr
      · obtain ⟨r, hr, hl'⟩ := ih l (i + 1) (by omega) (by omega) (by omega)
        refine ⟨r, ?_, hl'⟩
        refine Ev.step (f := fun k => spec_KeysOf.j2 k a0 a1 a2 l i true) (fun k => by simp only [spec_KeysOf.l0]; rw [if_pos hi, decide_eq_true hc]) ?_
        exact Ev.step (fun k => by simp only [spec_KeysOf.j2, if_true, hs, Option.bind_some]; rw [if_neg he, hw]) hr
    · refine ⟨l, ?_, by omega⟩
      refine Ev.step (f := fun k => spec_KeysOf.j2 k a0 a1 a2 l i false) (fun k => by simp only [spec_KeysOf.l0]; rw [if_pos hi, decide_eq_false hc]) ?_
      exact Ev.step (f := fun _ => some l) (fun k => by simp [spec_KeysOf.j2]) (Ev.now _)

theorem keysOf_ev (a0 a1 a2 : Int) : ∃ r : List Int, Ev (fun k => spec_KeysOf.f k a0 a1 a2) r ∧ r.length ≤ 65536 := by
  have hno : Ev (fun k => spec_KeysOf.j0 k a0 a1 a2 [] true) [] := Ev.step (f := fun _ => some []) (fun k => by simp [spec_KeysOf.j0]) (Ev.now _)
  by_cases h1 : 1 ≤ a1 ∧ a1 ≤ 4
  · by_cases h2 : 0 ≤ a0 ∧ a0 ≤ wrap64 (a1 - 1)
    · by_cases h3 : 0 ≤ a2 ∧ a2 ≤ 300
      · obtain ⟨r, hr, hl⟩ := keysOf_loop a0 a1 a2 h1 65536 [] 0 (by omega) (by omega) (by simp)
        refine ⟨r, Ev.congr (f := fun k => spec_KeysOf.j0 k a0 a1 a2 [] false) (fun k => by simp [spec_KeysOf.f, l01In_eq, h1, h2, h3]) ?_, hl⟩
        exact Ev.step (fun k => by simp [spec_KeysOf.j0]) hr
      · exact ⟨[], Ev.congr (fun k => by simp [spec_KeysOf.f, l01In_eq, h1, h2, h3]) hno, by simp⟩
    · exact ⟨[], Ev.congr (fun k => by simp [spec_KeysOf.f, l01In_eq, h1, h2]) hno, by simp⟩
  · exact ⟨[], Ev.congr (fun k => by simp [spec_KeysOf.f, l01In_eq, h1]) hno, by simp⟩

theorem eqIntS_same (xs : List Int) (hn : xs.length ≤ 4611686018427387904) (d : Nat) : ∀ i : Int, 0 ≤ i → i + d = xs.length → Ev (fun k => laws_eqIntS.l0 k xs xs i) true := by
  induction d with
  | zero => intro i h0 hd; exact Ev.step (f := fun _ => some true) (fun k => by simp only [laws_eqIntS.l0]; rw [if_neg (by omega)]) (Ev.now _)
  | succ d ih =>
    intro i h0 hd
    refine Ev.step (fun k => ?_) (ih (i + 1) (by omega) (by omega))
    simp only [laws_eqIntS.l0]
    rw [if_pos (by omega), if_pos h0, if_pos (by omega), if_true, wrap_small (by omega)]
theorem eqIntS_ev (xs : List Int) (hn : xs.length ≤ 4611686018427387904) : Ev (fun k => laws_eqIntS.f k xs xs) true :=
  Ev.congr (fun k => by simp [laws_eqIntS.f]) (eqIntS_same xs hn xs.length 0 (by omega) (by omega))

theorem markIntS_loop (d : Nat) : ∀ (xs : List Int) (i : Int), 0 ≤ i → i + d = xs.length → xs.length ≤ 4611686018427387904 → (∀ j : Nat, (j : Int) < i → xs[j]? = some (1 + j : Int)) →
    ∃ ys : List Int, Ev (fun k => laws_markIntS.l0 k xs (1 + i) i) (1 + xs.length, ys) ∧ ys.length = xs.length ∧ ∀ j : Nat, j < xs.length → ys[j]? = some (1 + j : Int) := by
  induction d with
  | zero =>
    intro xs i h0 hd hn hx
    refine ⟨xs, ?_, rfl, fun j hj => hx j (by omega)⟩
    have e : (1 + (xs.length : Int)) = 1 + i := by omega
    rw [e]
    exact Ev.step (f := fun _ => some (1 + i, xs)) (fun k => by simp only [laws_markIntS.l0]; rw [if_neg (by omega)]) (Ev.now _)
  | succ d ih =>
    intro xs i h0 hd hn hx
    obtain ⟨ys, hy, hl, hj⟩ := ih (xs.set i.toNat (1 + i)) (i + 1) (by omega) (by simp; omega) (by simpa using hn) (by
      intro j hj
      rw [List.getElem?_set]
      by_cases he : i.toNat = j
      · rw [if_pos he, if_pos (by omega)]
        congr 1
        omega
      · rw [if_neg he]
        exact hx j (by omega))
    refine ⟨ys, ?_, by simpa using hl, fun j h => hj j (by simpa using h)⟩
    have e : ((xs.set i.toNat (1 + i)).length : Int) = xs.length := by simp
    rw [e] at hy
    refine Ev.step (fun k => ?_) hy
    simp only [laws_markIntS.l0]
    rw [if_pos (by omega), if_pos h0, wrap_small (n := 1 + i + 1) (by omega), wrap_small (n := i + 1) (by omega), show 1 + i + 1 = 1 + (i + 1) from by omega]

theorem heldIntS_loop (ys : List Int) (hn : ys.length ≤ 4611686018427387904) (hy : ∀ j : Nat, j < ys.length → ys[j]? = some (1 + j : Int)) (d : Nat) :
    ∀ i : Int, 0 ≤ i → i + d = ys.length → Ev (fun k => laws_heldIntS.l0 k ys (1 + i) i) (1 + ys.length) := by
  induction d with
  | zero =>
    intro i h0 hd
    have e : (1 + (ys.length : Int)) = 1 + i := by omega
    rw [e]
    exact Ev.step (f := fun _ => some (1 + i)) (fun k => by simp only [laws_heldIntS.l0]; rw [if_neg (by omega)]) (Ev.now _)
  | succ d ih =>
    intro i h0 hd
    refine Ev.step (fun k => ?_) (ih (i + 1) (by omega) (by omega))
    have hr : rd ys i = 1 + i := by
      unfold rd
      rw [List.getD_eq_getElem?_getD, hy i.toNat (by omega)]
      simp
      omega
    simp only [laws_heldIntS.l0]
    rw [if_pos (by omega), if_pos h0, if_pos hr, wrap_small (n := 1 + i + 1) (by omega), wrap_small (n := i + 1) (by omega), show 1 + i + 1 = 1 + (i + 1) from by omega]

theorem FnExactKeysOf (a0 a1 a2 : Int) {p q r : Prop} (_ : p) (_ : q) (_ : r) : ∃ k, laws_FnExactKeysOf.f k a0 a1 a2 = some true := by
  obtain ⟨r, hr, hl⟩ := keysOf_ev a0 a1 a2
  have hr' : Ev (fun k => impl_KeysOf.f k a0 a1 a2) r := Ev.congr (fun k => keysOf_eq k a0 a1 a2) hr
  have he := eqIntS_ev r (by omega)
  obtain ⟨ys, hm, hyl, hy⟩ := markIntS_loop r.length r 0 (by omega) (by omega) (by omega) (fun j hj => by omega)
  have hm' : Ev (fun k => laws_markIntS.f k r 1) (1 + (r.length : Int), ys) := hm
  have hh : Ev (fun k => laws_heldIntS.f k ys 1) (1 + (r.length : Int)) := by
    have := heldIntS_loop ys (by omega) (fun j hj => hy j (by omega)) ys.length 0 (by omega) (by omega)
    rw [hyl] at this
    exact this
  refine Ev.rounds (r := true) ?_
  unfold laws_FnExactKeysOf.f
  refine Ev.bind hr (Ev.bind hr' (Ev.bind he ?_))
  refine Ev.congr (fun k => if_pos rfl) (Ev.bind hm' (Ev.bind hh ?_))
  have hn : ¬ (1 + (r.length : Int) < 0) := by omega
  refine Ev.congr (fun k => (if_neg hn).trans (if_pos rfl)) (Ev.bind hr' (Ev.bind he ?_))
  refine Ev.congr (fun k => if_pos rfl) (Ev.bind hh ?_)
  exact Ev.congr (fun k => (if_neg hn).trans (if_pos rfl)) (Ev.now _)

end Go.Proofs.Ytmfbonhdjpmbkaa.Pure
