-- Written by a program of this session (wip/gen/printall.sh, over the kit's print.py).
import Derived.Test.YtmfbonhdjpmbkaaPBx0
import Derived.Test.YtmfbonhdjpmbkaaPBx4
namespace Go.Proofs.Ytmfbonhdjpmbkaa.PB
open Go.RowKit Go.Proofs.YtmfbonhdjpmbkaaW.PrintWords Go.Proofs.YtmfbonhdjpmbkaaW.PrintLast Go.Proofs.YtmfbonhdjpmbkaaW.PrintMore
attribute [local go_sem] max2_int min2_int max_two min_two max_three min_three max_four min_four   -- for this text's walks alone
set_option linter.unusedVariables false
set_option linter.unusedSimpArgs false

/-! ### impl_areSorted: function 72 -/
def impl_areSorted.l0 : Nat → List (S77) → Int → Option (Bool)
  | 0, _, _ => none
  | k + 1, x0, x3 => if x3 < (x0.length : Int) then (if 0 ≤ (wrap64 (x3 - 1)) then (if (wrap64 (x3 - 1)) < (x0.length : Int) then (if 0 ≤ x3 then ((impl_aggOrder.f k ((rd_T77 x0 (wrap64 (x3 - 1))).f0) ((rd_T77 x0 (wrap64 (x3 - 1))).f1) ((rd_T77 x0 (wrap64 (x3 - 1))).f2) ((rd_T77 x0 (wrap64 (x3 - 1))).f3) ((rd_T77 x0 (wrap64 (x3 - 1))).f4) ((rd_T77 x0 (wrap64 (x3 - 1))).f5) ((rd_T77 x0 x3).f0) ((rd_T77 x0 x3).f1) ((rd_T77 x0 x3).f2) ((rd_T77 x0 x3).f3) ((rd_T77 x0 x3).f4) ((rd_T77 x0 x3).f5)).bind fun t170 => (if t170 ≥ 0 then (some false) else (impl_areSorted.l0 k x0 (wrap64 (x3 + 1))))) else (none)) else (none)) else (none)) else (some true)
def impl_areSorted.f (k : Nat) (l0 : List (S77)) : Option (Bool) := impl_areSorted.l0 k l0 1
theorem impl_areSorted.mono_l : ∀ k, (∀ y0 y1, LeO (impl_areSorted.l0 k y0 y1) (impl_areSorted.l0 (k + 1) y0 y1))
  | 0 => fun _ _ r h => by simp [impl_areSorted.l0] at h
  | k + 1 => by
    have ih0 := impl_areSorted.mono_l k
    · intro y0 y1
      unfold impl_areSorted.l0
      repeat' first
      | (with_reducible exact ih0 _ _)
      | (with_reducible exact impl_aggOrder.mono _ _ _ _ _ _ _ _ _ _ _ _ _)
      | (with_reducible exact LeO.refl _)
      | (with_reducible exact LeO.none _)
      | (with_reducible refine LeO.ite ?_ ?_)
      | (with_reducible refine LeO.bind ?_ (fun _ => ?_))
      | exact ih0 _ _
      | exact impl_aggOrder.mono _ _ _ _ _ _ _ _ _ _ _ _ _
      | exact LeO.none _
      | refine LeO.ite ?_ ?_
      | refine LeO.bind ?_ (fun _ => ?_)
theorem impl_areSorted.mono : ∀ a0 k, LeO (impl_areSorted.f k a0) (impl_areSorted.f (k + 1) a0) := by
  intro a0 k
  have ih0 := impl_areSorted.mono_l k
  unfold impl_areSorted.f
  repeat' first
      | (with_reducible exact ih0 _ _)
      | (with_reducible exact impl_aggOrder.mono _ _ _ _ _ _ _ _ _ _ _ _ _)
      | (with_reducible exact LeO.refl _)
      | (with_reducible exact LeO.none _)
      | (with_reducible refine LeO.ite ?_ ?_)
      | (with_reducible refine LeO.bind ?_ (fun _ => ?_))
      | exact ih0 _ _
      | exact impl_aggOrder.mono _ _ _ _ _ _ _ _ _ _ _ _ _
      | exact LeO.none _
      | refine LeO.ite ?_ ?_
      | refine LeO.bind ?_ (fun _ => ?_)
def impl_areSorted.T4 : Bool × List (List Nat × List Nat) := (true, [([], []), ([], []), ([1], [1]), ([0, 2], [0, 2]), ([3], [3]), ([], []), ([], []), ([5, 6], [5, 6]), ([7], [7]), ([4, 8], [4, 8]), ([9], [9])])
def impl_areSorted.B4 : List Nat := [0, 0, 2, 7, 15, 0, 0, 96, 224, 511, 1023]
theorem impl_areSorted.tab4 : rtab .any (opsOf Try.f72 4) = impl_areSorted.T4 := by kernel_rfl
theorem impl_areSorted.bits4 : waitsOk impl_areSorted.T4.2 impl_areSorted.B4 = true := by kernel_rfl
set_option maxHeartbeats 8000000 in
set_option maxRecDepth 100000 in
theorem impl_areSorted.calls (k : Nat) (A0 : Option Addr) (c0 : Nat) (l0 : List (S77)) (r : Bool) (w : World) (hr0 : Kd.C k77 w A0 l0.length l0) (hc0 : l0.length ≤ c0) (h : impl_areSorted.f k l0 = some r) :
    Calls Try.prog 72 #[.slice A0 l0.length c0] w fun e w' => e = .returned (.bool r) ∧ Below w.heap.size w w' := by
  have hu77 := Try.underlying77
  have HR0 := Aside0.mk hr0
  have HC0 := Aside0.mk hc0
  clear hr0 hc0
  have HB := Aside0.mk (Below.refl w.heap.size w)
  have H : (impl_areSorted.l0 k l0 1) = some r := h
  clear h
  have H' := Aside0.mk H
  clear H
  go_enter Try.func72, Try.ntmps72
  go_wp2
  go_loopg [3] k (fun kq v3 w' => ∃ (x3_1 : Int), v3 = .int .i64 x3_1 ∧ Aside0 (impl_areSorted.l0 kq l0 x3_1 = some r) ∧ Aside0 (kq ≤ k) ∧ Aside0 (Below w.heap.size w w'))
  case atStart => exact ⟨(1), (by first | rfl | (simp; done) | (simp [*]; done)), H', ⟨Nat.le_refl _⟩, ⟨by repeat (first | (with_reducible first | exact HB.out | apply below_alloc | apply pw_below_drewN | apply below_drew1) | exact HB.out)⟩⟩
  case round =>
    clear H'
    obtain ⟨x3_1, rfl, HA, HK1, HB⟩ := hrel
    cases gk with
    | zero => exact absurd HA.out (by simp [impl_areSorted.l0])
    | succ k1 =>
      have H := HA.out
      clear HA
      simp only [impl_areSorted.l0] at H
      by_cases c2 : x3_1 < (l0.length : Int)
      · rw [if_pos c2] at H
        have c2b0 : decide (x3_1 < (l0.length : Int)) = true := decide_eq_true c2
        clear c2
        obtain ⟨ji3, hji3⟩ : ∃ j_ : Int, (wrap64 (x3_1 - 1)) = j_ := ⟨_, rfl⟩
        replace H : (if 0 ≤ (ji3) then (if (ji3) < (l0.length : Int) then (if 0 ≤ x3_1 then ((impl_aggOrder.f k1 ((rd_T77 l0 (ji3)).f0) ((rd_T77 l0 (ji3)).f1) ((rd_T77 l0 (ji3)).f2) ((rd_T77 l0 (ji3)).f3) ((rd_T77 l0 (ji3)).f4) ((rd_T77 l0 (ji3)).f5) ((rd_T77 l0 x3_1).f0) ((rd_T77 l0 x3_1).f1) ((rd_T77 l0 x3_1).f2) ((rd_T77 l0 x3_1).f3) ((rd_T77 l0 x3_1).f4) ((rd_T77 l0 x3_1).f5)).bind fun t170 => (if t170 ≥ 0 then (some false) else (impl_areSorted.l0 k1 l0 (wrap64 (x3_1 + 1))))) else (none)) else (none)) else (none)) = some r := by first | (rw [hji3] at H; exact H) | (simp only [hji3] at H ⊢; exact H)
        have hji3w : (IntKind.i64.wrap (x3_1 - 1)) = ji3 := (i64_w _).trans hji3
        by_cases c4 : 0 ≤ (ji3)
        · rw [if_pos c4] at H
          have c4b0 : decide (0 ≤ (ji3)) = true := decide_eq_true c4
          clear c4
          by_cases c5 : (ji3) < (l0.length : Int)
          · rw [if_pos c5] at H
            have c5b0 : decide ((ji3) < (l0.length : Int)) = true := decide_eq_true c5
            clear c5
            by_cases c6 : 0 ≤ x3_1
            · rw [if_pos c6] at H
              have c6b0 : decide (0 ≤ x3_1) = true := decide_eq_true c6
              clear c6
              replace H := Option.bind_eq_some_iff.mp H
              obtain ⟨t170, A70, H⟩ := H
              replace H : (if t170 ≥ 0 then (some false) else (impl_areSorted.l0 k1 l0 (wrap64 (x3_1 + 1)))) = some r := H
              have A7 := Aside0.mk A70
              clear A70
              by_cases c8 : t170 ≥ 0
              · rw [if_pos c8] at H
                have c8b0 : decide (0 ≤ t170) = true := decide_eq_true c8
                clear c8
                obtain rfl := Option.some.inj H
                try go_wp2
                have n0_ := Aside0.mk (below_drew1 HB.out)
                clear HB
                have HB := n0_
                clear n0_
                have p168 : 0 ≤ ((ji3) : Int) := of_decide_eq_true (by first | (with_reducible assumption) | assumption)
                have q168 : (ji3) < (l0.length : Int) := of_decide_eq_true (by first | (with_reducible assumption) | assumption)
                obtain ⟨ad168, e168, hx168_0, hx168_1, hx168_2, hx168_3, hx168_4, hx168_5⟩ := at_T77 HR0.out (ji3) p168 q168
                have hw168_5 := hx168_5
                have hw168_4 := hx168_4
                have hw168_3 := hx168_3
                have hw168_2 := hx168_2
                have hw168_1 := hx168_1
                have hw168_0 := hx168_0
                cases e168
                replace hx168_0 := (HB.out.cell (World.block_lt_of_cell? w _ hx168_0)).trans hx168_0
                replace hx168_1 := (HB.out.cell (World.block_lt_of_cell? w _ hx168_1)).trans hx168_1
                replace hx168_2 := (HB.out.cell (World.block_lt_of_cell? w _ hx168_2)).trans hx168_2
                replace hx168_3 := (HB.out.cell (World.block_lt_of_cell? w _ hx168_3)).trans hx168_3
                replace hx168_4 := (HB.out.cell (World.block_lt_of_cell? w _ hx168_4)).trans hx168_4
                replace hx168_5 := (HB.out.cell (World.block_lt_of_cell? w _ hx168_5)).trans hx168_5
                replace p168 := eq_true p168
                replace q168 := eq_true q168
                have p169 : 0 ≤ (x3_1 : Int) := of_decide_eq_true (by first | (with_reducible assumption) | assumption)
                have q169 : x3_1 < (l0.length : Int) := of_decide_eq_true (by first | (with_reducible assumption) | assumption)
                obtain ⟨ad169, e169, hx169_0, hx169_1, hx169_2, hx169_3, hx169_4, hx169_5⟩ := at_T77 HR0.out x3_1 p169 q169
                have hw169_5 := hx169_5
                have hw169_4 := hx169_4
                have hw169_3 := hx169_3
                have hw169_2 := hx169_2
                have hw169_1 := hx169_1
                have hw169_0 := hx169_0
                obtain rfl : ad168 = ad169 := (by injection e169)
                replace hx169_0 := (HB.out.cell (World.block_lt_of_cell? w _ hx169_0)).trans hx169_0
                replace hx169_1 := (HB.out.cell (World.block_lt_of_cell? w _ hx169_1)).trans hx169_1
                replace hx169_2 := (HB.out.cell (World.block_lt_of_cell? w _ hx169_2)).trans hx169_2
                replace hx169_3 := (HB.out.cell (World.block_lt_of_cell? w _ hx169_3)).trans hx169_3
                replace hx169_4 := (HB.out.cell (World.block_lt_of_cell? w _ hx169_4)).trans hx169_4
                replace hx169_5 := (HB.out.cell (World.block_lt_of_cell? w _ hx169_5)).trans hx169_5
                replace p169 := eq_true p169
                replace q169 := eq_true q169
                refine start_ (n := 11) (S := fun w' => w'.cell? (ad168.add (((ji3)).toNat * 6)) = some (.int .i64 ((rd_T77 l0 (ji3)).f0)) ∧ w'.cell? ⟨(ad168.add (((ji3)).toNat * 6)).block, (ad168.add (((ji3)).toNat * 6)).off + 1, none⟩ = some (.int .i64 ((rd_T77 l0 (ji3)).f1)) ∧ w'.cell? ⟨(ad168.add (((ji3)).toNat * 6)).block, (ad168.add (((ji3)).toNat * 6)).off + 2, none⟩ = some (.int .i64 ((rd_T77 l0 (ji3)).f2)) ∧ w'.cell? ⟨(ad168.add (((ji3)).toNat * 6)).block, (ad168.add (((ji3)).toNat * 6)).off + 3, none⟩ = some (.int .i64 ((rd_T77 l0 (ji3)).f3)) ∧ w'.cell? ⟨(ad168.add (((ji3)).toNat * 6)).block, (ad168.add (((ji3)).toNat * 6)).off + 4, none⟩ = some (.int .i64 ((rd_T77 l0 (ji3)).f4)) ∧ w'.cell? ⟨(ad168.add (((ji3)).toNat * 6)).block, (ad168.add (((ji3)).toNat * 6)).off + 5, none⟩ = some (.int .i64 ((rd_T77 l0 (ji3)).f5)) ∧ w'.cell? (ad168.add ((x3_1).toNat * 6)) = some (.int .i64 ((rd_T77 l0 x3_1).f0)) ∧ w'.cell? ⟨(ad168.add ((x3_1).toNat * 6)).block, (ad168.add ((x3_1).toNat * 6)).off + 1, none⟩ = some (.int .i64 ((rd_T77 l0 x3_1).f1)) ∧ w'.cell? ⟨(ad168.add ((x3_1).toNat * 6)).block, (ad168.add ((x3_1).toNat * 6)).off + 2, none⟩ = some (.int .i64 ((rd_T77 l0 x3_1).f2)) ∧ w'.cell? ⟨(ad168.add ((x3_1).toNat * 6)).block, (ad168.add ((x3_1).toNat * 6)).off + 3, none⟩ = some (.int .i64 ((rd_T77 l0 x3_1).f3)) ∧ w'.cell? ⟨(ad168.add ((x3_1).toNat * 6)).block, (ad168.add ((x3_1).toNat * 6)).off + 4, none⟩ = some (.int .i64 ((rd_T77 l0 x3_1).f4)) ∧ w'.cell? ⟨(ad168.add ((x3_1).toNat * 6)).block, (ad168.add ((x3_1).toNat * 6)).off + 5, none⟩ = some (.int .i64 ((rd_T77 l0 x3_1).f5))) (ds := []) #[false, false, false, false, false, false, false, false, false, false, false] (by kernel_rfl) rfl rfl ⟨((HB.out.cell (World.block_lt_of_cell? w _ hw168_0)).trans hw168_0), ((HB.out.cell (World.block_lt_of_cell? w _ hw168_1)).trans hw168_1), ((HB.out.cell (World.block_lt_of_cell? w _ hw168_2)).trans hw168_2), ((HB.out.cell (World.block_lt_of_cell? w _ hw168_3)).trans hw168_3), ((HB.out.cell (World.block_lt_of_cell? w _ hw168_4)).trans hw168_4), ((HB.out.cell (World.block_lt_of_cell? w _ hw168_5)).trans hw168_5), ((HB.out.cell (World.block_lt_of_cell? w _ hw169_0)).trans hw169_0), ((HB.out.cell (World.block_lt_of_cell? w _ hw169_1)).trans hw169_1), ((HB.out.cell (World.block_lt_of_cell? w _ hw169_2)).trans hw169_2), ((HB.out.cell (World.block_lt_of_cell? w _ hw169_3)).trans hw169_3), ((HB.out.cell (World.block_lt_of_cell? w _ hw169_4)).trans hw169_4), ((HB.out.cell (World.block_lt_of_cell? w _ hw169_5)).trans hw169_5)⟩ (fun hHeld => ?_); refine with_tabW impl_areSorted.tab4 impl_areSorted.bits4 (fun HT_ HW_ => ?_)
                generalize wr.drew = w9 at HB hx168_0 hx168_1 hx168_2 hx168_3 hx168_4 hx168_5 hx169_0 hx169_1 hx169_2 hx169_3 hx169_4 hx169_5 hHeld ⊢
                refine pure_ (i := 0) (N := some 10) (v := ?_) (a' := ?_) #[true, false, false, false, false, false, false, false, false, false, false] rfl rfl (any_of HT_.out (by kernel_rfl)) (fun _ _ _ h => h) (Or.inl ⟨by rfl, ?_⟩) ?_ ?_
                rotate_left
                · intro w'
                  go_simp
                  with_reducible rfl
                rotate_left
                · simp only [Act.put, List.setIfInBounds_toArray, List.set_cons_zero, List.set_cons_succ, i64_w, i32_w]
                  rfl
                refine pure_ (i := 1) (N := some 11) (v := ?_) (a' := ?_) #[true, true, false, false, false, false, false, false, false, false, false] rfl rfl (any_of HT_.out (by kernel_rfl)) (fun _ _ _ h => h) (Or.inl ⟨by rfl, ?_⟩) ?_ ?_
                rotate_left
                · intro w'
                  go_simp
                  with_reducible rfl
                rotate_left
                · simp only [Act.put, List.setIfInBounds_toArray, List.set_cons_zero, List.set_cons_succ, i64_w, i32_w]
                  rfl
                refine pure_ (i := 2) (N := some 12) (v := ?_) (a' := ?_) #[true, true, true, false, false, false, false, false, false, false, false] rfl rfl (any_of HT_.out (by kernel_rfl)) (fun _ _ _ h => h) (Or.inl ⟨by rfl, ?_⟩) ?_ ?_
                rotate_left
                · intro w'
                  go_simp
                  with_reducible rfl
                rotate_left
                · simp only [Act.put, List.setIfInBounds_toArray, List.set_cons_zero, List.set_cons_succ, i64_w, i32_w]
                  rfl
                refine pure_ (i := 3) (N := some 13) (v := ?_) (a' := ?_) #[true, true, true, true, false, false, false, false, false, false, false] rfl rfl (any_of HT_.out (by kernel_rfl)) (fun _ _ _ h => h) (Or.inl ⟨by rfl, ?_⟩) ?_ ?_
                rotate_left
                · intro w'
                  go_simp
                  with_reducible rfl
                rotate_left
                · simp only [Act.put, List.setIfInBounds_toArray, List.set_cons_zero, List.set_cons_succ, i64_w, i32_w]
                  rfl
                refine pure_ (i := 5) (N := some 15) (v := ?_) (a' := ?_) #[true, true, true, true, false, true, false, false, false, false, false] rfl rfl (any_of HT_.out (by kernel_rfl)) (fun _ _ _ h => h) (Or.inl ⟨by rfl, ?_⟩) ?_ ?_
                rotate_left
                · intro w'
                  go_simp
                  with_reducible rfl
                rotate_left
                · simp only [Act.put, List.setIfInBounds_toArray, List.set_cons_zero, List.set_cons_succ, i64_w, i32_w]
                  rfl
                refine pure_ (i := 6) (N := some 16) (v := ?_) (a' := ?_) #[true, true, true, true, false, true, true, false, false, false, false] rfl rfl (any_of HT_.out (by kernel_rfl)) (fun _ _ _ h => h) (Or.inl ⟨by rfl, ?_⟩) ?_ ?_
                rotate_left
                · intro w'
                  go_simp
                  with_reducible rfl
                rotate_left
                · simp only [Act.put, List.setIfInBounds_toArray, List.set_cons_zero, List.set_cons_succ, i64_w, i32_w]
                  rfl
                refine pure_ (i := 7) (N := some 17) (v := ?_) (a' := ?_) #[true, true, true, true, false, true, true, true, false, false, false] rfl rfl (any_of HT_.out (by kernel_rfl)) (fun _ _ _ h => h) (Or.inl ⟨by rfl, ?_⟩) ?_ ?_
                rotate_left
                · intro w'
                  go_simp
                  with_reducible rfl
                rotate_left
                · simp only [Act.put, List.setIfInBounds_toArray, List.set_cons_zero, List.set_cons_succ, i64_w, i32_w]
                  rfl
                refine take_ (i := 4) (N := some 14) (v := ?_) (a' := ?_) #[true, true, true, true, true, true, true, true, false, false, false] rfl rfl (take_ofW HT_.out HW_.out (by kernel_rfl)) (fun _ _ _ h => h) (Or.inl ⟨by rfl, ?_⟩) hHeld ?_ ?_
                rotate_left
                · rintro w' ⟨s0, s1, s2, s3, s4, s5, s6, s7, s8, s9, s10, s11⟩
                  go_simp
                  with_reducible rfl
                rotate_left
                · simp only [Act.put, List.setIfInBounds_toArray, List.set_cons_zero, List.set_cons_succ, i64_w, i32_w]
                  rfl
                refine take_ (i := 8) (N := some 18) (v := ?_) (a' := ?_) #[true, true, true, true, true, true, true, true, true, false, false] rfl rfl (take_ofW HT_.out HW_.out (by kernel_rfl)) (fun _ _ _ h => h) (Or.inl ⟨by rfl, ?_⟩) hHeld ?_ ?_
                rotate_left
                · rintro w' ⟨s0, s1, s2, s3, s4, s5, s6, s7, s8, s9, s10, s11⟩
                  go_simp
                  with_reducible rfl
                rotate_left
                · simp only [Act.put, List.setIfInBounds_toArray, List.set_cons_zero, List.set_cons_succ, i64_w, i32_w]
                  rfl
                refine one_ (i := 9) (N := some 19) #[true, true, true, true, true, true, true, true, true, true, false] rfl rfl (one_of HT_.out (by kernel_rfl)) (by decide) (fun K hK => ?_)
                refine goes_ Try.func113 (by kernel_rfl) rfl #[.agg #[.int .i64 ((rd_T77 l0 (ji3)).f0), .int .i64 ((rd_T77 l0 (ji3)).f1), .int .i64 ((rd_T77 l0 (ji3)).f2), .int .i64 ((rd_T77 l0 (ji3)).f3), .int .i64 ((rd_T77 l0 (ji3)).f4), .int .i64 ((rd_T77 l0 (ji3)).f5)], .agg #[.int .i64 ((rd_T77 l0 x3_1).f0), .int .i64 ((rd_T77 l0 x3_1).f1), .int .i64 ((rd_T77 l0 x3_1).f2), .int .i64 ((rd_T77 l0 x3_1).f3), .int .i64 ((rd_T77 l0 x3_1).f4), .int .i64 ((rd_T77 l0 x3_1).f5)]] (by rfl) rfl rfl (by (try simp only [List.map_toArray, List.map_cons, List.map_nil]); first | done | (simp only [hji3]; rfl) | rfl | (simp only [List.length_drop, List.length_take]; rfl)) ?_
                with_reducible refine (impl_aggOrder.calls k1 ((rd_T77 l0 (ji3)).f0) ((rd_T77 l0 (ji3)).f1) ((rd_T77 l0 (ji3)).f2) ((rd_T77 l0 (ji3)).f3) ((rd_T77 l0 (ji3)).f4) ((rd_T77 l0 (ji3)).f5) ((rd_T77 l0 x3_1).f0) ((rd_T77 l0 x3_1).f1) ((rd_T77 l0 x3_1).f2) ((rd_T77 l0 x3_1).f3) ((rd_T77 l0 x3_1).f4) ((rd_T77 l0 x3_1).f5) t170 _ A7.out).mono ?_
                rintro e w10 ⟨rfl, hb⟩
                refine ⟨_, rfl, ?_⟩
                have n0_ := Aside0.mk (below_step (by repeat (first | (with_reducible first | exact HB.out | apply below_alloc | apply pw_below_drewN | apply below_drew1) | exact HB.out)) hb)
                clear HB
                have HB := n0_
                clear n0_
                (try clear hb)
                (try clear hb2)
                (try clear hk)
                (try clear hi)
                refine hK.out _ _ ⟨((HB.out.cell (World.block_lt_of_cell? w _ hw168_0)).trans hw168_0), ((HB.out.cell (World.block_lt_of_cell? w _ hw168_1)).trans hw168_1), ((HB.out.cell (World.block_lt_of_cell? w _ hw168_2)).trans hw168_2), ((HB.out.cell (World.block_lt_of_cell? w _ hw168_3)).trans hw168_3), ((HB.out.cell (World.block_lt_of_cell? w _ hw168_4)).trans hw168_4), ((HB.out.cell (World.block_lt_of_cell? w _ hw168_5)).trans hw168_5), ((HB.out.cell (World.block_lt_of_cell? w _ hw169_0)).trans hw169_0), ((HB.out.cell (World.block_lt_of_cell? w _ hw169_1)).trans hw169_1), ((HB.out.cell (World.block_lt_of_cell? w _ hw169_2)).trans hw169_2), ((HB.out.cell (World.block_lt_of_cell? w _ hw169_3)).trans hw169_3), ((HB.out.cell (World.block_lt_of_cell? w _ hw169_4)).trans hw169_4), ((HB.out.cell (World.block_lt_of_cell? w _ hw169_5)).trans hw169_5)⟩ (fun hHeld => ?_)
                clear hK K
                refine norm_ (a' := ?_) ?_ ?_
                rotate_left
                · show Act.put _ (some 19) _ = _
                  simp only [Act.put, List.setIfInBounds_toArray, List.set_cons_zero, List.set_cons_succ, i64_w, i32_w]
                  rfl
                refine pure_ (i := 10) (N := some 20) (v := ?_) (a' := ?_) #[true, true, true, true, true, true, true, true, true, true, true] rfl rfl (any_of HT_.out (by kernel_rfl)) (fun _ _ _ h => h) (Or.inl ⟨by rfl, ?_⟩) ?_ ?_
                rotate_left
                · intro w'
                  go_simp
                  with_reducible rfl
                rotate_left
                · simp only [Act.put, List.setIfInBounds_toArray, List.set_cons_zero, List.set_cons_succ, i64_w, i32_w]
                  rfl
                refine done_ (done_of HT_.out (by kernel_rfl)) ?_
                try go_wp2
                go_ret
                exact ⟨by first | rfl | (simp [errW_none, errW_some] <;> rfl) | (simp only [← hji3]; first | rfl | (simp [errW_none, errW_some] <;> rfl)) | (simp [*, errW_none, errW_some] <;> rfl), by repeat (first | (with_reducible first | exact HB.out | apply below_alloc | apply pw_below_drewN | apply below_drew1) | exact HB.out)⟩
              · rw [if_neg c8] at H
                have c8b0 : decide (0 ≤ t170) = false := decide_eq_false c8
                clear c8
                have H' := Aside0.mk H
                clear H
                try go_wp2
                have n0_ := Aside0.mk (below_drew1 HB.out)
                clear HB
                have HB := n0_
                clear n0_
                have p168 : 0 ≤ ((ji3) : Int) := of_decide_eq_true (by first | (with_reducible assumption) | assumption)
                have q168 : (ji3) < (l0.length : Int) := of_decide_eq_true (by first | (with_reducible assumption) | assumption)
                obtain ⟨ad168, e168, hx168_0, hx168_1, hx168_2, hx168_3, hx168_4, hx168_5⟩ := at_T77 HR0.out (ji3) p168 q168
                have hw168_5 := hx168_5
                have hw168_4 := hx168_4
                have hw168_3 := hx168_3
                have hw168_2 := hx168_2
                have hw168_1 := hx168_1
                have hw168_0 := hx168_0
                cases e168
                replace hx168_0 := (HB.out.cell (World.block_lt_of_cell? w _ hx168_0)).trans hx168_0
                replace hx168_1 := (HB.out.cell (World.block_lt_of_cell? w _ hx168_1)).trans hx168_1
                replace hx168_2 := (HB.out.cell (World.block_lt_of_cell? w _ hx168_2)).trans hx168_2
                replace hx168_3 := (HB.out.cell (World.block_lt_of_cell? w _ hx168_3)).trans hx168_3
                replace hx168_4 := (HB.out.cell (World.block_lt_of_cell? w _ hx168_4)).trans hx168_4
                replace hx168_5 := (HB.out.cell (World.block_lt_of_cell? w _ hx168_5)).trans hx168_5
                replace p168 := eq_true p168
                replace q168 := eq_true q168
                have p169 : 0 ≤ (x3_1 : Int) := of_decide_eq_true (by first | (with_reducible assumption) | assumption)
                have q169 : x3_1 < (l0.length : Int) := of_decide_eq_true (by first | (with_reducible assumption) | assumption)
                obtain ⟨ad169, e169, hx169_0, hx169_1, hx169_2, hx169_3, hx169_4, hx169_5⟩ := at_T77 HR0.out x3_1 p169 q169
                have hw169_5 := hx169_5
                have hw169_4 := hx169_4
                have hw169_3 := hx169_3
                have hw169_2 := hx169_2
                have hw169_1 := hx169_1
                have hw169_0 := hx169_0
                obtain rfl : ad168 = ad169 := (by injection e169)
                replace hx169_0 := (HB.out.cell (World.block_lt_of_cell? w _ hx169_0)).trans hx169_0
                replace hx169_1 := (HB.out.cell (World.block_lt_of_cell? w _ hx169_1)).trans hx169_1
                replace hx169_2 := (HB.out.cell (World.block_lt_of_cell? w _ hx169_2)).trans hx169_2
                replace hx169_3 := (HB.out.cell (World.block_lt_of_cell? w _ hx169_3)).trans hx169_3
                replace hx169_4 := (HB.out.cell (World.block_lt_of_cell? w _ hx169_4)).trans hx169_4
                replace hx169_5 := (HB.out.cell (World.block_lt_of_cell? w _ hx169_5)).trans hx169_5
                replace p169 := eq_true p169
                replace q169 := eq_true q169
                refine start_ (n := 11) (S := fun w' => w'.cell? (ad168.add (((ji3)).toNat * 6)) = some (.int .i64 ((rd_T77 l0 (ji3)).f0)) ∧ w'.cell? ⟨(ad168.add (((ji3)).toNat * 6)).block, (ad168.add (((ji3)).toNat * 6)).off + 1, none⟩ = some (.int .i64 ((rd_T77 l0 (ji3)).f1)) ∧ w'.cell? ⟨(ad168.add (((ji3)).toNat * 6)).block, (ad168.add (((ji3)).toNat * 6)).off + 2, none⟩ = some (.int .i64 ((rd_T77 l0 (ji3)).f2)) ∧ w'.cell? ⟨(ad168.add (((ji3)).toNat * 6)).block, (ad168.add (((ji3)).toNat * 6)).off + 3, none⟩ = some (.int .i64 ((rd_T77 l0 (ji3)).f3)) ∧ w'.cell? ⟨(ad168.add (((ji3)).toNat * 6)).block, (ad168.add (((ji3)).toNat * 6)).off + 4, none⟩ = some (.int .i64 ((rd_T77 l0 (ji3)).f4)) ∧ w'.cell? ⟨(ad168.add (((ji3)).toNat * 6)).block, (ad168.add (((ji3)).toNat * 6)).off + 5, none⟩ = some (.int .i64 ((rd_T77 l0 (ji3)).f5)) ∧ w'.cell? (ad168.add ((x3_1).toNat * 6)) = some (.int .i64 ((rd_T77 l0 x3_1).f0)) ∧ w'.cell? ⟨(ad168.add ((x3_1).toNat * 6)).block, (ad168.add ((x3_1).toNat * 6)).off + 1, none⟩ = some (.int .i64 ((rd_T77 l0 x3_1).f1)) ∧ w'.cell? ⟨(ad168.add ((x3_1).toNat * 6)).block, (ad168.add ((x3_1).toNat * 6)).off + 2, none⟩ = some (.int .i64 ((rd_T77 l0 x3_1).f2)) ∧ w'.cell? ⟨(ad168.add ((x3_1).toNat * 6)).block, (ad168.add ((x3_1).toNat * 6)).off + 3, none⟩ = some (.int .i64 ((rd_T77 l0 x3_1).f3)) ∧ w'.cell? ⟨(ad168.add ((x3_1).toNat * 6)).block, (ad168.add ((x3_1).toNat * 6)).off + 4, none⟩ = some (.int .i64 ((rd_T77 l0 x3_1).f4)) ∧ w'.cell? ⟨(ad168.add ((x3_1).toNat * 6)).block, (ad168.add ((x3_1).toNat * 6)).off + 5, none⟩ = some (.int .i64 ((rd_T77 l0 x3_1).f5))) (ds := []) #[false, false, false, false, false, false, false, false, false, false, false] (by kernel_rfl) rfl rfl ⟨((HB.out.cell (World.block_lt_of_cell? w _ hw168_0)).trans hw168_0), ((HB.out.cell (World.block_lt_of_cell? w _ hw168_1)).trans hw168_1), ((HB.out.cell (World.block_lt_of_cell? w _ hw168_2)).trans hw168_2), ((HB.out.cell (World.block_lt_of_cell? w _ hw168_3)).trans hw168_3), ((HB.out.cell (World.block_lt_of_cell? w _ hw168_4)).trans hw168_4), ((HB.out.cell (World.block_lt_of_cell? w _ hw168_5)).trans hw168_5), ((HB.out.cell (World.block_lt_of_cell? w _ hw169_0)).trans hw169_0), ((HB.out.cell (World.block_lt_of_cell? w _ hw169_1)).trans hw169_1), ((HB.out.cell (World.block_lt_of_cell? w _ hw169_2)).trans hw169_2), ((HB.out.cell (World.block_lt_of_cell? w _ hw169_3)).trans hw169_3), ((HB.out.cell (World.block_lt_of_cell? w _ hw169_4)).trans hw169_4), ((HB.out.cell (World.block_lt_of_cell? w _ hw169_5)).trans hw169_5)⟩ (fun hHeld => ?_); refine with_tabW impl_areSorted.tab4 impl_areSorted.bits4 (fun HT_ HW_ => ?_)
                generalize wr.drew = w11 at HB hx168_0 hx168_1 hx168_2 hx168_3 hx168_4 hx168_5 hx169_0 hx169_1 hx169_2 hx169_3 hx169_4 hx169_5 hHeld ⊢
                refine pure_ (i := 0) (N := some 10) (v := ?_) (a' := ?_) #[true, false, false, false, false, false, false, false, false, false, false] rfl rfl (any_of HT_.out (by kernel_rfl)) (fun _ _ _ h => h) (Or.inl ⟨by rfl, ?_⟩) ?_ ?_
                rotate_left
                · intro w'
                  go_simp
                  with_reducible rfl
                rotate_left
                · simp only [Act.put, List.setIfInBounds_toArray, List.set_cons_zero, List.set_cons_succ, i64_w, i32_w]
                  rfl
                refine pure_ (i := 1) (N := some 11) (v := ?_) (a' := ?_) #[true, true, false, false, false, false, false, false, false, false, false] rfl rfl (any_of HT_.out (by kernel_rfl)) (fun _ _ _ h => h) (Or.inl ⟨by rfl, ?_⟩) ?_ ?_
                rotate_left
                · intro w'
                  go_simp
                  with_reducible rfl
                rotate_left
                · simp only [Act.put, List.setIfInBounds_toArray, List.set_cons_zero, List.set_cons_succ, i64_w, i32_w]
                  rfl
                refine pure_ (i := 2) (N := some 12) (v := ?_) (a' := ?_) #[true, true, true, false, false, false, false, false, false, false, false] rfl rfl (any_of HT_.out (by kernel_rfl)) (fun _ _ _ h => h) (Or.inl ⟨by rfl, ?_⟩) ?_ ?_
                rotate_left
                · intro w'
                  go_simp
                  with_reducible rfl
                rotate_left
                · simp only [Act.put, List.setIfInBounds_toArray, List.set_cons_zero, List.set_cons_succ, i64_w, i32_w]
                  rfl
                refine pure_ (i := 3) (N := some 13) (v := ?_) (a' := ?_) #[true, true, true, true, false, false, false, false, false, false, false] rfl rfl (any_of HT_.out (by kernel_rfl)) (fun _ _ _ h => h) (Or.inl ⟨by rfl, ?_⟩) ?_ ?_
                rotate_left
                · intro w'
                  go_simp
                  with_reducible rfl
                rotate_left
                · simp only [Act.put, List.setIfInBounds_toArray, List.set_cons_zero, List.set_cons_succ, i64_w, i32_w]
                  rfl
                refine pure_ (i := 5) (N := some 15) (v := ?_) (a' := ?_) #[true, true, true, true, false, true, false, false, false, false, false] rfl rfl (any_of HT_.out (by kernel_rfl)) (fun _ _ _ h => h) (Or.inl ⟨by rfl, ?_⟩) ?_ ?_
                rotate_left
                · intro w'
                  go_simp
                  with_reducible rfl
                rotate_left
                · simp only [Act.put, List.setIfInBounds_toArray, List.set_cons_zero, List.set_cons_succ, i64_w, i32_w]
                  rfl
                refine pure_ (i := 6) (N := some 16) (v := ?_) (a' := ?_) #[true, true, true, true, false, true, true, false, false, false, false] rfl rfl (any_of HT_.out (by kernel_rfl)) (fun _ _ _ h => h) (Or.inl ⟨by rfl, ?_⟩) ?_ ?_
                rotate_left
                · intro w'
                  go_simp
                  with_reducible rfl
                rotate_left
                · simp only [Act.put, List.setIfInBounds_toArray, List.set_cons_zero, List.set_cons_succ, i64_w, i32_w]
                  rfl
                refine pure_ (i := 7) (N := some 17) (v := ?_) (a' := ?_) #[true, true, true, true, false, true, true, true, false, false, false] rfl rfl (any_of HT_.out (by kernel_rfl)) (fun _ _ _ h => h) (Or.inl ⟨by rfl, ?_⟩) ?_ ?_
                rotate_left
                · intro w'
                  go_simp
                  with_reducible rfl
                rotate_left
                · simp only [Act.put, List.setIfInBounds_toArray, List.set_cons_zero, List.set_cons_succ, i64_w, i32_w]
                  rfl
                refine take_ (i := 4) (N := some 14) (v := ?_) (a' := ?_) #[true, true, true, true, true, true, true, true, false, false, false] rfl rfl (take_ofW HT_.out HW_.out (by kernel_rfl)) (fun _ _ _ h => h) (Or.inl ⟨by rfl, ?_⟩) hHeld ?_ ?_
                rotate_left
                · rintro w' ⟨s0, s1, s2, s3, s4, s5, s6, s7, s8, s9, s10, s11⟩
                  go_simp
                  with_reducible rfl
                rotate_left
                · simp only [Act.put, List.setIfInBounds_toArray, List.set_cons_zero, List.set_cons_succ, i64_w, i32_w]
                  rfl
                refine take_ (i := 8) (N := some 18) (v := ?_) (a' := ?_) #[true, true, true, true, true, true, true, true, true, false, false] rfl rfl (take_ofW HT_.out HW_.out (by kernel_rfl)) (fun _ _ _ h => h) (Or.inl ⟨by rfl, ?_⟩) hHeld ?_ ?_
                rotate_left
                · rintro w' ⟨s0, s1, s2, s3, s4, s5, s6, s7, s8, s9, s10, s11⟩
                  go_simp
                  with_reducible rfl
                rotate_left
                · simp only [Act.put, List.setIfInBounds_toArray, List.set_cons_zero, List.set_cons_succ, i64_w, i32_w]
                  rfl
                refine one_ (i := 9) (N := some 19) #[true, true, true, true, true, true, true, true, true, true, false] rfl rfl (one_of HT_.out (by kernel_rfl)) (by decide) (fun K hK => ?_)
                refine goes_ Try.func113 (by kernel_rfl) rfl #[.agg #[.int .i64 ((rd_T77 l0 (ji3)).f0), .int .i64 ((rd_T77 l0 (ji3)).f1), .int .i64 ((rd_T77 l0 (ji3)).f2), .int .i64 ((rd_T77 l0 (ji3)).f3), .int .i64 ((rd_T77 l0 (ji3)).f4), .int .i64 ((rd_T77 l0 (ji3)).f5)], .agg #[.int .i64 ((rd_T77 l0 x3_1).f0), .int .i64 ((rd_T77 l0 x3_1).f1), .int .i64 ((rd_T77 l0 x3_1).f2), .int .i64 ((rd_T77 l0 x3_1).f3), .int .i64 ((rd_T77 l0 x3_1).f4), .int .i64 ((rd_T77 l0 x3_1).f5)]] (by rfl) rfl rfl (by (try simp only [List.map_toArray, List.map_cons, List.map_nil]); first | done | (simp only [hji3]; rfl) | rfl | (simp only [List.length_drop, List.length_take]; rfl)) ?_
                with_reducible refine (impl_aggOrder.calls k1 ((rd_T77 l0 (ji3)).f0) ((rd_T77 l0 (ji3)).f1) ((rd_T77 l0 (ji3)).f2) ((rd_T77 l0 (ji3)).f3) ((rd_T77 l0 (ji3)).f4) ((rd_T77 l0 (ji3)).f5) ((rd_T77 l0 x3_1).f0) ((rd_T77 l0 x3_1).f1) ((rd_T77 l0 x3_1).f2) ((rd_T77 l0 x3_1).f3) ((rd_T77 l0 x3_1).f4) ((rd_T77 l0 x3_1).f5) t170 _ A7.out).mono ?_
                rintro e w12 ⟨rfl, hb⟩
                refine ⟨_, rfl, ?_⟩
                have n0_ := Aside0.mk (below_step (by repeat (first | (with_reducible first | exact HB.out | apply below_alloc | apply pw_below_drewN | apply below_drew1) | exact HB.out)) hb)
                clear HB
                have HB := n0_
                clear n0_
                (try clear hb)
                (try clear hb2)
                (try clear hk)
                (try clear hi)
                refine hK.out _ _ ⟨((HB.out.cell (World.block_lt_of_cell? w _ hw168_0)).trans hw168_0), ((HB.out.cell (World.block_lt_of_cell? w _ hw168_1)).trans hw168_1), ((HB.out.cell (World.block_lt_of_cell? w _ hw168_2)).trans hw168_2), ((HB.out.cell (World.block_lt_of_cell? w _ hw168_3)).trans hw168_3), ((HB.out.cell (World.block_lt_of_cell? w _ hw168_4)).trans hw168_4), ((HB.out.cell (World.block_lt_of_cell? w _ hw168_5)).trans hw168_5), ((HB.out.cell (World.block_lt_of_cell? w _ hw169_0)).trans hw169_0), ((HB.out.cell (World.block_lt_of_cell? w _ hw169_1)).trans hw169_1), ((HB.out.cell (World.block_lt_of_cell? w _ hw169_2)).trans hw169_2), ((HB.out.cell (World.block_lt_of_cell? w _ hw169_3)).trans hw169_3), ((HB.out.cell (World.block_lt_of_cell? w _ hw169_4)).trans hw169_4), ((HB.out.cell (World.block_lt_of_cell? w _ hw169_5)).trans hw169_5)⟩ (fun hHeld => ?_)
                clear hK K
                refine norm_ (a' := ?_) ?_ ?_
                rotate_left
                · show Act.put _ (some 19) _ = _
                  simp only [Act.put, List.setIfInBounds_toArray, List.set_cons_zero, List.set_cons_succ, i64_w, i32_w]
                  rfl
                refine pure_ (i := 10) (N := some 20) (v := ?_) (a' := ?_) #[true, true, true, true, true, true, true, true, true, true, true] rfl rfl (any_of HT_.out (by kernel_rfl)) (fun _ _ _ h => h) (Or.inl ⟨by rfl, ?_⟩) ?_ ?_
                rotate_left
                · intro w'
                  go_simp
                  with_reducible rfl
                rotate_left
                · simp only [Act.put, List.setIfInBounds_toArray, List.set_cons_zero, List.set_cons_succ, i64_w, i32_w]
                  rfl
                refine done_ (done_of HT_.out (by kernel_rfl)) ?_
                try go_wp2
                go_roundg k1
                case measure => have := HK1.out; omega
                case rel => exact ⟨(wrap64 (x3_1 + 1)), (by first | rfl | (simp; done) | (simp [*]; done)), H', ⟨by have := HK1.out; omega⟩, ⟨by repeat (first | (with_reducible first | exact HB.out | apply below_alloc | apply pw_below_drewN | apply below_drew1) | exact HB.out)⟩⟩
            · rw [if_neg c6] at H
              exact absurd H (by simp)
          · rw [if_neg c5] at H
            exact absurd H (by simp)
        · rw [if_neg c4] at H
          exact absurd H (by simp)
      · rw [if_neg c2] at H
        have c2b0 : decide (x3_1 < (l0.length : Int)) = false := decide_eq_false c2
        clear c2
        obtain rfl := Option.some.inj H
        go_wp2
        go_ret
        exact ⟨by first | rfl | (simp [errW_none, errW_some] <;> rfl) | (simp [*, errW_none, errW_some] <;> rfl), by repeat (first | (with_reducible first | exact HB.out | apply below_alloc | apply pw_below_drewN | apply below_drew1) | exact HB.out)⟩

-- NOT PRINTED: function 112 (impl_Agg_112)

/-! ### slices.IndexFunc, slices.ContainsFunc over []impl.Agg -/
set_option maxHeartbeats 1000000 in
set_option maxRecDepth 100000 in
theorem indexAggS.calls (G : FuncId) (gf : Func) (hG : Try.prog.funcs[G]? = some gf) (hn : (gf.name == "runtime.NumGoroutine") = false) (hb : gf.body.isSome = true) (cap : Array Value) (p : List S77 → Option Bool) (A0 : Option Addr) (c0 : Nat) (l0 : List (List S77)) (r : Int) (w : World)
    (hr0 : Kd.C (Kd.slice 77 k77) w A0 l0.length l0) (hc0 : l0.length ≤ c0)
    (hp : ∀ (A : Option Addr) (c : Nat) (x : List S77) (b : Bool) (W : World), Below w.heap.size w W → Kd.C k77 W A x.length x → x.length ≤ c → p x = some b → Calls Try.prog G (#[.slice A x.length c] ++ cap) W fun e w' => e = .returned (.bool b) ∧ Below W.heap.size W w')
    (h : FnArg.idxF p l0 0 = some r) : Calls Try.prog 112 #[.slice A0 l0.length c0, .func (.func G) #[] cap] w fun e w' => e = .returned (.int .i64 r) ∧ Below w.heap.size w w' := by
  have HR0 := Aside0.mk hr0
  have HC0 := Aside0.mk hc0
  have HG := Aside0.mk hG
  have HN := Aside0.mk hn
  have HF := Aside0.mk hb
  have HP := Aside0.mk hp
  have hlen : l0.length ≤ 9223372036854775807 := hr0.2.1
  have H' := Aside0.mk h
  clear hr0 hc0 hG hn hb hp h
  have HB := Aside0.mk (Below.refl w.heap.size w)
  go_enter Try.func112, Try.ntmps112
  go_wp2
  go_loopg [8] l0.length (fun kq v8 w' => ∃ (i : Nat), v8 = .int .i64 i ∧ Aside0 (i + kq = l0.length) ∧ Aside0 (FnArg.idxF p (l0.drop i) (i : Int) = some r) ∧ Aside0 (Below w.heap.size w w'))
  case atStart => exact ⟨0, by simp, ⟨by omega⟩, ⟨by simpa using H'.out⟩, HB⟩
  case round =>
    clear H' HB
    obtain ⟨i, rfl, HK, HI, HB⟩ := hrel
    cases gk with
    | zero =>
      have hi : i = l0.length := by have := HK.out; omega
      have hfin : r = -1 := by
        have := HI.out
        rw [hi, FnArg.idxF_end] at this
        simpa using this.symm
      subst hfin
      have hd : decide ((i : Int) < (l0.length : Int)) = false := decide_eq_false (by omega)
      have hd2 : decide (i < l0.length) = false := decide_eq_false (by omega)
      clear hi
      go_wp2
      go_ret
      exact ⟨rfl, HB.out⟩
    | succ k1 =>
      have hi : i < l0.length := by have := HK.out; omega
      have HA := HI.out
      rw [FnArg.idxF_at p l0 i hi []] at HA
      obtain ⟨b, hb1, HA⟩ := Option.bind_eq_some_iff.1 HA
      have HBv := Aside0.mk hb1
      have HA' := Aside0.mk HA
      clear hb1 HA HI
      obtain ⟨ad, c, e, hcl, hK, hc⟩ := Kd.C_get HR0.out [] (i : Int) (by omega) (by omega)
      simp only [Int.toNat_natCast] at hK hc
      obtain ⟨A1, c1, rfl, hle, hC1⟩ := hK
      have hrd : l0.getD i [] = l0.getD i [] := rfl
      clear hrd
      generalize hx : l0.getD i [] = x at *
      cases e
      have hx0 : w.cell? (ad.add i) = some (.slice A1 x.length c1) := by
        have := hc 0 _ rfl
        simpa [Kd.slice] using this
      replace hx0 := (HB.out.cell (World.block_lt_of_cell? w _ hx0)).trans hx0
      have HQ := Aside0.mk (HP.out A1 c1 x b _ HB.out (Kd.C_below hC1 HB.out) hle HBv.out)
      clear hc hcl hC1 hle hx
      go_wp2_with ((with_reducible refine gate_dst (N := 16) rfl ?_); refine FnArg.goesV_ (some 16) rfl rfl cap HG.out HN.out HF.out #[.slice A1 x.length c1] rfl rfl (by simp only [List.map_toArray, List.map_cons, List.map_nil]; rfl) ?_; refine HQ.out.mono ?_; rintro e w2 ⟨rfl, hb2⟩; refine ⟨_, rfl, ?_⟩; have n0_ := Aside0.mk (below_step HB.out hb2); clear HB hb2; have HB := n0_; clear n0_)
      · rename_i hbt
        have hr : r = (i : Int) := by
          have := HA'.out
          rw [if_pos hbt] at this
          simpa using this.symm
        subst hr
        go_ret
        exact ⟨rfl, HB.out⟩
      · rename_i hbf
        go_roundg k1
        case measure => omega
        case rel => exact ⟨i + 1, by simp, ⟨by have := HK.out; omega⟩, ⟨by have := HA'.out; rw [if_neg (by simp [hbf])] at this; simpa using this⟩, HB⟩
set_option maxHeartbeats 1000000 in
set_option maxRecDepth 100000 in
theorem containsAggS.calls (G : FuncId) (gf : Func) (hG : Try.prog.funcs[G]? = some gf) (hn : (gf.name == "runtime.NumGoroutine") = false) (hb : gf.body.isSome = true) (cap : Array Value) (p : List S77 → Option Bool) (A0 : Option Addr) (c0 : Nat) (l0 : List (List S77)) (r : Bool) (w : World)
    (hr0 : Kd.C (Kd.slice 77 k77) w A0 l0.length l0) (hc0 : l0.length ≤ c0)
    (hp : ∀ (A : Option Addr) (c : Nat) (x : List S77) (b : Bool) (W : World), Below w.heap.size w W → Kd.C k77 W A x.length x → x.length ≤ c → p x = some b → Calls Try.prog G (#[.slice A x.length c] ++ cap) W fun e w' => e = .returned (.bool b) ∧ Below W.heap.size W w')
    (h : FnArg.anyF p l0 = some r) : Calls Try.prog 70 #[.slice A0 l0.length c0, .func (.func G) #[] cap] w fun e w' => e = .returned (.bool r) ∧ Below w.heap.size w w' := by
  obtain ⟨i, hi, hr⟩ := Option.bind_eq_some_iff.1 h
  obtain rfl := Option.some.inj hr
  have HQ := Aside0.mk (indexAggS.calls G gf hG hn hb cap p A0 c0 l0 i w hr0 hc0 hp hi)
  clear hr0 hc0 hG hn hb hp h hi hr
  go_enter Try.func70, Try.ntmps70
  go_wp2_with ((with_reducible refine gate_callee (f := 112) rfl ?_); refine goesL_ (some 7) rfl rfl Try.func112 (by kernel_rfl) rfl #[.slice A0 l0.length c0, .func (.func G) #[] cap] rfl (by simp only [List.map_toArray, List.map_cons, List.map_nil]; rfl) ?_; refine HQ.out.mono ?_; rintro e w' ⟨rfl, hb⟩; refine ⟨_, rfl, ?_⟩)
  go_ret
  exact ⟨rfl, hb⟩

/-! ### slices.ContainsFunc over []Agg: one that is not sorted -/
def inOrder_any.p (k : Nat) (x : List (S77)) : Option Bool := (impl_areSorted.f k x).bind fun b => some (!b)
def inOrder_any.f (k : Nat) (l0 : List (List (S77))) : Option Bool := FnArg.anyF (inOrder_any.p k) l0
theorem inOrder_any.mono : ∀ a0 k, LeO (inOrder_any.f k a0) (inOrder_any.f (k + 1) a0) := fun a0 k => FnArg.anyF_mono (fun x => FnArg.notF_mono (impl_areSorted.mono x k)) a0
set_option maxHeartbeats 1000000 in
set_option maxRecDepth 100000 in
theorem inOrder_any.bad (k : Nat) (A : Option Addr) (c : Nat) (x : List (S77)) (b : Bool) (w : World) (hr : Kd.C k77 w A x.length x) (hc : x.length ≤ c) (h : inOrder_any.p k x = some b) :
    Calls Try.prog 71 (#[.slice A x.length c] ++ #[]) w fun e w' => e = .returned (.bool b) ∧ Below w.heap.size w w' := by
  obtain ⟨q, hq, hb⟩ := Option.bind_eq_some_iff.1 h
  obtain rfl := Option.some.inj hb
  have HQ := Aside0.mk (impl_areSorted.calls k A c x q w hr hc hq)
  clear h hq hb hr hc
  go_enter Try.func71, Try.ntmps71
  go_wp2_with (go_at_call 72; refine HQ.out.mono ?_; rintro e w1 ⟨rfl, hb1⟩)
  go_ret
  exact ⟨rfl, hb1⟩
theorem inOrder_any.calls (k : Nat) (A0 : Option Addr) (c0 : Nat) (l0 : List (List (S77))) (r : Bool) (w : World) (hr0 : Kd.C (Kd.slice 77 k77) w A0 l0.length l0) (hc0 : l0.length ≤ c0) (h : inOrder_any.f k l0 = some r) :
    Calls Try.prog 70 #[.slice A0 l0.length c0, .func (.func 71) #[] #[]] w fun e w' => e = .returned (.bool r) ∧ Below w.heap.size w w' :=
  containsAggS.calls 71 Try.f71 Try.func71 (by kernel_rfl) rfl #[] (inOrder_any.p k) A0 c0 l0 r w hr0 hc0 (fun A c x b W _ hr hc hp => inOrder_any.bad k A c x b W hr hc hp) h

end Go.Proofs.Ytmfbonhdjpmbkaa.PB
