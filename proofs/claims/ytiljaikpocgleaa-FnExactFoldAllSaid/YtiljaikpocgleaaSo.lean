/- slices.SortFunc over rows of numbers: the library's contract as an entry of the table. Condition: the comparing function is sound, and comes to a strict weak order. -/
import Derived.Test.YtiljaikpocgleaaMZ
import Derived.Shelf.SlSortCmp.NoneTotal
import Derived.Sort.AssemblyPlain
namespace Go.Vm
open Go.Sort Go.Proofs
set_option linter.unusedVariables false
set_option linter.unusedSimpArgs false
noncomputable section
def rowK (k : Nat) (r : List T) : List T := (List.range k).map fun j => tI (cI r j)
def encK (k : Nat) (r : List T) : List Value := (List.range k).map fun j => .int .i64 (cI r j)
def sortW (cf : List T → List T → Int) (rs : List (List T)) : List (List T) := (pdq (ltOf cf) rs.toArray 0 rs.toArray.size (Lib.bitLen rs.toArray.size) true true).toList
end
theorem encK_get {k j : Nat} (h : j < k) (r : List T) : (encK k r)[j]? = some (.int .i64 (cI r j)) := by
 rw [encK, List.getElem?_map, List.getElem?_range h]; rfl
theorem rowK_get {k j : Nat} (h : j < k) (r : List T) : (rowK k r)[j]? = some (tI (cI r j)) := by
 rw [rowK, List.getElem?_map, List.getElem?_range h]; rfl
theorem encK_len (k : Nat) (r : List T) : (encK k r).length = k := by simp [encK]
theorem rowK_len (k : Nat) (r : List T) : (rowK k r).length = k := by simp [rowK]

/-- only numbers: no object -/
theorem putL_im : ∀ (ts : List T) (n : Nat) (s : Objs), (∀ t ∈ ts, ∃ v, t = .im v) → putL n ts s = s
 | [], _, _, _ => rfl
 | t :: ts, n, s, h => by
  obtain ⟨v, rfl⟩ := h t List.mem_cons_self
  rw [putL, putL_im ts (n + 1) s fun t ht => h t (List.mem_cons_of_mem _ ht)]; rfl
theorem rowK_im (k : Nat) (r : List T) : ∀ t ∈ rowK k r, ∃ v, t = .im v := by
 intro t ht
 rw [rowK, List.mem_map] at ht
 obtain ⟨j, _, rfl⟩ := ht
 exact ⟨_, rfl⟩
theorem rep_rowK {vr : Nat → Nat} {β : Nat → Value} (n k : Nat) (r : List T) : RepV vr β (.ag (unL n (rowK k r))) (.agg (encK k r).toArray) := by
 refine .ag (by rw [unL_length, rowK_len, List.size_toArray, encK_len]) (fun i x hx => ?_) fun i v x hv hx => ?_
 ·rw [List.getElem?_toArray] at hx
  have hi := (List.getElem?_eq_some_iff.1 hx).1
  rw [encK_len] at hi
  rw [encK_get hi] at hx
  cases hx; trivial
 ·rw [List.getElem?_toArray] at hx
  have hi := (List.getElem?_eq_some_iff.1 hx).1
  rw [encK_len] at hi
  rw [encK_get hi] at hx
  rw [unL_get _ n i _ (rowK_get hi r)] at hv
  cases hx; cases hv
  exact .im trivial

theorem heap_back {w w' : World} (hs : w.heap.size ≤ w'.heap.size) (he : ∀ b, b < w.heap.size → w'.heap[b]? = w.heap[b]?) : w'.heap = w.heap ++ w'.heap.extract w.heap.size w'.heap.size := by
 apply Array.ext_getElem?
 intro i
 rw [Array.getElem?_append]
 by_cases hi : i < w.heap.size
 ·rw [if_pos hi, he i hi]
 ·rw [if_neg hi, Array.getElem?_extract]
  by_cases h2 : i < w'.heap.size
  ·rw [if_pos (by omega), show w.heap.size + (i - w.heap.size) = i by omega]
  ·rw [if_neg (by omega), Array.getElem?_eq_none (by omega)]

/-- what compares two rows -/
theorem cmp_lays {P : Program} {ms : List Mode} {g k : Nat} {cf : List T → List T → Int} (hk : k ≤ 64) (h : ∀ x y : List T, Sound P ms g [.ag (rowK k x), .ag (rowK k y)] [] (oI (cf x y))) (hio : ∀ x y : List T, iosOf ms [.ag (rowK k x), .ag (rowK k y)] 0 = [])
  (x y : List T) (W : World) : Calls P g #[.agg (encK k x).toArray, .agg (encK k y).toArray] W fun e w' => e = .returned (.int .i64 (cf x y)) ∧ ∃ q os', w' = grow (W.drewN q) os' := by
 obtain ⟨_, _, hc⟩ := h x y
 have he : entry [.ag (rowK k x), .ag (rowK k y)] [] = fun _ => ⟨0, none⟩ := by
  show putL _ (rowK k x) (putL _ (rowK k y) _) = _
  rw [putL_im _ _ _ (rowK_im k y), putL_im _ _ _ (rowK_im k x)]; rfl
 have := hc ⟨fun _ => False, fun _ => False, W.heap.size⟩ W (fun _ => False) (fun _ => undef) [.agg (encK k x).toArray, .agg (encK k y).toArray] rfl (by
  rw [he]
  refine ⟨fun id o ho => (by cases ho), fun k p hk => (by simp at hk), ?_, ?_, fun b hb => hb.elim, fun b hb => hb.elim, Nat.le_refl _, fun id o ho => (by cases ho)⟩
  ·rintro (n | k) u' b _ ⟨o, ho, _⟩
   ·cases ho
   ·simp at ho
  ·rintro (n | k) b ⟨o, ho, _⟩
   ·cases ho
   ·simp at ho) rfl (fun j z hz => by
  match j, hz with
  | 0, hz => cases hz; exact rep_rowK _ _ _
  | 1, hz => cases hz; exact rep_rowK _ _ _)
 refine this.mono ?_
 rintro e w' ⟨z, rfl, FZ', sB, lb, lr, rvs, wd, _, hO, _, hA, rfl⟩
 rw [hio] at hO
 cases hA with
 | @c _ v _ _ _ hA =>
  cases hA
  have hp := hO.pow lb.length (tI (cf x y), v) (by simp)
  have hv : v = .int .i64 (cf x y) := by cases hp; rfl
  subst hv
  refine ⟨rfl, w'.drawn - W.drawn, w'.heap.extract W.heap.size w'.heap.size, ?_⟩
  have e1 := heap_back wd.size fun b hb => wd.old b hb id
  have e2 := wd.drawn
  obtain ⟨h', t', d', o', u'⟩ := w'
  obtain ⟨h0, t0, d0, o0, u0⟩ := W
  have q1 : o' = o0 := wd.os
  have q2 : t' = t0 := wd.tape
  have q3 : u' = u0 := wd.output
  subst q1 q2 q3
  have e1 : h' = h0 ++ h'.extract h0.size h'.size := e1
  have e2 : d0 ≤ d' := e2
  simp only [grow, World.drewN]
  rw [← e1, show d0 + (d' - d0) = d' by omega]

theorem sortW_perm {cf : List T → List T → Int} (hS : SWO (ltOf cf)) (rs : List (List T)) : (sortW cf rs).Perm rs ∧ (sortW cf rs).Pairwise fun a b => ltOf cf b a = false := by
 obtain ⟨⟨h1, _, h2⟩, h3⟩ := pdq_sorts (ltOf cf) hS rs.toArray 0 rs.toArray.size (Lib.bitLen rs.toArray.size) true true (Nat.zero_le _) (Nat.le_refl _) (Or.inl rfl)
 constructor
 ·have e : ∀ a : Array (List T), a.size = rs.toArray.size → a.extract 0 rs.toArray.size = a := fun a ha => by rw [← ha]; simp
  rw [e _ h1, e _ rfl] at h2
  exact h2
 ·rw [List.pairwise_iff_getElem]
  intro i j hi hj hij
  have := h3 i j (Nat.zero_le _) hij (by rw [← h1]; simpa [sortW] using hj)
  rw [getElem!_pos _ _ (by simpa [sortW] using hj), getElem!_pos _ _ (by simpa [sortW] using hi)] at this
  simpa [sortW] using this

theorem sort_sound {P : Program} {ρ : Go.Shelf.Ren} (L : SlLaysF0.n6 P ρ) {ms : List Mode} {g k : Nat} {cf : List T → List T → Int} (aE : ∀ w, (isAgg (ρ.t 24)).run P w = .ok true w) (zE : ∀ w, (Go.sizeOf (ρ.t 24)).run P w = .ok k w)
  (hk : k ≤ 64) (hk0 : 0 < k) (h : ∀ x y : List T, Sound P ms g [.ag (rowK k x), .ag (rowK k y)] [] (oI (cf x y))) (hio : ∀ x y : List T, iosOf ms [.ag (rowK k x), .ag (rowK k y)] 0 = []) (hS : SWO (ltOf cf))
  (hcall : Callable P (ρ.f 6)) {rs : List (List T)} (hr : ∀ r ∈ rs, r = rowK k r) (hn : rs.length < 4611686018427387904) {ms6 : List Mode} (hms : iosOf ms6 [.c (.sl .own k rs), .fn g []] 0 = [(0, 0, k)]) :
  Sound P ms6 (ρ.f 6) [.c (.sl .own k rs), .fn g []] [] ⟨[], [.sl .own k (sortW cf rs)], []⟩ := by
 refine ⟨hcall, rfl, fun X w FZ β xs hX hO hl hrep => ?_⟩
 match xs, hl with
 | [x, y], _ =>
 have hx := hrep 0 x rfl
 have hy := hrep 1 y rfl
 have hy' : y = .func (.func g) #[] #[] := by
  cases hy with
  | @fn f vs cs hl hr =>
   have : cs = #[] := Array.eq_empty_of_size_eq_zero hl.symm
   rw [this]
 subst hy'
 have ho : (entry [.c (.sl .own k rs), .fn g []] [] (nArg 0)).o = some (.rows .own k rs) := by
  show (putS _ (nArg 0) true _ (nArg 0)).o = _
  rw [putS, upd_same]
 obtain ⟨hperm, _⟩ := sortW_perm hS rs
 have hlen := hperm.length_eq
 have fin : ∀ {w' : World}, Wd X FZ FZ w w' → OK X w' FZ β (putS (entry [.c (.sl .own k rs), .fn g []] []) (nArg 0) true none) [(.sl .own k (sortW cf rs), x)] →
   ∃ z, (Ending.returned (.tuple #[]) : Ending) = .returned z ∧ Res X w FZ β (iosOf ms6 [.c (.sl .own k rs), .fn g []] 0) [x, .func (.func g) #[] #[]] [] ⟨[], [.sl .own k (sortW cf rs)], []⟩ z w' := by
  intro w' wd hO'
  refine ⟨_, rfl, FZ, putS (entry [.c (.sl .own k rs), .fn g []] []) (nArg 0) true none, [], [], [], wd, by rw [hms]; rfl, ?_, .nil, .nil, rfl⟩
  rw [hms]
  have : x.cells.getD 0 undef = x := by
   have hx : RepV _ _ (.sl (nArg 0) true 0 (sLen rs) k) x := hx
   exact hx.cells1
  show OK X w' FZ β _ ([(T.sl .own k (sortW cf rs), ioVal [x, .func (.func g) #[] #[]] (0, 0, k))] ++ ([] ++ []))
  rw [show ioVal [x, .func (.func g) #[] #[]] (0, 0, k) = x from this]
  exact hO'
 have hx : RepV (vers (entry [.c (.sl .own k rs), .fn g []] [])) β (.sl (nArg 0) true 0 (sLen rs) k) x := hx
 have hown := own_sem hO hx (.own ho)
 rw [sLen_eq] at hx
 rw [cut_all] at hown
 have zero : rs = [] → ∀ {p : Option Addr} {cap : Nat}, x = .slice p 0 cap → Calls P (ρ.f 6) #[x, .func (.func g) #[] #[]] w fun e w' => ∃ z, e = .returned z ∧ Res X w FZ β (iosOf ms6 [.c (.sl .own k rs), .fn g []] 0) [x, .func (.func g) #[] #[]] [] ⟨[], [.sl .own k (sortW cf rs)], []⟩ z w' := by
  intro e0 p cap e
  refine (show Calls P (ρ.f 6) #[x, .func (.func g) #[] #[]] w fun e w' => e = .returned (.tuple #[]) ∧ w' = w by rw [e]; exact AnyF.slices_SortFunc_none L p cap _ w).mono ?_
  rintro e w' ⟨rfl, rfl⟩
  refine fin (Wd.refl X FZ w') ?_
  have : sortW cf rs = [] := by
   rw [e0] at hlen ⊢
   exact List.eq_nil_of_length_eq_zero hlen
  subst e0
  rw [this]
  exact hown
 by_cases hnil : rs = []
 ·have hl0 : rs.length = 0 := by rw [hnil]; rfl
  generalize hln : rs.length = n at hx
  rw [hl0] at hln
  subst hln
  cases hx with
  | sl0 => exact zero hnil rfl
  | se => exact zero hnil rfl
  | sl => exact zero hnil rfl
 ·have hpos : 0 < rs.length := List.length_pos_iff.2 hnil
  generalize hln : rs.length = n at hx
  cases hx with
  | sl0 => omega
  | se => omega
  | @sl _ _ _ _ b o n0 cap o' cap' _ hv hβ h1 h2 h3 h4 h5 =>
   have hoo : o' = o := by rcases h5 with h5 | h5 <;> omega
   subst hoo
   subst hln
   obtain ⟨h41, h42⟩ := h4 rfl
   obtain rfl : cap' = cap := by omega
   obtain rfl : n0 = rs.length := by omega
   have htree := hown.pow 0 _ rfl
   have hcap0 : 0 < cap' := by omega
   obtain ⟨_, ⟨c, hrow, hlc, hbd, hw⟩, _⟩ := htree.headO hcap0
   have hcells : ∀ i j, i < rs.length → j < k → c[o' + (i * k + j)]? = some (.int .i64 (cI (rs.getD i []) j)) := by
    intro i j hi hj
    have hsz : i * k + j < rs.length * k := by
     have : (i + 1) * k ≤ rs.length * k := Nat.mul_le_mul_right _ hi
     rw [Nat.add_mul] at this
     omega
    have hsz2 : rs.length * k ≤ cap' * k := Nat.mul_le_mul_right _ hlc
    have hgi : rs[i]? = some rs[i] := List.getElem?_eq_getElem hi
    have hat : At rs i j (tI (cI rs[i] j)) := ⟨_, hgi, by rw [hr _ (List.getElem_mem hi)]; rw [rowK_get hj]; rw [← hr _ (List.getElem_mem hi)]⟩
    have hc0 : c[o' + i * k + j]? = some (c[o' + i * k + j]'(by omega)) := Array.getElem?_eq_getElem _
    cases htree with
    | emp => omega
    | own _ hr' _ _ _ hcc =>
     obtain rfl := hrow.inj hr'
     have := hcc _ _ _ _ hat hc0
     have hg : rs.getD i [] = rs[i] := by simp [List.getD, hi]
     rw [hg, ← Nat.add_assoc, hc0]
     generalize c[o' + i * k + j] = z at this
     cases this; rfl
   have hH : HoldsK (encK k) k w b o' rs.toArray := by
    intro t ht
    rw [size_flatK, List.size_toArray] at ht
    have hi : t / k < rs.length := Nat.div_lt_of_lt_mul (by rwa [Nat.mul_comm])
    have hj := Nat.mod_lt t hk0
    rw [get_flatK _ _ _ _ (by rw [List.size_toArray]; exact ht)]
    have e := hcells _ _ hi hj
    rw [Nat.mul_comm (t / k) k, Nat.div_add_mod] at e
    have hlt := (Array.getElem?_eq_some_iff.1 e).1
    refine ⟨?_, hrow.unfrozen hlt⟩
    rw [hrow.cell, e]
    congr 1
    rw [getElem!_pos rs.toArray _ (by simpa using hi), getElem!_pos _ _ (by rw [encK_len]; exact hj)]
    have := encK_get hj (rs[t / k])
    rw [List.getElem?_eq_getElem (by rw [encK_len]; exact hj)] at this
    injection this with this
    rw [List.getElem_toArray, this]
    simp [List.getD, hi]
   have hsz : rs.toArray.size = rs.length := List.size_toArray
   have hcon := AnyQ.slices_SortFunc_eq L k aE zE (encK k) (encK_len k) (fun x v hv => by
    rw [encK, List.mem_map] at hv
    obtain ⟨j, _, rfl⟩ := hv; rfl) cf hS g #[] b o' cap' rs.toArray w (by
     obtain ⟨fn, f1, f2, f3⟩ := (h [] []).1
     intro args w
     simp only [callFunc, Sem.run_bind, run_program, Result.andThen_ok, f1, f2, f3]
     simp) (fun m os dk _ x y => cmp_lays hk h hio x y _) hH hrow.lt (by rw [hsz]; exact hn)
   rw [hsz] at hcon
   refine hcon.mono ?_
   rintro e w' ⟨rfl, n, os, rfl⟩
   generalize hd' : pdq (ltOf cf) rs.toArray 0 rs.length (Lib.bitLen rs.length) true true = d'
   have hd2 : sortW cf rs = d'.toList := by rw [sortW, hsz, hd']
   have hdn : d'.size = rs.length := by rw [← Array.length_toList, ← hd2]; exact hlen
   have hsz2 : rs.length * k ≤ cap' * k := Nat.mul_le_mul_right _ hlc
   have hcsz : o' + d'.size * k ≤ c.size := by rw [hdn]; omega
   -- the row alone
   have hput : ∀ (W : World), W.heap = w.heap → (putRowK (encK k) k W b o' d').heap[b]? = (w.heap[b]?).map (onCells (putCells id o' (flatK (encK k) k d'))) := by
    intro W hW
    show (W.heap.modify b _)[b]? = _
    rw [Array.getElem?_modify, if_pos rfl, hW]
   have hwr : Wr w (putRowK (encK k) k w b o' d') b (putCells id o' (flatK (encK k) k d') c) := by
    obtain ⟨t, lo, hi, e, f⟩ := hrow
    refine ⟨⟨c, ⟨t, lo, hi, e, f⟩, by simp [putCells]⟩, ⟨t, lo, hi, ?_, by simpa [putCells] using f⟩, fun b' hb => ?_, ?_, rfl, rfl, rfl, rfl⟩
    ·rw [hput w rfl, e]; rfl
    ·show (w.heap.modify b _)[b']? = _
     rw [Array.getElem?_modify, if_neg (fun e => hb e.symm)]
    ·show w.heap.size ≤ (w.heap.modify b _).size
     simp
   have hnew : ∀ i j v, i < d'.size → j < k → (putCells id o' (flatK (encK k) k d') c)[o' + i * k + j]? = some v → v = .int .i64 (cI (d'.toList.getD i []) j) := by
    intro i j v hi hj hv
    have ht : i * k + j < d'.size * k := by
     have : (i + 1) * k ≤ d'.size * k := Nat.mul_le_mul_right _ hi
     rw [Nat.add_mul] at this
     omega
    rw [putCells, Array.getElem?_mapIdx, Option.map_eq_some_iff] at hv
    obtain ⟨z, _, rfl⟩ := hv
    rw [if_pos ⟨by omega, by rw [size_flatK]; omega⟩, show o' + i * k + j - o' = i * k + j by omega, id, get_flatK _ _ _ _ ht]
    have e1 : (i * k + j) / k = i := by rw [Nat.mul_comm, Nat.mul_add_div hk0, Nat.div_eq_of_lt hj, Nat.add_zero]
    have e2 : (i * k + j) % k = j := by rw [Nat.mul_comm, Nat.mul_add_mod, Nat.mod_eq_of_lt hj]
    rw [e1, e2, getElem!_pos d' _ hi, getElem!_pos _ _ (by rw [encK_len]; exact hj)]
    have := encK_get hj (d'[i])
    rw [List.getElem?_eq_getElem (by rw [encK_len]; exact hj)] at this
    injection this with this
    rw [this]
    simp [List.getD, hi]
   have hrows : ∀ r ∈ d'.toList, r = rowK k r := fun r hm => hr r (by rw [← hd2] at hm; exact hperm.mem_iff.1 hm)
   have hone : ∀ {i j t v}, At d'.toList i j t → (putCells id o' (flatK (encK k) k d') c)[o' + i * k + j]? = some v → Ow w X.RO FZ t v ∧ ∀ b', ¬ Blk w t v b' := by
    intro i j t v hat hv
    have hi := hat.lt
    obtain ⟨r, hgr, hgj⟩ := hat
    have hm := List.mem_of_getElem? hgr
    rw [hrows r hm] at hgj
    have hj := (List.getElem?_eq_some_iff.1 hgj).1
    rw [rowK_len] at hj
    rw [rowK_get hj] at hgj
    cases hgj
    have := hnew i j v (by simpa using hi) hj hv
    have hg : d'.toList.getD i [] = r := by rw [List.getD_eq_getElem?_getD, hgr]; rfl
    rw [hg] at this
    subst this
    exact ⟨.im trivial, fun b' hb => by cases hb⟩
   have hO2 := OK.rewrite (pend := []) (L := []) (rs' := d'.toList) hcap0 (by simpa using hown) hrow hwr (by simp [putCells]) (fun r hm => by rw [hrows r hm, rowK_len]) (by rw [Array.length_toList, hdn]; exact hlc)
    (fun i j t v hat hv => .inr ⟨(hone hat hv).1, fun b' hb => absurd hb ((hone hat hv).2 b')⟩)
    (fun i j t v i' j' t' v' hat hv _ _ _ _ _ b' hb => absurd hb ((hone hat hv).2 b'))
   rw [List.nil_append, Array.length_toList, hdn] at hO2
   have hheap : ∀ b', b' < (putRowK (encK k) k w b o' d').heap.size → (sortWorldK (encK k) k w b o' n d' os).heap[b']? = (putRowK (encK k) k w b o' d').heap[b']? := by
    intro b' hb'
    show ((putRowK (encK k) k w b o' d').heap ++ os)[b']? = _
    rw [Array.getElem?_append, if_pos hb']
   have hO3 := (hO2.world (w' := sortWorldK (encK k) k w b o' n d' os) (fun b' hb' => hheap b' (hO2.rd_lt hb')) (by show _ ≤ (_ ++ os).size; rw [Array.size_append]; exact Nat.le_add_right _ _)).1
   have hob : Bl w β (entry [.c (.sl .own k rs), .fn g []] []) [] (.inl (nArg 0)) b := ⟨_, ho, by show Blk w _ (β (nArg 0)) b; rw [hβ]; exact .here hcap0⟩
   refine fin ?_ (by rw [hd2]; exact hO3)
   refine (hwr.wd (X := X) (FZ := FZ) (hO.sep _ b hob).2.2).trans ⟨rfl, rfl, rfl, Nat.le_add_right _ _, by show _ ≤ (_ ++ os).size; rw [Array.size_append]; exact Nat.le_add_right _ _, fun b' hb1 _ => hheap b' (Nat.lt_of_lt_of_le hb1 hO2.n0), fun b' c' hc' => ⟨c', hc'.of_eq (hheap b' hc'.lt), rfl⟩, fun _ h => h, fun _ h => .inl h⟩
end Go.Vm
