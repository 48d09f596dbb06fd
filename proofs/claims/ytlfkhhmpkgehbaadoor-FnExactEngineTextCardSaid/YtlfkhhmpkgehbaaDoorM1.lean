/- A small machine of values over the code, and that it is sound: part 1. No condition. -/
import Derived.Test.YtlfkhhmpkgehbaaDoorM0
namespace Go.Vm
set_option linter.unusedVariables false
set_option linter.unusedSimpArgs false
variable {P : Program} {X : Cx} {FZ : Nat → Prop} {β : Nat → Value} {s s' : Objs} {w : World} {v : V} {fp fp' : List (Bool × Nat)} {pend : List (T × Value)}
structure NewC (X : Cx) (w : World) (FZ : Nat → Prop) (β : Nat → Value) (s : Objs) (pend : List (T × Value)) (sz : Nat) (ys : List (List T)) (new : List Value) : Prop where
 len : new.length = ys.length * sz
 wid : ∀ r ∈ ys, r.length = sz
 flat : ∀ x ∈ new, Vm.flat x
 cells : ∀ i j t v, At ys i j t → new[i * sz + j]? = some v → Ow w X.RO FZ t v ∧ ∀ b, Blk w t v b → ∃ k, 0 < k ∧ Bl w β s pend (.inr k) b
 dis : ∀ i j t v i' j' t' v', At ys i j t → new[i * sz + j]? = some v → At ys i' j' t' → new[i' * sz + j']? = some v' → (i ≠ i' ∨ j ≠ j') → ∀ b, Blk w t v b → ¬ Blk w t' v' b
theorem at_append {xs ys : List (List T)} {i j : Nat} {t : T} (h : At (xs ++ ys) i j t) : (i < xs.length ∧ At xs i j t) ∨ (xs.length ≤ i ∧ At ys (i - xs.length) j t) := by
 obtain ⟨r, hr, hj⟩ := h
 rw [List.getElem?_append] at hr
 split at hr
 ·rename_i h; exact .inl ⟨h, r, hr, hj⟩
 ·rename_i h; exact .inr ⟨by omega, r, hr, hj⟩
theorem At.width {rs : List (List T)} {i j sz : Nat} {t : T} (h : At rs i j t) (hw : ∀ r ∈ rs, r.length = sz) : j < sz := by
 obtain ⟨r, hr, hj⟩ := h
 have := (List.getElem?_eq_some_iff.1 hj).1
 rw [hw r (List.mem_of_getElem? hr)] at this
 exact this
theorem OK.appendIn {sz b o n cap : Nat} {xs ys : List (List T)} {L : List (T × Value)} {c : Array Value} {new : List Value} {w' : World} (h00 : 0 < cap) (h : OK X w FZ β s ((.sl .own sz xs, .slice (some ⟨b, o, none⟩) n cap) :: L)) (hr : Row w b c)
  (hN : NewC X w FZ β s ((.sl .own sz xs, .slice (some ⟨b, o, none⟩) n cap) :: L) sz ys new) (hl : xs.length + ys.length ≤ cap) (hw : Wr w w' b (spl c (o + xs.length * sz) new)) :
  OK X w' FZ β s [(.sl .own sz (xs ++ ys), .slice (some ⟨b, o, none⟩) (xs ++ ys).length cap)] := by
 have htree := h.pow 0 _ rfl
 obtain ⟨hn, ⟨c', hr', hlc, hbd, hwx⟩, _⟩ := htree.headO h00
 obtain rfl := hr.inj hr'
 have hbn : o + xs.length * sz + new.length ≤ c.size := by
  rw [hN.len]
  have : (xs.length + ys.length) * sz ≤ cap * sz := Nat.mul_le_mul_right _ hl
  rw [Nat.add_mul] at this
  omega
 have old : ∀ {i j t v}, i < xs.length → At xs i j t → (spl c (o + xs.length * sz) new)[o + i * sz + j]? = some v → c[o + i * sz + j]? = some v := by
  intro i j t v hi ht hv
  rw [spl_get hbn, if_neg] at hv
  ·exact hv
  ·rintro ⟨z1, _⟩
   have := ht.width hwx
   have : (i + 1) * sz ≤ xs.length * sz := Nat.mul_le_mul_right _ hi
   rw [Nat.add_mul] at this
   omega
 have nw : ∀ {i j t v}, xs.length ≤ i → At ys (i - xs.length) j t → (spl c (o + xs.length * sz) new)[o + i * sz + j]? = some v → new[(i - xs.length) * sz + j]? = some v := by
  intro i j t v hi ht hv
  have hj := ht.width hN.wid
  have hlt := ht.lt
  have e1 : (i - xs.length) * sz + xs.length * sz = i * sz := by rw [← Nat.add_mul]; congr 1; omega
  have e2 : (i - xs.length + 1) * sz ≤ ys.length * sz := Nat.mul_le_mul_right _ hlt
  rw [Nat.add_mul] at e2
  have := hN.len
  rw [spl_get hbn, if_pos (by omega)] at hv
  rw [← hv]; congr 1; omega
 have := OK.rewrite (pend := []) (L := L) (rs' := xs ++ ys) h00 (by simpa using h) hr hw (by rw [spl_size hbn]; exact Nat.le_refl _)
  (fun r hr => (List.mem_append.1 hr).elim (hwx r) (hN.wid r)) (by simpa using hl)
  (fun i j t v ht hv => by
   rcases at_append ht with ⟨hi, ht⟩ | ⟨hi, ht⟩
   ·exact .inl ⟨ht, old hi ht hv⟩
   ·have := hN.cells _ _ _ _ ht (nw hi ht hv)
    exact .inr ⟨this.1, fun b' hb' => by simpa using this.2 b' hb'⟩)
  (fun i j t v i' j' t' v' ht hv ht' hv' h1 h2 hne b' hb hb' => by
   rcases at_append ht with ⟨hi, ht⟩ | ⟨hi, ht⟩
   ·exact h1 ⟨ht, old hi ht hv⟩
   ·rcases at_append ht' with ⟨hi', ht'⟩ | ⟨hi', ht'⟩
    ·exact h2 ⟨ht', old hi' ht' hv'⟩
    ·exact hN.dis _ _ _ _ _ _ _ _ ht (nw hi ht hv) ht' (nw hi' ht' hv') (by omega) b' hb hb')
 simpa using this
theorem OK.appendNew {sz cap : Nat} {xs ys : List (List T)} {hx : Value} {L : List (T × Value)} {old : List Value} {new rest : List Value} (t0 : TypeId) (h : OK X w FZ β s ((.sl .own sz xs, hx) :: L))
  (hol : old.length = xs.length * sz) (hwx : ∀ r ∈ xs, r.length = sz) (ho : ∀ i j t v, At xs i j t → old[i * sz + j]? = some v → Ow w X.RO FZ t v ∧ ∀ b, Blk w t v b → Blk w (.sl .own sz xs) hx b)
  (hod : ∀ i j t v i' j' t' v', At xs i j t → old[i * sz + j]? = some v → At xs i' j' t' → old[i' * sz + j']? = some v' → (i ≠ i' ∨ j ≠ j') → ∀ b, Blk w t v b → ¬ Blk w t' v' b)
  (hN : NewC X w FZ β s ((.sl .own sz xs, hx) :: L) sz ys new) (hcap : (xs.length + ys.length) * sz + rest.length = cap * sz) (hl : xs.length + ys.length ≤ cap) :
  OK X (World.push w (.cells (old ++ new ++ rest).toArray t0 (0, 0))) FZ β s [(.sl .own sz (xs ++ ys), .slice (some ⟨w.heap.size, 0, none⟩) (xs ++ ys).length cap)] := by
 have hnl := hN.len
 rw [Nat.add_mul] at hcap
 have oldc : ∀ {i j t v}, i < xs.length → At xs i j t → (old ++ new ++ rest).toArray[i * sz + j]? = some v → old[i * sz + j]? = some v := by
  intro i j t v hi ht hv
  have := ht.width hwx
  have e : (i + 1) * sz ≤ xs.length * sz := Nat.mul_le_mul_right _ hi
  rw [Nat.add_mul] at e
  rw [List.getElem?_toArray, List.append_assoc, List.getElem?_append_left (by omega)] at hv
  exact hv
 have nw : ∀ {i j t v}, xs.length ≤ i → At ys (i - xs.length) j t → (old ++ new ++ rest).toArray[i * sz + j]? = some v → new[(i - xs.length) * sz + j]? = some v := by
  intro i j t v hi ht hv
  have hj := ht.width hN.wid
  have hlt := ht.lt
  have e1 : (i - xs.length) * sz + xs.length * sz = i * sz := by rw [← Nat.add_mul]; congr 1; omega
  have e2 : (i - xs.length + 1) * sz ≤ ys.length * sz := Nat.mul_le_mul_right _ hlt
  rw [Nat.add_mul] at e2
  rw [List.getElem?_toArray, List.append_assoc, List.getElem?_append_right (by omega), List.getElem?_append_left (by omega)] at hv
  rw [← hv]; congr 1; omega
 have := h.newRows 0 t0 (sz := sz) (cap := cap) (rs := xs ++ ys) (c := (old ++ new ++ rest).toArray) (fun r hr => (List.mem_append.1 hr).elim (hwx r) (hN.wid r)) (by simpa using hl) (by simp; omega)
  (fun i j t v ht hv => by
   rcases at_append ht with ⟨hi, ht⟩ | ⟨hi, ht⟩
   ·have := ho i j t v ht (oldc hi ht hv)
    exact ⟨this.1, fun b hb => ⟨0, Nat.le_refl _, _, rfl, this.2 b hb⟩⟩
   ·have := hN.cells _ _ _ _ ht (nw hi ht hv)
    exact ⟨this.1, fun b hb => by obtain ⟨k, _, hk⟩ := this.2 b hb; exact ⟨k, Nat.zero_le _, hk⟩⟩)
  (fun i j t v i' j' t' v' ht hv ht' hv' hne b hb hb' => by
   rcases at_append ht with ⟨hi, ht⟩ | ⟨hi, ht⟩
   ·have q1 := ho i j t v ht (oldc hi ht hv)
    rcases at_append ht' with ⟨hi', ht'⟩ | ⟨hi', ht'⟩
    ·exact hod _ _ _ _ _ _ _ _ ht (oldc hi ht hv) ht' (oldc hi' ht' hv') hne b hb hb'
    ·obtain ⟨k, hk, hk2⟩ := (hN.cells _ _ _ _ ht' (nw hi' ht' hv')).2 b hb'
     exact h.apart (.inr 0) (.inr k) b (by intro e; injection e; omega) ⟨_, rfl, q1.2 b hb⟩ hk2
   ·obtain ⟨k, hk, hk2⟩ := (hN.cells _ _ _ _ ht (nw hi ht hv)).2 b hb
    rcases at_append ht' with ⟨hi', ht'⟩ | ⟨hi', ht'⟩
    ·have q1 := ho i' j' t' v' ht' (oldc hi' ht' hv')
     exact h.apart (.inr 0) (.inr k) b (by intro e; injection e; omega) ⟨_, rfl, q1.2 b hb'⟩ hk2
    ·exact hN.dis _ _ _ _ _ _ _ _ ht (nw hi ht hv) ht' (nw hi' ht' hv') (by omega) b hb hb')
  (Nat.zero_le _)
 simpa using this
theorem growBy_le (n : Nat) : ∀ (r c : Nat), Builtin.growBy n r c ≤ max c (n + (n + 768) / 4)
 | 0, c => by simp [Builtin.growBy]; omega
 | r + 1, c => by
  simp only [Builtin.growBy]
  split
  ·omega
  ·have := growBy_le n r (c + (c + 768) / 4)
   omega
theorem nextcap_le {n c : Nat} (h : c < n) : Builtin.nextslicecap n c ≤ 2 * n + 200 := by
 unfold Builtin.nextslicecap
 split
 ·omega
 ·split
  ·omega
  ·have := growBy_le n 4 c
   omega
def World.drew' (w : World) : World := { w with drawn := w.drawn + 1 }
structure Src (P : Program) (w : World) (x : Value) (sz n : Nat) (new : List Value) : Prop where
 len : ∀ w', (Builtin.lenOf x).run P w' = .ok n w'
 run : ∀ w', w'.heap = w.heap → (Builtin.firstCells sz n x).run P w' = .ok new.toArray w'
theorem zeroCells_size (z : Array Value) (n : Nat) : (Builtin.zeroCells z n).size = n * z.size := by simp [Builtin.zeroCells]
theorem append_in {ts : Array TypeId} {ty e st xt : TypeId} {sz n m sCap : Nat} {a : Option Addr} {x : Value} {new : List Value} (hts : ts[0]? = some st ∧ ts[1]? = some xt) (hu : P.underlying st = some (.slice e)) (hux : ∃ d, P.underlying xt = some d ∧ ∀ k, d ≠ .int k)
  (hsz : sizeP P e = sz) (hp : 0 < sz) (hx : Src P w x sz n new) (hle : m + n ≤ sCap) :
  (Builtin.append_ ts ty #[.slice a m sCap, x]).run P w = ((match a with | some a => storeCells (a.add (m * sz)) new | none => pure ()).run P w).andThen fun _ w' => .ok (.slice a (m + n) sCap) w' := by
 obtain ⟨d, hd, hk⟩ := hux
 have hz : (match d with | TypeDesc.int k => true | x => false) = false := by
  cases d <;> first | rfl | exact absurd rfl (hk _)
 simp only [Builtin.append_, hts.1, hts.2, List.getElem?_toArray, List.getElem?_cons_zero, List.getElem?_cons_succ, Sem.run_bind, run_underlying hu, Result.andThen_ok, sizePos_run (hsz ▸ hp : 0 < sizeP P e), Sem.run_pure, run_underlying hd, hz, hsz]
 simp only [Bool.false_eq_true, if_false, Sem.run_bind, hx.len, Result.andThen_ok]
 rw [if_pos hle]
 simp only [Bool.not_false, if_true, Sem.run_bind, hx.run w rfl, Result.andThen_ok]
 cases a <;> simp
theorem append_new {ts : Array TypeId} {ty e st xt : TypeId} {sz n m sCap : Nat} {a : Option Addr} {x z : Value} {old new : List Value} (hts : ts[0]? = some st ∧ ts[1]? = some xt) (hu : P.underlying st = some (.slice e)) (hux : ∃ d, P.underlying xt = some d ∧ ∀ k, d ≠ .int k)
  (hsz : sizeP P e = sz) (hp : 0 < sz) (hby : (P.info? e).elim 100000 (·.bytes) ≤ 4096) (hx : Src P w x sz n new) (hs : Src P w (.slice a m sCap) sz m old) (hz0 : ∀ w', (zeroValue e).run P w' = .ok z w') (hlt : sCap < m + n) (hmax : m + n < 4294967296) :
  ∃ cap, m + n ≤ cap ∧ (Builtin.append_ ts ty #[.slice a m sCap, x]).run P w = .ok (.slice (some ⟨w.heap.size, 0, none⟩) (m + n) cap)
   (World.push (World.drew' w) (.cells (old ++ new ++ (Builtin.zeroCells z.cells (cap - (m + n))).toList).toArray e (0, 0))) := by
 obtain ⟨d, hd, hk⟩ := hux
 have hz : (match d with | TypeDesc.int k => true | x => false) = false := by
  cases d <;> first | rfl | exact absurd rfl (hk _)
 obtain ⟨ii, hii, hbi⟩ : ∃ ii, P.info? e = some ii ∧ ii.bytes ≤ 4096 := by
  cases hi : P.info? e with
  | none => rw [hi] at hby; simp at hby
  | some ii => rw [hi] at hby; exact ⟨ii, rfl, by simpa using hby⟩
 refine ⟨(Question.appendCap (m + n) sCap e).cut (w.tape w.drawn (.appendCap (m + n) sCap e)), by simp [Question.cut], ?_⟩
 generalize hcap : (Question.appendCap (m + n) sCap e).cut (w.tape w.drawn (.appendCap (m + n) sCap e)) = cap
 simp only [Builtin.append_, hts.1, hts.2, List.getElem?_toArray, List.getElem?_cons_zero, List.getElem?_cons_succ, Sem.run_bind, run_underlying hu, Result.andThen_ok, sizePos_run (hsz ▸ hp : 0 < sizeP P e), Sem.run_pure, run_underlying hd, hz, hsz]
 simp only [Bool.false_eq_true, if_false, Sem.run_bind, hx.len, Result.andThen_ok]
 rw [if_neg (by omega)]
 have hti : ∀ w', (typeInfo e).run P w' = .ok ii w' := fun w' => by simp [typeInfo, hii]
 have himax : IntKind.i64.max = 9223372036854775807 := by decide
 have hnc := nextcap_le hlt
 have hprod : Builtin.nextslicecap (m + n) sCap * ii.bytes ≤ (2 * (m + n) + 200) * 4096 := Nat.mul_le_mul hnc hbi
 simp only [Sem.run_bind, hti, Result.andThen_ok, Bool.false_eq_true, false_or, himax]
 rw [if_neg (by omega)]
 simp only [Sem.run_bind, Sem.run_pure, hti, Result.andThen_ok]
 rw [if_neg (by omega)]
 simp only [Sem.run_bind, Sem.run_pure, Result.andThen_ok, run_choose, Question.forced, Bool.false_eq_true, if_false, hti, run_askRoom, Bool.not_false, if_true]
 rw [hcap]
 have e1 := hs.run (World.drew' w) rfl
 have e2 := hx.run (World.drew' w) rfl
 simp only [World.drew'] at e1 e2
 simp only [Result.andThen_ok, e1, e2, Sem.run_map, hz0, newRow_run, Sem.run_pure, World.drew', World.push]
 congr 4
 apply Array.ext'
 simp
end Go.Vm
namespace Go.Vm
set_option linter.unusedVariables false
set_option linter.unusedSimpArgs false
variable {P : Program} {X : Cx} {FZ : Nat → Prop} {β : Nat → Value} {s s' : Objs} {w : World} {v : V} {fp fp' : List (Bool × Nat)} {pend : List (T × Value)}
structure SrcOk (P : Program) (X : Cx) (w : World) (FZ : Nat → Prop) (β : Nat → Value) (s : Objs) (pend : List (T × Value)) (x : Value) (sz : Nat) (ys : List (List T)) (new : List Value) : Prop where
 src : Src P w x sz ys.length new
 len : new.length = ys.length * sz
 wid : ∀ r ∈ ys, r.length = sz
 flat : ∀ x ∈ new, Vm.flat x
 cells : ∀ i j t v, At ys i j t → new[i * sz + j]? = some v → Ow w X.RO FZ t v ∧ ∀ b, Blk w t v b → Bl w β s pend (.inr 0) b
 dis : ∀ i j t v i' j' t' v', At ys i j t → new[i * sz + j]? = some v → At ys i' j' t' → new[i' * sz + j']? = some v' → (i ≠ i' ∨ j ≠ j') → ∀ b, Blk w t v b → ¬ Blk w t' v' b
theorem src_slice {b o n cap sz : Nat} {c : Array Value} (hr : Rw w b c) (hb : o + n * sz ≤ c.size) : Src P w (.slice (some ⟨b, o, none⟩) n cap) sz n (c.extract o (o + n * sz)).toList := by
 refine ⟨fun w' => rfl, fun w' hw => ?_⟩
 have hr' : Rw w' b c := hr.of_eq (by rw [hw])
 simp only [Builtin.firstCells, run_loadRow hr'.rw hb, Array.toArray_toList]
theorem extract_get {c : Array Value} {o n k : Nat} (hb : o + n ≤ c.size) (hk : k < n) : (c.extract o (o + n)).toList[k]? = c[o + k]? := by
 rw [Array.getElem?_toList, Array.getElem?_extract, if_pos (by omega)]
theorem Row.flatCells {RO FZ : Nat → Prop} {f : Fl} {sz : Nat} {rs : List (List T)} {b o n cap : Nat} (h : True) : True := trivial
theorem flatRows_at {rs : List (List T)} (h : flatRows rs = true) {i j : Nat} {t : T} (ht : At rs i j t) : ∃ v, t = .im v := by
 obtain ⟨r, hr, hj⟩ := ht
 have h1 := List.all_eq_true.1 h r (List.mem_of_getElem? hr)
 have h2 := List.all_eq_true.1 h1 t (List.mem_of_getElem? hj)
 cases t with
 | im v => exact ⟨v, rfl⟩
 | _ => cases h2
theorem divmod {k n sz : Nat} (h : k < n * sz) : k / sz < n ∧ k % sz < sz ∧ k = k / sz * sz + k % sz := by
 have hp : 0 < sz := by
  rcases Nat.eq_zero_or_pos sz with rfl | h'
  ·simp at h
  ·exact h'
 refine ⟨Nat.div_lt_of_lt_mul (by rw [Nat.mul_comm]; exact h), Nat.mod_lt _ hp, ?_⟩
 rw [Nat.mul_comm]; exact (Nat.div_add_mod k sz).symm
theorem at_all {rs : List (List T)} {sz i j : Nat} (hw : ∀ r ∈ rs, r.length = sz) (hi : i < rs.length) (hj : j < sz) : ∃ t, At rs i j t := by
 have h1 := hw _ (List.getElem_mem hi)
 exact ⟨rs[i][j], rs[i], List.getElem?_eq_getElem hi, List.getElem?_eq_getElem (by omega)⟩
theorem srcOk_im {A : Nat → Prop} {f : Fl} {sz : Nat} {ys : List (List T)} {x : Value} (h : Im w A (.sl f sz ys) x) (hf : flatRows ys = true) : ∃ new, SrcOk P X w FZ β s pend x sz ys new := by
 cases h with
 | nil =>
  refine ⟨[], ⟨fun w' => rfl, fun w' _ => rfl⟩, by simp, fun r hr => by simp at hr, fun x hx => by simp at hx, fun i j t v ht hv => by simp at hv, fun i j t v _ _ _ _ ht hv => by simp at hv⟩
 | emp =>
  refine ⟨[], ⟨fun w' => rfl, fun w' _ => by simp [Builtin.firstCells, loadCells, loadCellsFrom]⟩, by simp, fun r hr => by simp at hr, fun x hx => by simp at hx, fun i j t v ht hv => by simp at hv, fun i j t v _ _ _ _ ht hv => by simp at hv⟩
 | sl hr ha hl hb hw hc =>
  rename_i b o cap c
  have hbd : o + ys.length * sz ≤ c.size := by
   have : ys.length * sz ≤ cap * sz := Nat.mul_le_mul_right _ hl
   omega
  have cellIm : ∀ {i j t v}, At ys i j t → (c.extract o (o + ys.length * sz)).toList[i * sz + j]? = some v → Im w A t v ∧ ∃ u, t = .im u := by
   intro i j t v ht hv
   have hj := ht.width hw
   have hi := ht.lt
   have e : (i + 1) * sz ≤ ys.length * sz := Nat.mul_le_mul_right _ hi
   rw [Nat.add_mul] at e
   rw [extract_get hbd (by omega)] at hv
   exact ⟨hc i j t v ht (by rw [← hv]; congr 1; omega), flatRows_at hf ht⟩
  refine ⟨(c.extract o (o + ys.length * sz)).toList, src_slice hr hbd, by simp; omega, hw, fun y hy => ?_, fun i j t v ht hv => ?_, fun i j t v i' j' t' v' ht hv _ _ _ b hb => ?_⟩
  ·obtain ⟨k, hk⟩ := List.mem_iff_getElem?.1 hy
   have hlt := (List.getElem?_eq_some_iff.1 hk).1
   simp at hlt
   obtain ⟨q1, q2, q3⟩ := divmod (show k < ys.length * sz by omega)
   obtain ⟨t, ht⟩ := at_all hw q1 q2
   rw [q3] at hk
   obtain ⟨hi, u, rfl⟩ := cellIm ht hk
   exact hi.flatV
  ·obtain ⟨hi, u, rfl⟩ := cellIm ht hv
   cases hi with
   | im h => exact ⟨.im h, fun b hb => by cases hb⟩
  ·obtain ⟨hi, u, rfl⟩ := cellIm ht hv
   cases hb
theorem srcOk_own {sz : Nat} {ys : List (List T)} {x : Value} (hO : OK X w FZ β s [(.sl .own sz ys, x)]) :
  ∃ new, SrcOk P X w FZ β s [(.sl .own sz ys, x)] x sz ys new := by
 have h := hO.pow 0 _ rfl
 cases h with
 | nil =>
  refine ⟨[], ⟨fun w' => rfl, fun w' _ => rfl⟩, by simp, fun r hr => by simp at hr, fun x hx => by simp at hx, fun i j t v ht hv => by simp at hv, fun i j t v _ _ _ _ ht hv => by simp at hv⟩
 | emp =>
  refine ⟨[], ⟨fun w' => rfl, fun w' _ => by simp [Builtin.firstCells, loadCells, loadCellsFrom]⟩, by simp, fun r hr => by simp at hr, fun x hx => by simp at hx, fun i j t v ht hv => by simp at hv, fun i j t v _ _ _ _ ht hv => by simp at hv⟩
 | own h0 hr hl hb hw hc hn hd =>
  rename_i b o cap c
  have hbd : o + ys.length * sz ≤ c.size := by
   have : ys.length * sz ≤ cap * sz := Nat.mul_le_mul_right _ hl
   omega
  have cellAt : ∀ {i j t v}, At ys i j t → (c.extract o (o + ys.length * sz)).toList[i * sz + j]? = some v → c[o + i * sz + j]? = some v := by
   intro i j t v ht hv
   have hj := ht.width hw
   have hi := ht.lt
   have e : (i + 1) * sz ≤ ys.length * sz := Nat.mul_le_mul_right _ hi
   rw [Nat.add_mul] at e
   rw [extract_get hbd (by omega)] at hv
   rw [← hv]; congr 1; omega
  refine ⟨(c.extract o (o + ys.length * sz)).toList, src_slice hr.rw hbd, by simp; omega, hw, fun y hy => ?_, fun i j t v ht hv => ?_, fun i j t v i' j' t' v' ht hv ht' hv' hne b' hb1 hb2 => ?_⟩
  ·obtain ⟨k, hk⟩ := List.mem_iff_getElem?.1 hy
   have hlt := (List.getElem?_eq_some_iff.1 hk).1
   simp at hlt
   obtain ⟨q1, q2, q3⟩ := divmod (show k < ys.length * sz by omega)
   obtain ⟨t, ht⟩ := at_all hw q1 q2
   rw [q3] at hk
   exact (hc _ _ _ _ ht (cellAt ht hk)).flatV
  ·exact ⟨hc _ _ _ _ ht (cellAt ht hv), fun b' hb' => ⟨_, rfl, .deep h0 hr.rw ht (cellAt ht hv) hb'⟩⟩
  ·exact hd _ _ _ _ _ _ _ _ ht (cellAt ht hv) ht' (cellAt ht' hv') hne b' hb1 hb2
theorem roRows_at {rs : List (List T)} {i j : Nat} {t : T} (h : At (roRows rs) i j t) : ∃ t', At rs i j t' ∧ t = t'.toRo := by
 obtain ⟨r, hr, hj⟩ := h
 rw [roRows, List.getElem?_map, Option.map_eq_some_iff] at hr
 obtain ⟨r', hr', rfl⟩ := hr
 rw [List.getElem?_map, Option.map_eq_some_iff] at hj
 obtain ⟨t', ht', rfl⟩ := hj
 exact ⟨t', ⟨r', hr', ht'⟩, rfl⟩
theorem Im.toRo {A FZ : Nat → Prop} {t : T} {v : Value} (h : Im w A t v) : Ow w A FZ t.toRo v ∧ ∀ b, ¬ Blk w t.toRo v b := by
 cases h with
 | im h => exact ⟨.im h, fun b hb => by cases hb⟩
 | no h => exact ⟨.no h, fun b hb => by cases hb⟩
 | nil => exact ⟨.nil, fun b hb => by cases hb⟩
 | emp => exact ⟨.emp, fun b hb => by cases hb⟩
 | sl hr ha hl hb hw hc => exact ⟨.ro (.sl hr ha hl hb hw hc), fun b hb => by cases hb⟩
theorem srcOk_ro {sz : Nat} {ys : List (List T)} {x : Value} (h : Im w X.RO (.sl .ro sz ys) x) : ∃ new, SrcOk P X w FZ β s pend x sz (roRows ys) new := by
 cases h with
 | nil =>
  refine ⟨[], ⟨fun w' => rfl, fun w' _ => rfl⟩, by simp [roRows], fun r hr => by simp [roRows] at hr, fun x hx => by simp at hx, fun i j t v ht hv => by simp at hv, fun i j t v _ _ _ _ ht hv => by simp at hv⟩
 | emp =>
  refine ⟨[], ⟨fun w' => by simp [roRows, Builtin.lenOf], fun w' _ => by simp [Builtin.firstCells, loadCells, loadCellsFrom, roRows]⟩, by simp [roRows], fun r hr => by simp [roRows] at hr, fun x hx => by simp at hx, fun i j t v ht hv => by simp at hv, fun i j t v _ _ _ _ ht hv => by simp at hv⟩
 | sl hr ha hl hb hw hc =>
  rename_i b o cap c
  have hlen : (roRows ys).length = ys.length := by simp [roRows]
  have hbd : o + ys.length * sz ≤ c.size := by
   have : ys.length * sz ≤ cap * sz := Nat.mul_le_mul_right _ hl
   omega
  have cellIm : ∀ {i j t v}, At (roRows ys) i j t → (c.extract o (o + ys.length * sz)).toList[i * sz + j]? = some v → ∃ t', t = T.toRo t' ∧ Im w X.RO t' v := by
   intro i j t v ht hv
   obtain ⟨t', ht2, rfl⟩ := roRows_at ht
   have hj := ht2.width hw
   have hi := ht2.lt
   have e : (i + 1) * sz ≤ ys.length * sz := Nat.mul_le_mul_right _ hi
   rw [Nat.add_mul] at e
   rw [extract_get hbd (by omega)] at hv
   exact ⟨t', rfl, hc i j t' v ht2 (by rw [← hv]; congr 1; omega)⟩
  refine ⟨(c.extract o (o + ys.length * sz)).toList, by rw [hlen]; exact src_slice hr hbd, by simp [hlen]; omega, fun r hr => ?_, fun y hy => ?_, fun i j t v ht hv => ?_, fun i j t v i' j' t' v' ht hv _ _ _ b hb => ?_⟩
  ·obtain ⟨r', hr', rfl⟩ := List.mem_map.1 hr
   rw [List.length_map]; exact hw _ hr'
  ·obtain ⟨k, hk⟩ := List.mem_iff_getElem?.1 hy
   have hlt := (List.getElem?_eq_some_iff.1 hk).1
   simp at hlt
   obtain ⟨q1, q2, q3⟩ := divmod (show k < ys.length * sz by omega)
   obtain ⟨t, ht⟩ := at_all hw q1 q2
   rw [q3] at hk
   have ht2 : At (roRows ys) (k / sz) (k % sz) t.toRo := by
    obtain ⟨r, hr, hj⟩ := ht
    exact ⟨r.map T.toRo, by rw [roRows, List.getElem?_map, hr]; rfl, by rw [List.getElem?_map, hj]; rfl⟩
   obtain ⟨t', _, hi⟩ := cellIm ht2 hk
   exact hi.flatV
  ·obtain ⟨t', rfl, hi⟩ := cellIm ht hv
   exact ⟨hi.toRo.1, fun b hb => absurd hb ((Im.toRo (FZ := FZ) hi).2 b)⟩
  ·obtain ⟨t', rfl, hi⟩ := cellIm ht hv
   exact absurd hb ((Im.toRo (FZ := FZ) hi).2 b)
theorem srcOk_str (st : ByteArray) : SrcOk P X w FZ β s pend (.string st) 1 (strRows st) (st.data.toList.map fun b => .int .u8 b.toNat) := by
 unfold strRows
 have cell : ∀ {i j t v}, At (st.data.toList.map fun b => [T.im (.int .u8 b.toNat)]) i j t → (st.data.toList.map fun b => Value.int .u8 b.toNat)[i * 1 + j]? = some v → ∃ b : UInt8, t = .im (.int .u8 b.toNat) ∧ v = .int .u8 b.toNat := by
  rintro i j t v ⟨r, hr, hj⟩ hv
  rw [List.getElem?_map, Option.map_eq_some_iff] at hr
  obtain ⟨b, hb, rfl⟩ := hr
  cases j with
  | succ j => simp at hj
  | zero =>
   simp only [List.getElem?_cons_zero, Option.some.injEq] at hj
   rw [Nat.mul_one, Nat.add_zero, List.getElem?_map, hb] at hv
   exact ⟨b, hj.symm, (Option.some.inj hv).symm⟩
 refine ⟨⟨fun w' => by simp [Builtin.lenOf], fun w' _ => ?_⟩, by simp, fun r hr => ?_, fun x hx => ?_, fun i j t v ht hv => ?_, fun i j t v i' j' t' v' ht hv _ _ _ b hb => ?_⟩
 ·simp only [Builtin.firstCells, Sem.run_pure, List.length_map]
  congr 1
  apply Array.ext'
  have e : st.extract 0 st.data.toList.length = st := by
   have : st.data.toList.length = st.size := by simp
   rw [this]; exact ByteArray.extract_zero_size
  rw [e]; simp
 ·obtain ⟨b, _, rfl⟩ := List.mem_map.1 hr; rfl
 ·obtain ⟨b, _, rfl⟩ := List.mem_map.1 hx; trivial
 ·obtain ⟨b, rfl, rfl⟩ := cell ht hv
  exact ⟨.im trivial, fun b hb => by cases hb⟩
 ·obtain ⟨b', rfl, rfl⟩ := cell ht hv
  cases hb
theorem BorE.shape {id off len sz : Nat} {e : Bool} {t : T} (h : BorE s (.sl id e off len sz) t) : ∃ rs, t = .sl .ro sz rs := by cases h <;> exact ⟨_, rfl⟩
theorem srcH_sound {α : Type} {fl : Bool} {x : V} {xx : Value} {esz : Nat} {k : List (List T) → H α} {r : α × Objs × List (Bool × Nat)} (hO : OK X w FZ β s []) (hx : RepV (vers s) β x xx)
  (hsz : ∀ id e off len sz, x = .sl id e off len sz → sz = esz) (hnl : ∀ sz, x = .nl sz → sz = esz) (hst : ∀ st, x = .im (.string st) → esz = 1) (h : (srcH fl x k).run s fp = some r) :
  ∃ ys s1 pend fp1 new, (k ys).run s1 fp1 = some r ∧ OK X w FZ β s1 pend ∧ (∀ i, (s i).ver ≤ (s1 i).ver) ∧ SrcOk P X w FZ β s1 pend xx esz ys new ∧ pend.length ≤ 1 := by
 unfold srcH at h
 split at h
 ·rename_i st
  obtain rfl := rep_im hx
  obtain rfl := hst _ rfl
  rw [sRows_eq] at h
  exact ⟨_, s, [], fp, _, h, hO, fun _ => Nat.le_refl _, srcOk_str st, by simp⟩
 ·cases fl with
  | true =>
   simp only [cond_true] at h
   obtain ⟨t, fp1, hb, h1⟩ := bor_run h
   have hi := bor_sem hO hx hb
   split at h1
   ·rename_i f sz rs
    obtain ⟨hf, h2⟩ := chk_run h1
    rw [sFlat_eq] at hf
    have : sz = esz := by
     cases hb with
     | nl => exact hnl _ rfl
     | rows => exact hsz _ _ _ _ _ rfl
     | link => exact hsz _ _ _ _ _ rfl
    subst this
    obtain ⟨new, hn⟩ := srcOk_im (P := P) (X := X) (FZ := FZ) (β := β) (s := s) (pend := []) hi hf
    exact ⟨_, s, [], fp1, new, h2, hO, fun _ => Nat.le_refl _, hn, by simp⟩
   ·cases h1
  | false =>
   simp only [cond_false] at h
   obtain ⟨t, s1, fp1, hb, h1⟩ := own_run h
   have hO1 := own_sem hO hx hb
   split at h1
   ·rename_i sz rs
    have : sz = esz := by
     cases hb with
     | nl => exact hnl _ rfl
     | own => exact hsz _ _ _ _ _ rfl
     | imm => exact hsz _ _ _ _ _ rfl
     | link => exact hsz _ _ _ _ _ rfl
     | limm => exact hsz _ _ _ _ _ rfl
    subst this
    obtain ⟨new, hn⟩ := srcOk_own (P := P) hO1
    exact ⟨_, s1, _, fp1, new, h1, hO1, hb.ver, hn, by simp⟩
   ·rename_i sz rs
    have : sz = esz := by
     cases hb with
     | imm => exact hsz _ _ _ _ _ rfl
     | limm => exact hsz _ _ _ _ _ rfl
    subst this
    have hi : Im w X.RO (.sl .ro sz rs) xx := by
     have h2 : Ow w X.RO FZ (.sl .ro sz rs) xx := hO1.pow 0 _ rfl
     cases h2 with
     | nil => exact .nil
     | emp => exact .emp
     | ro h => exact h
    obtain ⟨new, hn⟩ := srcOk_ro (P := P) (X := X) (FZ := FZ) (β := β) (s := s1) (pend := [] ++ [(.sl .ro sz rs, xx)]) hi
    rw [sRo_eq] at h1
    exact ⟨_, s1, _, fp1, new, h1, hO1, hb.ver, hn, by simp⟩
   ·cases h1
theorem castK_sl {v : V} {k : Kd} {id off len sz : Nat} {e : Bool} (h : castK k v = .sl id e off len sz) : v = .sl id e off len sz := by
 unfold castK at h
 split at h
 ·cases h
 ·exact h
theorem rep_szV {vr : Nat → Nat} {esz : Nat} {v : V} {x : Value} (h : RepV vr β v x) : RepV vr β (szV esz v) x := by
 unfold szV
 split
 ·rename_i id t off len sz
  cases Nat.beq sz esz
  ·exact .no
  ·exact h
 ·exact rep_castK h _
theorem szV_sl {esz id off len sz : Nat} {e : Bool} {v : V} (h : szV esz v = .sl id e off len sz) : sz = esz := by
 unfold szV at h
 split at h
 ·rename_i sz'
  cases hb : Nat.beq sz' esz with
  | false => rw [hb] at h; cases h
  | true =>
   rw [hb] at h
   simp only [cond_true, V.sl.injEq] at h
   rw [← h.2.2.2.2]; exact beq_eq hb
 ·rename_i hne
  exact absurd (castK_sl h) (hne _ _ _ _ _)
theorem szV_nl {esz sz : Nat} {v : V} (h : szV esz v = .nl sz) : sz = esz := by
 unfold szV at h
 split at h
 ·rename_i sz'
  cases hb : Nat.beq sz' esz with
  | false => rw [hb] at h; cases h
  | true => rw [hb] at h; cases h
 ·cases v with
  | nl sz' => simp only [castK, V.nl.injEq] at h; exact h.symm
  | _ => cases h
theorem szV_str {esz : Nat} {v : V} {st : ByteArray} (h : szV esz v = .im (.string st)) : v = .im (.string st) := by
 unfold szV at h
 split at h
 ·rename_i sz'
  cases hb : Nat.beq sz' esz with
  | false => rw [hb] at h; cases h
  | true => rw [hb] at h; cases h
 ·unfold castK at h
  split at h
  ·cases h
  ·exact h
theorem rows_src {sz : Nat} {xs : List (List T)} {x : Value} {L : List (T × Value)} (hO : OK X w FZ β s ((.sl .own sz xs, x) :: L)) : ∃ a m cap old, x = .slice a m cap ∧ m = xs.length ∧ Src P w x sz m old ∧ old.length = xs.length * sz ∧ (∀ r ∈ xs, r.length = sz) ∧
  (∀ i j t v, At xs i j t → old[i * sz + j]? = some v → Ow w X.RO FZ t v ∧ ∀ b, Blk w t v b → Blk w (.sl .own sz xs) x b) ∧
  (∀ i j t v i' j' t' v', At xs i j t → old[i * sz + j]? = some v → At xs i' j' t' → old[i' * sz + j']? = some v' → (i ≠ i' ∨ j ≠ j') → ∀ b, Blk w t v b → ¬ Blk w t' v' b) ∧
  (((a = none ∨ ∃ a', a = some a') ∧ cap = 0) ∨ ∃ b o c, a = some ⟨b, o, none⟩ ∧ Row w b c ∧ o + cap * sz ≤ c.size ∧ m ≤ cap ∧ Blk w (.sl .own sz xs) x b ∧ 0 < cap) := by
 have h := hO.pow 0 _ rfl
 cases h with
 | nil =>
  exact ⟨none, 0, 0, [], rfl, rfl, ⟨fun w' => rfl, fun w' _ => rfl⟩, by simp, fun r hr => by simp at hr, fun i j t v ht hv => by simp at hv, fun i j t v _ _ _ _ ht hv => by simp at hv, .inl ⟨.inl rfl, rfl⟩⟩
 | emp =>
  exact ⟨_, 0, 0, [], rfl, rfl, ⟨fun w' => rfl, fun w' _ => by simp [Builtin.firstCells, loadCells, loadCellsFrom]⟩, by simp, fun r hr => by simp at hr, fun i j t v ht hv => by simp at hv, fun i j t v _ _ _ _ ht hv => by simp at hv, .inl ⟨.inr ⟨_, rfl⟩, rfl⟩⟩
 | own h0 hr hl hb hw hc hn hd =>
  rename_i b o cap c
  have hbd : o + xs.length * sz ≤ c.size := by
   have : xs.length * sz ≤ cap * sz := Nat.mul_le_mul_right _ hl
   omega
  have cellAt : ∀ {i j t v}, At xs i j t → (c.extract o (o + xs.length * sz)).toList[i * sz + j]? = some v → c[o + i * sz + j]? = some v := by
   intro i j t v ht hv
   have hj := ht.width hw
   have hi := ht.lt
   have e : (i + 1) * sz ≤ xs.length * sz := Nat.mul_le_mul_right _ hi
   rw [Nat.add_mul] at e
   rw [extract_get hbd (by omega)] at hv
   rw [← hv]; congr 1; omega
  exact ⟨_, _, _, _, rfl, rfl, src_slice hr.rw hbd, by simp; omega, hw, fun i j t v ht hv => ⟨hc _ _ _ _ ht (cellAt ht hv), fun b' hb' => .deep h0 hr.rw ht (cellAt ht hv) hb'⟩,
   fun i j t v i' j' t' v' ht hv ht' hv' hne => hd _ _ _ _ _ _ _ _ ht (cellAt ht hv) ht' (cellAt ht' hv') hne, .inr ⟨b, o, c, rfl, hr, hb, hl, .here h0, h0⟩⟩
theorem zeroCells_len (z : Array Value) (n : Nat) : (Builtin.zeroCells z n).toList.length = n * z.size := by simp [Builtin.zeroCells]
theorem append_sound {key : Nat} {ts : Array TypeId} {ty : TypeId} {a x : V} {xa xx : Value} {r : V × Objs × List (Bool × Nat)} (hO : OK X w FZ β s []) (ha : RepV (vers s) β a xa) (hx : RepV (vers s) β x xx)
  (h : (appendH P key ts a x).run s fp = some r) : ∃ z w', (Builtin.append_ ts ty #[xa, xx]).run P w = .ok z w' ∧ Post X FZ β s w r.1 r.2.1 z w' := by
 unfold appendH at h
 split at h
 ·rename_i e hu
  obtain ⟨hc, h2⟩ := chk_run h
  clear h
  simp only [Bool.and_eq_true] at hc
  obtain ⟨⟨⟨⟨⟨⟨hts, hux⟩, hty⟩, hp⟩, hby⟩, hz⟩, hks⟩ := hc
  have hts := beq_eq hts
  have hp : 0 < sizeP P e := by simpa [Nat.blt_eq] using hp
  have hby := Nat.le_of_ble_eq_true hby
  have hts0 : ts[0]? = some (ts.getD 0 0) ∧ ts[1]? = some (ts.getD 1 0) := by
   constructor <;> simp [Array.getD, hts, Array.getElem?_eq_getElem]
  obtain ⟨d, hd⟩ := Option.isSome_iff_exists.1 hux
  rw [hd] at hty
  have hux' : ∃ d, P.underlying (ts.getD 1 0) = some d ∧ ∀ k, d ≠ .int k := ⟨d, hd, fun k e => by subst e; simp at hty⟩
  obtain ⟨ys, s1, pend, fp1, new, h3, hO1, hv1, hS, hpl⟩ := srcH_sound (P := P) (esz := sizeP P e) hO (rep_szV hx) (fun id e' off len sz he => szV_sl he) (fun sz he => szV_nl he)
   (fun st he => by
    obtain rfl := szV_str he
    cases d with
    | string => simp only [Bool.and_eq_true] at hty; exact beq_eq hty.2
    | int k => cases hty
    | _ => cases hty) h2
  obtain ⟨t, s2, fp2, hown, h4⟩ := own_run h3
  have hO2 := own_sem hO1 ((rep_castK ha (.sl (sizeP P e))).ver hv1) hown
  split at h4
  ·rename_i sz xs
   obtain ⟨hc2, h5⟩ := chk_run h4
   simp only [sFit_eq, sLen_eq, sApp_eq, Bool.and_eq_true] at hc2 h5
   have hsz := beq_eq hc2.1
   have hmax : xs.length + ys.length < 4294967296 := by simpa [Nat.blt_eq] using hc2.2
   subst hsz
   obtain ⟨hq, h6⟩ := new_run h5
   obtain rfl := ret_run h6
   have hO3 := hO2.rot
   obtain ⟨adr, m, cap, old, hxa, hm, hsrc, hol, hwx, hoc, hod, hcase⟩ := rows_src (P := P) hO3
   subst hxa hm
   have hN : NewC X w FZ β s2 ((.sl .own (sizeP P e) xs, .slice adr xs.length cap) :: pend) (sizeP P e) ys new := by
    refine ⟨hS.len, hS.wid, hS.flat, fun i j t v ht hv => ⟨(hS.cells i j t v ht hv).1, fun b hb => ⟨1, by omega, ?_⟩⟩, hS.dis⟩
    obtain ⟨p, hp', hb'⟩ := (hS.cells i j t v ht hv).2 b hb
    exact ⟨p, by simpa using hp', hb'⟩
   have hver2 : ∀ i, (s i).ver ≤ (s2 i).ver := fun i => Nat.le_trans (hv1 i) (hown.ver i)
   have hrep : ∀ {z : Value} {βz : Nat → Value} {n2 : Nat}, z = .slice adr n2 cap ∨ True → True := fun _ => trivial
   by_cases hle : xs.length + ys.length ≤ cap
   ·-- there is room
    rcases hcase with ⟨hadr, rfl⟩ | ⟨b, o, c, rfl, hrow, hbd, hmc, hblk, h00⟩
    ·have hx0 : xs = [] := List.length_eq_zero_iff.1 (by omega)
     have hy0 : ys = [] := List.length_eq_zero_iff.1 (by omega)
     subst hx0 hy0
     have hnew : new = [] := List.length_eq_zero_iff.1 (by rw [hS.len]; simp)
     subst hnew
     have hrun := append_in (P := P) (w := w) (ty := ty) (m := 0) (sCap := 0) (a := adr) hts0 hu hux' rfl hp hS.src (by simp)
     have hrun' : (Builtin.append_ ts ty #[.slice adr 0 0, xx]).run P w = .ok (.slice adr 0 0) w := by
      rw [hrun]
      cases adr <;> simp [storeCells]
     refine ⟨_, w, hrun', ?_⟩
     have hO4 : OK X w FZ β s2 [(.sl .own (sizeP P e) [], .slice adr 0 0)] := by
      have := hO3.take 1
      simpa using this
     have hO5 := OK.place (pend := []) hO4 hq
     refine ⟨_, FZ, hO5, fun i hi => ext_new hq _ _ i (Nat.le_trans hi (hver2 i)), ?_, Wd.refl _ _ _⟩
     rcases hadr with rfl | ⟨b, o, rfl⟩
     ·exact .sl0 (by unfold nKey; omega) (by rw [vers, putS_bump]; omega) (upd_same _ _ _)
     ·exact .se (by rw [vers, putS_bump]; omega) (upd_same _ _ _)
    ·have hnl := hS.len
     have hb2 : o + xs.length * sizeP P e + new.length ≤ c.size := by
      rw [hnl]
      have : (xs.length + ys.length) * sizeP P e ≤ cap * sizeP P e := Nat.mul_le_mul_right _ hle
      rw [Nat.add_mul] at this
      omega
     obtain ⟨w', hst, hw'⟩ := run_storeCells (P := P) (b := b) (o := o + xs.length * sizeP P e) new 0 hrow (by omega) hS.flat
     have hrun := append_in (P := P) (w := w) (ty := ty) (m := xs.length) (sCap := cap) (a := some ⟨b, o, none⟩) hts0 hu hux' rfl hp hS.src hle
     simp only [add_addr, hst, Result.andThen_ok] at hrun
     have hO4 := hO3.appendIn h00 hrow hN hle (by simpa using hw')
     have hO5 := OK.place (pend := []) hO4 hq
     have hob : Bl w β s2 ((.sl .own (sizeP P e) xs, .slice (some ⟨b, o, none⟩) xs.length cap) :: pend) (.inr 0) b := ⟨_, rfl, hblk⟩
     refine ⟨_, w', hrun, _, FZ, hO5, fun i hi => ext_new hq _ _ i (Nat.le_trans hi (hver2 i)), ?_, hw'.wd (hO3.sep _ b hob).2.2⟩
     have : xs.length + ys.length = (xs ++ ys).length := by simp
     rw [this]
     exact .sl (by rw [vers, putS_bump]; omega) (upd_same _ _ _) (by omega) (by omega) (by simp; exact hle) (fun _ => by omega) (.inl (by omega))
   ·-- a new row
    obtain ⟨zv, hzr, hze⟩ := zeroP_run (P := P) (w := w) hz
    have hzr' : ∀ w', (zeroValue e).run P w' = .ok zv w' := by
     intro w'
     obtain ⟨z2, h1, h2⟩ := zeroP_run (P := P) (w := w') hz
     have : z2 = zv := by
      simp only [zeroValue, Sem.run_bind, typeInfo, run_program, Result.andThen_ok] at h1 hzr
      cases hi : P.info? e with
      | none => rw [hi] at h1; simp at h1
      | some i =>
       rw [hi] at h1 hzr
       simp only [Sem.run_pure, Result.andThen_ok] at h1 hzr
       cases hzz : i.zero with
       | none => rw [hzz] at h1; simp at h1
       | some z3 =>
        rw [hzz] at h1 hzr
        simp only [Sem.run_pure, Result.ok.injEq, and_true] at h1 hzr
        exact h1.symm.trans hzr
     rw [← this]; exact h1
    obtain ⟨hzl, hzs⟩ := zeroOk_spec hz
    have hzsz : zv.cells.size = sizeP P e := by
     rw [← Array.length_toList, hze]
     have := beq_eq hks
     omega
    obtain ⟨cap', hcl, hrun⟩ := append_new (P := P) (w := w) (ty := ty) (m := xs.length) (sCap := cap) (a := adr) hts0 hu hux' rfl hp hby hS.src hsrc hzr' (by omega) hmax
    have hOd : OK X (World.drew' w) FZ β s2 ((.sl .own (sizeP P e) xs, .slice adr xs.length cap) :: pend) := (hO3.world (w' := World.drew' w) (fun _ _ => rfl) (Nat.le_refl _)).1
    have blk_eq : ∀ {t : T} {v : Value} {b : Nat}, Blk (World.drew' w) t v b ↔ Blk w t v b := fun {t v b} => ⟨fun h => h.back fun _ _ => rfl, fun h => h.of_eq fun _ _ => rfl⟩
    have ow_eq : ∀ {t : T} {v : Value}, Ow w X.RO FZ t v → Ow (World.drew' w) X.RO FZ t v := fun h => h.of_eq (fun _ h => h) (fun _ h => h) (fun _ _ => rfl) (fun _ _ => rfl) fun _ _ => rfl
    have hNd : NewC X (World.drew' w) FZ β s2 ((.sl .own (sizeP P e) xs, .slice adr xs.length cap) :: pend) (sizeP P e) ys new := by
     refine ⟨hN.len, hN.wid, hN.flat, fun i j t v ht hv => ⟨ow_eq (hN.cells i j t v ht hv).1, fun b hb => ?_⟩, fun i j t v i' j' t' v' ht hv ht' hv' hne b hb hb' => hN.dis i j t v i' j' t' v' ht hv ht' hv' hne b (blk_eq.1 hb) (blk_eq.1 hb')⟩
     obtain ⟨k, hk, p, hp', hb'⟩ := (hN.cells i j t v ht hv).2 b (blk_eq.1 hb)
     exact ⟨k, hk, p, hp', blk_eq.2 hb'⟩
    have hcapm : (xs.length + ys.length) * sizeP P e + (Builtin.zeroCells zv.cells (cap' - (xs.length + ys.length))).toList.length = cap' * sizeP P e := by
     rw [zeroCells_len, hzsz, ← Nat.add_mul]
     congr 1
     omega
    have hO4 := OK.appendNew (old := old) (rest := (Builtin.zeroCells zv.cells (cap' - (xs.length + ys.length))).toList) (cap := cap') e hOd hol hwx (fun i j t v ht hv => ⟨ow_eq (hoc i j t v ht hv).1, fun b hb => blk_eq.2 ((hoc i j t v ht hv).2 b (blk_eq.1 hb))⟩)
     (fun i j t v i' j' t' v' ht hv ht' hv' hne b hb hb' => hod i j t v i' j' t' v' ht hv ht' hv' hne b (blk_eq.1 hb) (blk_eq.1 hb')) hNd hcapm hcl
    have hO5 := OK.place (pend := []) hO4 hq
    refine ⟨_, _, hrun, _, FZ, hO5, fun i hi => ext_new hq _ _ i (Nat.le_trans hi (hver2 i)), ?_, ?_⟩
    ·have : xs.length + ys.length = (xs ++ ys).length := by simp
     rw [this] at hcl ⊢
     exact .sl (by rw [vers, putS_bump]; omega) (upd_same _ _ _) (by omega) (by omega) hcl (fun _ => by omega) (.inl (by omega))
    ·exact Wd.trans (w2 := World.drew' w) ⟨rfl, rfl, rfl, fun _ => (by first | exact Nat.le_refl _ | exact Nat.le_succ _), Nat.le_refl _, fun _ _ _ => rfl, fun _ c h => ⟨c, h, rfl⟩, fun _ h => h, fun _ h => .inl h⟩ (push_wd (w := World.drew' w) hO.n0 _)
  ·cases h4
 ·cases h
theorem append_zeros {ts : Array TypeId} {ty e st xt : TypeId} {sz N : Nat} {k : IntKind} {z : Value} (hts : ts[0]? = some st ∧ ts[1]? = some xt) (hu : P.underlying st = some (.slice e)) (hux : P.underlying xt = some (.int k))
  (hsz : sizeP P e = sz) (hp : 0 < sz) (hby : (P.info? e).elim 100000 (·.bytes) ≤ 4096) (hz0 : ∀ w', (zeroValue e).run P w' = .ok z w') (h0 : 0 < N) (hmax : N < 4294967296) :
  ∃ cap, N ≤ cap ∧ (Builtin.append_ ts ty #[.slice none 0 0, .int .i64 N]).run P w = .ok (.slice (some ⟨w.heap.size, 0, none⟩) N cap)
   (World.push (World.drew' w) (.cells ((Builtin.zeroCells z.cells N) ++ (Builtin.zeroCells z.cells (cap - N))) e (0, 0))) := by
 obtain ⟨ii, hii, hbi⟩ : ∃ ii, P.info? e = some ii ∧ ii.bytes ≤ 4096 := by
  cases hi : P.info? e with
  | none => rw [hi] at hby; simp at hby
  | some ii => rw [hi] at hby; exact ⟨ii, rfl, by simpa using hby⟩
 refine ⟨(Question.appendCap (0 + N) 0 e).cut (w.tape w.drawn (.appendCap (0 + N) 0 e)), by simp [Question.cut], ?_⟩
 generalize hcap : (Question.appendCap (0 + N) 0 e).cut (w.tape w.drawn (.appendCap (0 + N) 0 e)) = cap
 have hwrap : IntKind.i64.wrap (N : Int) = N := wrap_i64 (by omega) (by omega)
 have hti : ∀ w', (typeInfo e).run P w' = .ok ii w' := fun w' => by simp [typeInfo, hii]
 have himax : IntKind.i64.max = 9223372036854775807 := by decide
 have hnc := nextcap_le (n := 0 + N) (c := 0) (by omega)
 have hprod : Builtin.nextslicecap (0 + N) 0 * ii.bytes ≤ (2 * (0 + N) + 200) * 4096 := Nat.mul_le_mul hnc hbi
 have hNb : (N : Int) * (ii.bytes : Int) ≤ 4294967296 * 4096 := by
  have := Nat.mul_le_mul (show N ≤ 4294967296 by omega) hbi
  rw [← Int.natCast_mul]
  omega
 simp only [Builtin.append_, hts.1, hts.2, List.getElem?_toArray, List.getElem?_cons_zero, List.getElem?_cons_succ, Sem.run_bind, run_underlying hu, Result.andThen_ok, sizePos_run (hsz ▸ hp : 0 < sizeP P e), Sem.run_pure, run_underlying hux, hsz]
 simp only [if_true, Sem.run_bind, asInt, asIntOf, Sem.run_pure, Result.andThen_ok, hwrap, hti]
 rw [if_neg (by omega)]
 simp only [Sem.run_bind, Sem.run_pure, Result.andThen_ok, hti]
 rw [if_neg (by omega)]
 simp only [Sem.run_bind, Sem.run_pure, Result.andThen_ok, Int.toNat_natCast]
 rw [if_neg (by omega)]
 simp only [Sem.run_bind, Sem.run_pure, Result.andThen_ok, hti, himax]
 rw [if_neg (by omega)]
 simp only [Sem.run_bind, Sem.run_pure, Result.andThen_ok, hti]
 rw [if_neg (by omega)]
 have hne : ¬ N * sz = 0 := by
  intro e0
  rcases Nat.mul_eq_zero.1 e0 with e0 | e0 <;> omega
 simp only [Sem.run_bind, Sem.run_pure, Result.andThen_ok, run_choose, Question.forced, Bool.false_eq_true, if_false, hti, run_askRoom, Bool.not_true, if_neg hne]
 rw [hcap]
 simp only [Builtin.firstCells, Sem.run_pure, Result.andThen_ok, Sem.run_map, Sem.run_bind, hz0, newRow_run, World.drew', World.push]
 simp
theorem zeroCells_get {z : Array Value} {sz N i j : Nat} (hz : z.size = sz) (hi : i < N) (hj : j < sz) : (Builtin.zeroCells z N)[i * sz + j]? = z[j]? := by
 have := zeros_get hz hi hj
 unfold Builtin.zeroCells
 rw [hz] at this ⊢
 exact this
theorem appendN_sound {key : Nat} {ts : Array TypeId} {ty : TypeId} {n : Int} {r : V × Objs × List (Bool × Nat)} (hO : OK X w FZ β s [])
  (h : (appendNH P key ts n).run s fp = some r) : ∃ z w', (Builtin.append_ ts ty #[.slice none 0 0, .int .i64 n]).run P w = .ok z w' ∧ Post X FZ β s w r.1 r.2.1 z w' := by
 unfold appendNH at h
 simp only [sLe_eq, sLt_eq, sRep_eq] at h
 split at h
 ·rename_i e hu
  obtain ⟨hc0, h2⟩ := chk_run h
  obtain ⟨hq, h3⟩ := new_run h2
  obtain rfl := ret_run h3
  clear h h2 h3
  simp only [Bool.and_eq_true, decide_eq_true_eq] at hc0
  obtain ⟨⟨⟨⟨⟨⟨⟨hts, hxt⟩, h0⟩, h1⟩, hp⟩, hby⟩, hz⟩, hks⟩ := hc0
  have hts := beq_eq hts
  have hp : 0 < sizeP P e := by simpa [Nat.blt_eq] using hp
  have hks := beq_eq hks
  have hby := Nat.le_of_ble_eq_true hby
  have hts0 : ts[0]? = some (ts.getD 0 0) ∧ ts[1]? = some (ts.getD 1 0) := by
   constructor <;> simp [Array.getD, hts, Array.getElem?_eq_getElem]
  obtain ⟨k, hk⟩ : ∃ k, P.underlying (ts.getD 1 0) = some (.int k) := by
   split at hxt
   ·exact ⟨_, by assumption⟩
   ·cases hxt
  obtain ⟨zv, hzr, hze⟩ := zeroP_run (P := P) (w := w) hz
  have hzr' : ∀ w', (zeroValue e).run P w' = .ok zv w' := by
   intro w'
   obtain ⟨z2, h1, h2⟩ := zeroP_run (P := P) (w := w') hz
   have : z2 = zv := by
    simp only [zeroValue, Sem.run_bind, typeInfo, run_program, Result.andThen_ok] at h1 hzr
    cases hi : P.info? e with
    | none => rw [hi] at h1; simp at h1
    | some i =>
     rw [hi] at h1 hzr
     simp only [Sem.run_pure, Result.andThen_ok] at h1 hzr
     cases hzz : i.zero with
     | none => rw [hzz] at h1; simp at h1
     | some z3 =>
      rw [hzz] at h1 hzr
      simp only [Sem.run_pure, Result.ok.injEq, and_true] at h1 hzr
      exact h1.symm.trans hzr
   rw [← this]; exact h1
  obtain ⟨hzl, hzs⟩ := zeroOk_spec hz
  have hzsz : zv.cells.size = sizeP P e := by rw [← Array.length_toList, hze]; omega
  obtain ⟨N, rfl⟩ := Int.eq_ofNat_of_zero_le h0
  have hN : N < 4294967296 := by omega
  by_cases hN0 : N = 0
  ·subst hN0
   have hrun : (Builtin.append_ ts ty #[.slice none 0 0, .int .i64 ((0 : Nat) : Int)]).run P w = .ok (.slice none 0 0) w := by
    have hwrap : IntKind.i64.wrap 0 = 0 := wrap_i64 (by omega) (by omega)
    obtain ⟨ii, hii⟩ : ∃ ii, P.info? e = some ii := by
     cases hi : P.info? e with
     | none => rw [hi] at hby; simp at hby
     | some ii => exact ⟨ii, rfl⟩
    have hti : ∀ w', (typeInfo e).run P w' = .ok ii w' := fun w' => by simp [typeInfo, hii]
    simp only [Builtin.append_, hts0.1, hts0.2, List.getElem?_toArray, List.getElem?_cons_zero, List.getElem?_cons_succ, Sem.run_bind, run_underlying hu, Result.andThen_ok, sizePos_run hp, Sem.run_pure, run_underlying hk]
    simp [asInt, asIntOf, hwrap, hti]
   refine ⟨_, _, hrun, ?_⟩
   have ho : Ow w X.RO FZ (.sl .own (sizeP P e) (List.replicate (((0 : Nat) : Int)).toNat ((ksOf P e).map zeroT))) (.slice none 0 0) := .nil
   have noB : ∀ b, ¬ Blk w (.sl .own (sizeP P e) (List.replicate (((0 : Nat) : Int)).toNat ((ksOf P e).map zeroT))) (.slice none 0 0) b := fun b hb => by cases hb
   have hO1 := hO.add (pend := []) ho (fun u b _ => noB b) (fun b hb => absurd hb (noB b))
   have hO2 := OK.place (pend := []) hO1 hq
   exact ⟨_, FZ, hO2, ext_new hq _ _, .sl0 (by unfold nKey; omega) (by rw [vers, putS_bump]; omega) (upd_same _ _ _), Wd.refl X FZ w⟩
  ·obtain ⟨cap, hcl, hrun⟩ := append_zeros (P := P) (w := w) (ty := ty) (z := zv) hts0 hu hk rfl hp hby hzr' (by omega) hN
   refine ⟨_, _, hrun, ?_⟩
   have hOd : OK X (World.drew' w) FZ β s [] := (hO.world (w' := World.drew' w) (fun _ _ => rfl) (Nat.le_refl _)).1
   have hcell : ∀ i j t v, At (List.replicate N ((ksOf P e).map zeroT)) i j t → ((Builtin.zeroCells zv.cells N) ++ (Builtin.zeroCells zv.cells (cap - N)))[i * sizeP P e + j]? = some v →
     (∀ (RO FZ : Nat → Prop), Ow (World.drew' w) RO FZ t v) ∧ ∀ (w : World) (b : Nat), ¬ Blk w t v b := by
    rintro i j t v ⟨rr, hr, hj⟩ hv
    rw [List.getElem?_replicate] at hr
    split at hr
    ·rename_i hi
     injection hr with hr
     subst hr
     rw [List.getElem?_map, Option.map_eq_some_iff] at hj
     obtain ⟨k, hk, rfl⟩ := hj
     have hjl : j < sizeP P e := by have := (List.getElem?_eq_some_iff.1 hk).1; omega
     have hlt : i * sizeP P e + j < (Builtin.zeroCells zv.cells N).size := by
      rw [zeroCells_size, hzsz]
      have : (i + 1) * sizeP P e ≤ N * sizeP P e := Nat.mul_le_mul_right _ hi
      rw [Nat.add_mul] at this; omega
     rw [Array.getElem?_append_left hlt, zeroCells_get hzsz hi hjl, ← Array.getElem?_toList, hze] at hv
     have := hzs j k v hk hv
     exact ⟨fun RO FZ => this.2.2.1 _ RO FZ, this.2.2.2⟩
    ·cases hr
   have hcsz : ((Builtin.zeroCells zv.cells N) ++ (Builtin.zeroCells zv.cells (cap - N))).size = cap * sizeP P e := by
    rw [Array.size_append, zeroCells_size, zeroCells_size, hzsz, ← Nat.add_mul]
    congr 1; omega
   have hO1 := hOd.newRows 0 e (sz := sizeP P e) (cap := cap) (rs := List.replicate N ((ksOf P e).map zeroT)) (c := (Builtin.zeroCells zv.cells N) ++ (Builtin.zeroCells zv.cells (cap - N)))
    (fun r hr => by rw [List.eq_of_mem_replicate hr]; simp [hks]) (by simpa using hcl) (by rw [hcsz]; exact Nat.le_refl _)
    (fun i j t v ht hv => ⟨(hcell i j t v ht hv).1 _ _, fun b hb => absurd hb ((hcell i j t v ht hv).2 _ _)⟩)
    (fun i j t v i' j' t' v' ht hv _ _ _ b hb => absurd hb ((hcell i j t v ht hv).2 _ _)) (Nat.le_refl _)
   simp only [List.take_nil, List.nil_append, List.length_replicate] at hO1
   have hO2 := OK.place (pend := []) hO1 hq
   refine ⟨_, FZ, hO2, ext_new hq _ _, ?_, ?_⟩
   ·show RepV _ _ (.sl (nKey key 0) true 0 N (sizeP P e)) _
    exact .sl (by rw [vers, putS_bump]; omega) (upd_same _ _ _) (by omega) (by omega) hcl (fun _ => by omega) (.inl (by omega))
   ·exact Wd.trans (w2 := World.drew' w) ⟨rfl, rfl, rfl, fun _ => (by first | exact Nat.le_refl _ | exact Nat.le_succ _), Nat.le_refl _, fun _ _ _ => rfl, fun _ c h => ⟨c, h, rfl⟩, fun _ h => h, fun _ h => .inl h⟩ (push_wd (w := World.drew' w) hO.n0 _)
 ·cases h
theorem appendAny_sound {key : Nat} {ts : Array TypeId} {ty : TypeId} {a x : V} {xa xx : Value} {r : V × Objs × List (Bool × Nat)} (hO : OK X w FZ β s []) (ha : RepV (vers s) β a xa) (hx : RepV (vers s) β x xx)
  (h : (appendAny P key ts a x).run s fp = some r) : ∃ z w', (Builtin.append_ ts ty #[xa, xx]).run P w = .ok z w' ∧ Post X FZ β s w r.1 r.2.1 z w' := by
 unfold appendAny at h
 split at h
 ·obtain rfl := rep_im hx
  have e1 : xa = .slice none 0 0 := by cases ha; rfl
  subst e1
  exact appendN_sound hO h
 ·exact append_sound hO ha hx h
theorem zap_eq (off len : Nat) (z : List T) (rs : List (List T)) : zap off len z rs = splice rs off (List.replicate len z) := by
 unfold zap splice; rw [List.length_replicate]
theorem zap_at {rs : List (List T)} {off len i j : Nat} {z : List T} {t : T} (hb : off + len ≤ rs.length) (ht : At (zap off len z rs) i j t) : (off ≤ i ∧ i < off + len ∧ z[j]? = some t) ∨ (At rs i j t ∧ ¬ (off ≤ i ∧ i < off + len)) := by
 obtain ⟨r, hr, hj⟩ := ht
 rw [zap_eq, splice_get (by simpa using hb), List.length_replicate] at hr
 split at hr
 ·rename_i h
  rw [List.getElem?_replicate, if_pos (by omega)] at hr
  injection hr with hr
  subst hr
  exact .inl ⟨h.1, h.2, hj⟩
 ·rename_i h
  exact .inr ⟨⟨r, hr, hj⟩, h⟩
theorem clear_sound {ts : Array TypeId} {ty : TypeId} {x : V} {xx : Value} {r : V × Objs × List (Bool × Nat)} (hO : OK X w FZ β s []) (hx : RepV (vers s) β x xx)
  (h : (clearH P ts x).run s fp = some r) : ∃ w', (Builtin.clear_ ts ty #[xx]).run P w = .ok (.tuple #[]) w' ∧ Post X FZ β s w r.1 r.2.1 (.tuple #[]) w' := by
 unfold clearH at h
 simp only [sZap_eq] at h
 split at h
 ·rename_i e id e' off len sz hu
  simp only [H.run] at h
  split at h
  ·rename_i sz' rs ho
   obtain ⟨hc, h2⟩ := chk_run h
   simp only [H.run] at h2
   obtain rfl := Option.some.inj h2
   clear h h2
   simp only [Bool.and_eq_true] at hc
   obtain ⟨⟨⟨⟨⟨hts, hln⟩, hs⟩, hse⟩, hz⟩, hks⟩ := hc
   have hs := beq_eq hs
   subst hs
   have hse := beq_eq hse
   have hks := beq_eq hks
   have hts : 0 < ts.size := by simpa [Nat.blt_eq] using hts
   have hln : 0 < len := by simpa [Nat.blt_eq] using hln
   obtain ⟨zv, hzr, hze⟩ := zeroP_run (P := P) (w := w) hz
   obtain ⟨hzl, hzs⟩ := zeroOk_spec hz
   have hzsz : zv.cells.size = sz := by rw [← Array.length_toList, hze]; omega
   have htree0 : Ow w X.RO FZ (.sl .own sz rs) (β id) := hO.rep _ _ ho
   cases hx with
   | sl0 => omega
   | se => omega
   | sl hv hβ h1 h2 h3 h4 h5 =>
    rename_i b o n cap o' cap'
    have hoo : o' = o + off * sz := by rcases h5 with h5 | h5 <;> omega
    subst hoo
    have htree := htree0
    rw [hβ] at htree
    have hlen0 := htree.len
    have hcap0 : 0 < cap := by omega
    obtain ⟨hn', ⟨c, hrow, hlc, hbd, hw⟩, _⟩ := htree.headO hcap0
    have hsize : o + off * sz + len * sz ≤ c.size := by
     have h1 : (off + len) * sz ≤ cap * sz := Nat.mul_le_mul_right _ (by omega)
     rw [Nat.add_mul] at h1
     omega
    have hzc : ∀ m, m < len * sz → ∃ k, (ksOf P e)[m % sz]? = some k ∧ (Builtin.zeroCells zv.cells len)[m]? = zv.cells[m % sz]? ∧ m % sz < sz := by
     intro m hm
     have hsz0 : 0 < sz := by
      rcases Nat.eq_zero_or_pos sz with h | h
      ·rw [h, Nat.mul_zero] at hm; omega
      ·exact h
     have hmod := Nat.mod_lt m hsz0
     refine ⟨(ksOf P e)[m % sz]'(by omega), List.getElem?_eq_getElem _, ?_, hmod⟩
     have := zeroCells_get (N := len) (i := m / sz) hzsz (by rw [Nat.div_lt_iff_lt_mul hsz0]; exact hm) hmod
     rwa [Nat.mul_comm, Nat.div_add_mod] at this
    obtain ⟨w', h5, h6⟩ := run_storeCells (P := P) (b := b) (o := o + off * sz) (Builtin.zeroCells zv.cells len).toList 0 hrow (by rw [zeroCells_len, hzsz]; omega) (fun v hv => by
     obtain ⟨m, hm⟩ := List.mem_iff_getElem?.1 hv
     have hlt := (List.getElem?_eq_some_iff.1 hm).1
     rw [zeroCells_len, hzsz] at hlt
     obtain ⟨k, hk, he, _⟩ := hzc m hlt
     rw [Array.getElem?_toList] at hm
     rw [hm] at he
     have he := he.symm
     rw [← Array.getElem?_toList, hze] at he
     exact (hzs _ k v hk he).1)
    rw [Nat.add_zero] at h6
    have hrun : (Builtin.clear_ ts ty #[.slice (some ⟨b, o + off * sz, none⟩) len cap']).run P w = .ok (.tuple #[]) w' := by
     obtain ⟨len, rfl⟩ : ∃ k, len = k + 1 := ⟨len - 1, by omega⟩
     have e1 : ts[0]? = some (ts.getD 0 0) := by simp [Array.getD, hts, Array.getElem?_eq_getElem]
     simp only [Builtin.clear_, e1, List.getElem?_toArray, List.getElem?_cons_zero, Sem.run_bind, run_underlying hu, Result.andThen_ok]
     simp [hzr, h5]
    have hwhole : RepV (vers s) β (.sl id true 0 n sz) (.slice (some ⟨b, o, none⟩) n cap) := .sl hv hβ (by omega) (by omega) (by omega) (fun _ => by omega) (.inl (by omega))
    have hO2 := own_sem hO hwhole (.own ho)
    rw [cut_all] at hO2
    have hin : ∀ {i j t v}, off ≤ i → i < off + len → ((ksOf P e).map zeroT)[j]? = some t → (spl c (o + off * sz) (Builtin.zeroCells zv.cells len).toList)[o + i * sz + j]? = some v →
      (Ow w X.RO FZ t v) ∧ ∀ b', ¬ Blk w t v b' := by
     intro i j t v g1 g2 g3 g4
     rw [List.getElem?_map, Option.map_eq_some_iff] at g3
     obtain ⟨k, hk, rfl⟩ := g3
     have hjl : j < sz := by have := (List.getElem?_eq_some_iff.1 hk).1; omega
     obtain ⟨d, rfl⟩ : ∃ d, i = off + d := ⟨i - off, by omega⟩
     have q1 : d * sz + sz ≤ len * sz := by
      have : (d + 1) * sz ≤ len * sz := Nat.mul_le_mul_right _ (by omega)
      rwa [Nat.add_mul, Nat.one_mul] at this
     rw [Nat.add_mul, spl_get (by rw [Array.length_toList, zeroCells_size, hzsz]; exact hsize), if_pos (by rw [Array.length_toList, zeroCells_size, hzsz]; omega), show o + (off * sz + d * sz) + j - (o + off * sz) = d * sz + j by omega, Array.getElem?_toList,
      zeroCells_get hzsz (by omega) hjl, ← Array.getElem?_toList, hze] at g4
     have := hzs j k v hk g4
     exact ⟨this.2.2.1 _ _ _, this.2.2.2 _⟩
    have hout : ∀ {i j t v}, At rs i j t → ¬ (off ≤ i ∧ i < off + len) → (spl c (o + off * sz) (Builtin.zeroCells zv.cells len).toList)[o + i * sz + j]? = some v → c[o + i * sz + j]? = some v := by
     intro i j t v g1 g2 g4
     rw [spl_get (by rw [Array.length_toList, zeroCells_size, hzsz]; exact hsize), if_neg] at g4
     ·exact g4
     ·rw [Array.length_toList, zeroCells_size, hzsz]
      rintro ⟨z1, z2⟩
      obtain ⟨r', hr', hj'⟩ := g1
      have hjs := (List.getElem?_eq_some_iff.1 hj').1
      rw [hw r' (List.mem_of_getElem? hr')] at hjs
      rcases Nat.lt_or_ge i off with g | g
      ·have : (i + 1) * sz ≤ off * sz := Nat.mul_le_mul_right _ g
       rw [Nat.add_mul] at this
       omega
      ·have g' : off + len ≤ i := by omega
       have : (off + len) * sz ≤ i * sz := Nat.mul_le_mul_right _ g'
       rw [Nat.add_mul] at this
       omega
    have hbl : off + len ≤ rs.length := by omega
    have hO3 := OK.rewrite (pend := []) (L := []) (rs' := zap off len ((ksOf P e).map zeroT) rs) hcap0 (by simpa using hO2) hrow h6 (by rw [spl_size (by rw [Array.length_toList, zeroCells_size, hzsz]; exact hsize)]; exact Nat.le_refl _)
     (fun r' hr' => by
      rw [zap_eq, splice] at hr'
      simp only [List.mem_append, List.mem_replicate] at hr'
      rcases hr' with (hr' | ⟨_, rfl⟩) | hr'
      ·exact hw _ (List.mem_of_mem_take hr')
      ·simp [hks, hse]
      ·exact hw _ (List.mem_of_mem_drop hr'))
     (by rw [zap_eq, splice_length (by simpa using hbl)]; exact hlc)
     (fun i' j' t' v' ht' hv' => by
      rcases zap_at hbl ht' with ⟨g1, g2, g3⟩ | ⟨g1, g2⟩
      ·obtain ⟨k1, k2⟩ := hin g1 g2 g3 hv'
       exact .inr ⟨k1, fun b' hb' => absurd hb' (k2 b')⟩
      ·exact .inl ⟨g1, hout g1 g2 hv'⟩)
     (fun i1 j1 t1 v1 i2 j2 t2 v2 ht1 hv1 ht2 hv2 hn1 hn2 hne b' hb1 hb2 => by
      rcases zap_at hbl ht1 with ⟨g1, g2, g3⟩ | ⟨g1, g2⟩
      ·exact (hin g1 g2 g3 hv1).2 b' hb1
      ·exact hn1 ⟨g1, hout g1 g2 hv1⟩)
    rw [zap_eq, splice_length (by simpa using hbl), ← zap_eq, ← hn', List.nil_append] at hO3
    rw [← hβ] at hO3
    have hO4 := OK.placeBack (pend := []) (q := id) hO3 (by simp) (by rw [putS_bump]; omega) (fun id' x' ver' i' j' hl' e => by
     subst e
     by_cases e' : id' = x'
     ·subst e'; simp at hl'
     ·rw [putS_ne _ _ _ e'] at hl'
      have := (hO.rep _ _ hl').1
      rw [putS_bump]
      omega) false
    rw [putS_putS] at hO4
    have hob : Bl w β s [] (.inl id) b := ⟨_, ho, by show Blk w _ (β id) b; rw [hβ]; exact .here hcap0⟩
    exact ⟨w', hrun, β, FZ, hO4, fun i hi => ⟨Nat.le_trans hi (putS_ver _ _ _ _ _), rfl⟩, .no, h6.wd (hO.sep _ b hob).2.2⟩
  ·cases h
 ·cases h
theorem okK_valEq {k : Kd} {v x : Value} (h1 : Value.okK k v = true) (h2 : Value.okK k x = true) : (∃ q a b, k = .int q ∧ v = .int q a ∧ x = .int q b) ∨ (∃ a b, k = .bool ∧ v = .bool a ∧ x = .bool b) ∨ ∃ a b, k = .str ∧ v = .string a ∧ x = .string b := by
 cases k <;> cases v <;> first | (cases h1; done) | skip
 all_goals cases x <;> first | (cases h2; done) | skip
 ·have e1 := of_decide_eq_true h1
  have e2 := of_decide_eq_true h2
  subst e1
  obtain rfl := e2
  exact .inl ⟨_, _, _, rfl, rfl, rfl⟩
 ·exact .inr (.inl ⟨_, _, rfl, rfl, rfl⟩)
 ·exact .inr (.inr ⟨_, _, rfl, rfl, rfl⟩)
theorem bytes_eq {a b : ByteArray} (h : (a.toList == b.toList) = true) : a = b := by
 have h : a.toList = b.toList := by simpa using h
 rw [ByteArray.toList_eq, ByteArray.toList_eq] at h
 exact ByteArray.ext (Array.toList_inj.1 h)
theorem bytesBeq (a b : ByteArray) : (a == b) = (a.toList == b.toList) := by
 rw [Bool.eq_iff_iff, MapKept.bytes_beq]
 exact ⟨fun h => by rw [h]; simp, bytes_eq⟩
theorem valEq_same {k : Kd} {v x : Value} (h1 : Value.okK k v = true) (h2 : Value.okK k x = true) (h : valEq v x = true) : v = x := by
 rcases okK_valEq h1 h2 with ⟨q, a, b, rfl, rfl, rfl⟩ | ⟨a, b, rfl, rfl, rfl⟩ | ⟨a, b, rfl, rfl, rfl⟩
 ·rw [of_decide_eq_true (show decide (a = b) = true from h)]
 ·rw [eq_of_beq (show (a == b) = true from h)]
 ·rw [bytes_eq (show (a.toList == b.toList) = true from h)]
theorem okVs_length : ∀ {ks : List Kd} {vs : List Value}, okVs ks vs = true → vs.length = ks.length
 | [], [], _ => rfl
 | [], _ :: _, h => by cases h
 | _ :: _, [], h => by cases h
 | k :: ks, v :: vs, h => by
  rw [okVs, Bool.and_eq_true] at h
  rw [List.length_cons, List.length_cons, okVs_length h.2]
theorem keyEq_same : ∀ {ks : List Kd} {key kc vc : List Value}, okVs ks key = true → okVs ks kc = true → keyEq key ((kc ++ vc).map .im) = true → key = kc
 | [], key, kc, vc, h1, h2, h => by
  rw [List.eq_nil_of_length_eq_zero (okVs_length h1), List.eq_nil_of_length_eq_zero (okVs_length h2)]
 | k :: ks, [], _, _, h1, _, _ => by cases h1
 | k :: ks, _ :: _, [], _, _, h2, _ => by cases h2
 | k :: ks, v :: key, x :: kc, vc, h1, h2, h => by
  rw [okVs, Bool.and_eq_true] at h1 h2
  rw [List.cons_append, List.map_cons, keyEq, Bool.and_eq_true] at h
  rw [valEq_same h1.1 h2.1 h.1, keyEq_same h1.2 h2.2 h.2]
def fnd (key : List Value) : List MapEntry → List (List T) → Nat → Option (Nat × Value)
 | e :: es, r :: rs, i => bif keyEq key r then some (i, e.val) else fnd key es rs (i + 1)
 | _, _, _ => none
theorem mkV_one {k : Kd} {vs : List Value} (h : okVs [k] vs = true) : ∃ v, vs = [v] ∧ Value.okK k v = true ∧ mkV [k] vs = v := by
 match vs, h with
 | [v], h =>
  rw [okVs, Bool.and_eq_true] at h
  exact ⟨v, rfl, h.1, rfl⟩
 | _ :: _ :: _, h => rw [okVs, Bool.and_eq_true] at h; cases h.2
theorem findNow_eq {d : TypeDesc} {k : Kd} {vf : List Kd} (hd : ∀ v x, Value.okK k v = true → Value.okK k x = true → Instr.sameNow d v x = some (valEq v x)) {key : List Value} (hk : okVs [k] key = true) {es : List MapEntry} {rs : List (List T)} (h : EntL [k] vf es rs) :
  ∀ i, Instr.findNow d (mkV [k] key) es i = some (fnd key es rs i) := by
 induction h with
 | nil => intro i; rfl
 | @cons e es kc vc rs h hs ih =>
  intro i
  obtain ⟨v, rfl, hv, e1⟩ := mkV_one hk
  obtain ⟨x, rfl, hx, e2⟩ := mkV_one h.hk
  rw [Instr.findNow, h.key, e1, e2, hd v x hv hx, fnd]
  show _ = some (bif keyEq [v] ((x :: vc).map .im) then _ else _)
  rw [List.map_cons, keyEq, keyEq, Bool.and_true]
  cases valEq v x with
  | true => rfl
  | false => rw [e1] at ih; exact ih (i + 1)
theorem findAsking_eq {kt : TypeId} {kf vf : List Kd} {key : List Value} (hk : okVs kf key = true) {es : List MapEntry} {rs : List (List T)} (h : EntL kf vf es rs)
  (heq : ∀ kc vc, okVs kf kc = true → (Op.equal kt (mkV kf key) (mkV kf kc)).run P w = .ok (keyEq key ((kc ++ vc).map .im)) w) :
  ∀ i, (Instr.findAsking kt (mkV kf key) es i).run P w = .ok (fnd key es rs i) w := by
 induction h with
 | nil => intro i; simp [Instr.findAsking, fnd]
 | @cons e es kc vc rs h hs ih =>
  intro i
  rw [Instr.findAsking, h.key, fnd]
  simp only [Sem.run_bind, heq kc vc h.hk, Result.andThen_ok]
  cases keyEq key ((kc ++ vc).map .im) with
  | true => rfl
  | false => exact ih (i + 1)
theorem underlying_info {P : Program} {t : TypeId} {d : TypeDesc} (h : P.underlying t = some d) : ∃ i, P.info? t = some i := by
 unfold Program.underlying at h
 cases hi : P.info? t with
 | none => simp [hi] at h
 | some i => exact ⟨i, rfl⟩
theorem part_int {e : TypeId} {q : IntKind} (he : P.underlying e = some (.int q)) {xs : Array Value} {j : Nat} {v : Value} (hx : xs[j]? = some v) : (part e xs j).run P w = .ok v w := by
 simp [part, isAgg, run_underlying he, hx, Result.andThen]
theorem eqItems_eq {e : TypeId} {q : IntKind} (he : P.underlying e = some (.int q)) (d : Nat) {xs ys : Array Value} {vc : List Value} : ∀ (m j : Nat) (kx ky : List Value), xs.toList.drop j = kx → ys.toList.drop j = ky → okVs (List.replicate m (.int q)) kx = true → okVs (List.replicate m (.int q)) ky = true →
  (Op.eqItems (d + 1) e 1 xs ys (List.range' j m)).run P w = .ok (keyEq kx ((ky ++ vc).map .im)) w
 | 0, j, kx, ky, hx, hy, h1, h2 => by
  rw [List.eq_nil_of_length_eq_zero (okVs_length h1)]
  simp [Op.eqItems, keyEq]
 | m + 1, j, kx, ky, hx, hy, h1, h2 => by
  match kx, ky, h1, h2 with
  | v :: kx, x :: ky, h1, h2 =>
   rw [List.replicate_succ, okVs, Bool.and_eq_true] at h1 h2
   have gx : xs[j]? = some v := by rw [← Array.getElem?_toList, ← Nat.add_zero j, ← List.getElem?_drop, hx]; rfl
   have gy : ys[j]? = some x := by rw [← Array.getElem?_toList, ← Nat.add_zero j, ← List.getElem?_drop, hy]; rfl
   have dx : xs.toList.drop (j + 1) = kx := by rw [← List.drop_drop, hx]; rfl
   have dy : ys.toList.drop (j + 1) = ky := by rw [← List.drop_drop, hy]; rfl
   rcases okK_valEq h1.1 h2.1 with ⟨q', a, b, e0, rfl, rfl⟩ | ⟨a, b, e0, rfl, rfl⟩ | ⟨a, b, e0, rfl, rfl⟩
   ·injection e0 with e0
    subst e0
    rw [List.range'_succ, Op.eqItems, Nat.mul_one]
    simp only [Sem.run_bind, part_int he gx, part_int he gy, run_equalIn_int w d e q q a b he, Result.andThen_ok]
    rw [List.cons_append, List.map_cons, keyEq]
    show _ = Result.ok (decide (a = b) && _) w
    by_cases hab : a = b
    ·subst hab
     simp only [beq_self_eq_true, Bool.not_true, Bool.false_eq_true, if_false, decide_true, Bool.true_and]
     exact eqItems_eq he d m (j + 1) kx ky dx dy h1.2 h2.2
    ·simp [hab]
   ·cases e0
   ·cases e0
theorem flat_rep {α : Type} (x : α) (n : Nat) : (List.replicate n [x]).flatten = List.replicate n x := by
 induction n with
 | zero => rfl
 | succ n ih => rw [List.replicate_succ, List.flatten_cons, List.replicate_succ, ih]; rfl
theorem ks_array {t e : TypeId} {n : Nat} {q : IntKind} (ht : P.underlying t = some (.array n e)) (he : P.underlying e = some (.int q)) : ksOf P t = List.replicate n (.int q) := by
 show kindsF P (18 + 1 + 1) t = _
 rw [kindsF, ht]
 show (List.replicate n (kindsF P (18 + 1) e)).flatten = _
 rw [kindsF, he]
 exact flat_rep _ n
theorem ks_int {t : TypeId} {q : IntKind} (ht : P.underlying t = some (.int q)) : ksOf P t = [.int q] := by
 show kindsF P (19 + 1) t = _
 rw [kindsF, ht]
theorem ks_str {t : TypeId} (ht : P.underlying t = some .string) : ksOf P t = [.str] := by
 show kindsF P (19 + 1) t = _
 rw [kindsF, ht]
theorem isAg_rep {n : Nat} {k : Kd} (h : 2 ≤ n) : isAg (List.replicate n k) = true := by
 rw [isAg, List.length_replicate]; exact Nat.ble_eq_true_of_le h
theorem run_checkKey_ok {kt : TypeId} (hk : keyTy P kt = true) {key : List Value} (h : okVs (ksOf P kt) key = true) (em : Bool) : (Instr.checkKey em 10000 kt (mkV (ksOf P kt) key)).run P w = .ok () w := by
 unfold keyTy at hk
 split at hk
 ·rename_i hu
  rw [ks_str hu] at h ⊢
  obtain ⟨v, rfl, hv, e1⟩ := mkV_one h
  rw [e1, Instr.checkKey]
  simp only [Sem.run_bind, run_underlying hu, Result.andThen_ok]
  cases v <;> first | (cases hv; done) | rfl
 ·rename_i q hu
  rw [ks_int hu] at h ⊢
  obtain ⟨v, rfl, hv, e1⟩ := mkV_one h
  rw [e1, Instr.checkKey]
  simp only [Sem.run_bind, run_underlying hu, Result.andThen_ok]
  cases v <;> first | (cases hv; done) | rfl
 ·rename_i n e hu
  simp only [Bool.and_eq_true] at hk
  obtain ⟨⟨hn, he⟩, hsz⟩ := hk
  split at he
  ·rename_i q he'
   have hn := Nat.le_of_ble_eq_true hn
   rw [ks_array hu he'] at h ⊢
   rw [mkV, isAg_rep hn, cond_true, Instr.checkKey]
   simp only [Sem.run_bind, run_underlying hu, Result.andThen_ok]
   simp only [Std.Legacy.Range.forIn_eq_forIn_range', Std.Legacy.Range.size, Nat.sub_zero, Nat.add_one_sub_one, Nat.div_one]
   have hlen := okVs_length h
   rw [List.length_replicate] at hlen
   have go : ∀ (m j : Nat), j + m ≤ n → (forIn (List.range' j m) PUnit.unit (fun i _ => do
     Instr.checkKey em 9999 e (← part e key.toArray (i * (← sizeOf e)))
     pure (ForInStep.yield PUnit.unit)) : Sem PUnit).run P w = .ok () w := by
    intro m
    induction m with
    | zero => intro j _; rfl
    | succ m ih =>
     intro j hj
     have hg : key.toArray[j * 1]? = some (key[j]'(by omega)) := by
      rw [Nat.mul_one, List.getElem?_toArray]; exact List.getElem?_eq_getElem _
     rw [List.range'_succ, List.forIn_cons]
     simp only [Sem.run_bind, run_sizeP ⟨_, he'⟩, Result.andThen_ok, beq_eq hsz, part_int he' hg]
     rw [Instr.checkKey]
     simp only [Sem.run_bind, run_underlying he', Result.andThen_ok, Sem.run_pure]
     exact ih (j + 1) (by omega)
   rw [go n 0 (by omega)]; rfl
  ·cases he
 ·cases hk
theorem fnd_nil (key : List Value) (rs : List (List T)) (i : Nat) : fnd key [] rs i = none := by cases rs <;> rfl
theorem run_findKey_ok {kt : TypeId} (hk : keyTy P kt = true) {key : List Value} (h : okVs (ksOf P kt) key = true) {vf : List Kd} {es : List MapEntry} {rs : List (List T)} (hE : EntL (ksOf P kt) vf es rs) :
  (Instr.findKey kt (mkV (ksOf P kt) key) es).run P w = .ok (fnd key es rs 0) w := by
 have now : ∀ {d : TypeDesc} {k : Kd}, P.underlying kt = some d → ksOf P kt = [k] → (∀ v x, Value.okK k v = true → Value.okK k x = true → Instr.sameNow d v x = some (valEq v x)) →
   (Instr.findKey kt (mkV (ksOf P kt) key) es).run P w = .ok (fnd key es rs 0) w := by
  intro d k hu e hd
  rw [e] at h hE ⊢
  rw [Instr.findKey]
  simp only [Sem.run_bind, run_underlying hu, Result.andThen_ok, findNow_eq hd h hE 0, Sem.run_pure]
 unfold keyTy at hk
 split at hk
 ·rename_i hu
  refine now hu (ks_str hu) fun v x hv hx => ?_
  rcases okK_valEq hv hx with ⟨q, a, b, e0, rfl, rfl⟩ | ⟨a, b, e0, rfl, rfl⟩ | ⟨a, b, e0, rfl, rfl⟩
  ·cases e0
  ·cases e0
  ·show some (a == b) = some (a.toList == b.toList)
   rw [bytesBeq]
 ·rename_i q hu
  refine now hu (ks_int hu) fun v x hv hx => ?_
  rcases okK_valEq hv hx with ⟨q', a, b, e0, rfl, rfl⟩ | ⟨a, b, e0, rfl, rfl⟩ | ⟨a, b, e0, rfl, rfl⟩
  ·show (if q' = q' then some (a == b) else none) = some (decide (a = b))
   rw [if_pos rfl]
   by_cases hab : a = b <;> simp [hab]
  ·cases e0
  ·cases e0
 ·rename_i n e hu
  simp only [Bool.and_eq_true] at hk
  obtain ⟨⟨hn, he⟩, hsz⟩ := hk
  split at he
  ·rename_i q he'
   have hn := Nat.le_of_ble_eq_true hn
   obtain ⟨i, hi⟩ := underlying_info he'
   have hks := ks_array hu he'
   rw [Instr.findKey]
   simp only [Sem.run_bind, run_underlying hu, Result.andThen_ok]
   cases hE with
   | nil => simp [Instr.findNow, fnd]
   | @cons e0 es kc vc rs h0 hs =>
    have hnn : Instr.findNow (.array n e) (mkV (ksOf P kt) key) (e0 :: es) 0 = none := rfl
    rw [hnn]
    refine findAsking_eq h (.cons h0 hs) (fun kc vc hkc => ?_) 0
    rw [hks] at h hkc ⊢
    rw [mkV, mkV, isAg_rep hn, cond_true, cond_true, Op.equal, Op.maxDepth, run_equalIn_array w 9999 _ _ hu hi]
    have hc : P.cellsOf e = 1 := by
     have := beq_eq hsz
     rw [sizeP, hi] at this
     simpa [Program.cellsOf, hi] using this
    rw [hc, List.range_eq_range']
    exact eqItems_eq he' 9998 n 0 key kc rfl rfl h hkc
  ·cases he
 ·cases hk
theorem fnd_get {key : List Value} {kf vf : List Kd} (hk : okVs kf key = true) {es : List MapEntry} {rs : List (List T)} (h : EntL kf vf es rs) : ∀ i,
  (fnd key es rs i = none ∧ mHas key rs = false ∧ ∀ j, mGet key rs j = .no) ∨
  ∃ n vc, fnd key es rs i = some (i + n, mkV vf vc) ∧ mHas key rs = true ∧ okVs vf vc = true ∧ ∀ (j : Nat) (x : Value), vc[j]? = some x → mGet key rs j = .im x := by
 induction h with
 | nil => exact fun i => .inl ⟨rfl, rfl, fun j => rfl⟩
 | @cons e es kc vc rs h hs ih =>
  intro i
  rw [fnd, mHas, List.any_cons]
  cases hq : keyEq key ((kc ++ vc).map .im) with
  | true =>
   refine .inr ⟨0, vc, by rw [cond_true, h.val]; rfl, rfl, h.hv, fun j x hx => ?_⟩
   have hl : key.length = kc.length := (okVs_length hk).trans (okVs_length h.hk).symm
   rw [mGet, List.find?_cons, hq]
   show List.getD _ _ _ = _
   rw [List.getD_eq_getElem?_getD, List.getElem?_map, List.getElem?_append_right (by omega), hl, Nat.add_sub_cancel_left, hx]; rfl
  | false =>
   rw [cond_false, Bool.false_or]
   have hm : ∀ j, mGet key ((kc ++ vc).map .im :: rs) j = mGet key rs j := fun j => by rw [mGet, List.find?_cons, hq]; rfl
   rcases ih (i + 1) with ⟨h1, h2, h3⟩ | ⟨n, vc, h1, h2, h3, h4⟩
   ·exact .inl ⟨h1, h2, fun j => (hm j).trans (h3 j)⟩
   ·exact .inr ⟨n + 1, vc, by rw [h1]; congr 2; omega, h2, h3, fun j x hx => (hm j).trans (h4 j x hx)⟩
theorem fnd_put {key val : List Value} {kf vf : List Kd} (hk : okVs kf key = true) (hv : okVs vf val = true) {es : List MapEntry} {rs : List (List T)} (h : EntL kf vf es rs) : ∀ i,
  (fnd key es rs i = none ∧ ∀ e, e.key = mkV kf key → e.val = mkV vf val → EntL kf vf (es ++ [e]) (mPut key val rs)) ∨
  ∃ n v e, fnd key es rs i = some (i + n, v) ∧ es[n]? = some e ∧ e.key = mkV kf key ∧ EntL kf vf (es.modify n fun e => { e with key := mkV kf key, val := mkV vf val }) (mPut key val rs) := by
 induction h with
 | nil => exact fun i => .inl ⟨rfl, fun e h1 h2 => .cons ⟨hk, hv, h1, h2⟩ .nil⟩
 | @cons e es kc vc rs h hs ih =>
  intro i
  rw [fnd, mPut]
  cases hq : keyEq key ((kc ++ vc).map .im) with
  | true =>
   obtain rfl := keyEq_same hk h.hk hq
   exact .inr ⟨0, _, e, rfl, rfl, h.key, .cons ⟨hk, hv, rfl, rfl⟩ hs⟩
  | false =>
   rw [cond_false, cond_false]
   rcases ih (i + 1) with ⟨h1, h2⟩ | ⟨n, v, e', h1, h2, h3, h4⟩
   ·exact .inl ⟨h1, fun e' q1 q2 => .cons h (h2 e' q1 q2)⟩
   ·exact .inr ⟨n + 1, v, e', by rw [h1]; congr 2; omega, h2, h3, .cons h h4⟩
theorem sameBits_refl {v : Value} {k : Kd} (h : Value.okK k v = true) (n : Nat) : Instr.sameBits n v v = true := by
 cases k <;> cases v <;> first | (cases h; done) | skip
 all_goals cases n <;> simp [Instr.sameBits, MapKept.bytes_beq]
theorem sameBits_key {kf : List Kd} {key : List Value} (hk : okVs kf key = true) (h1 : isAg kf = false → kf.length = 1) : Instr.sameBits 10000 (mkV kf key) (mkV kf key) = true := by
 rw [mkV]
 cases ha : isAg kf with
 | true =>
  rw [cond_true, Instr.sameBits]
  simp only [beq_self_eq_true, Bool.true_and]
  clear ha h1
  induction key generalizing kf with
  | nil => rfl
  | cons v key ih =>
   match kf, hk with
   | k :: kf, hk =>
    rw [okVs, Bool.and_eq_true] at hk
    have := ih hk.2
    simp only [List.zip_cons_cons, List.all_cons, Bool.and_eq_true]
    exact ⟨sameBits_refl hk.1 _, this⟩
 | false =>
  match kf, h1 ha with
  | [k], _ =>
   obtain ⟨v, rfl, hv, _⟩ := mkV_one hk
   exact sameBits_refl hv _
theorem imL_rep {vr : Nat → Nat} : ∀ {vs : List V} {cs xs : List Value}, imL vs = some cs → vs.length = xs.length → (∀ (i : Nat) (v : V) (x : Value), vs[i]? = some v → xs[i]? = some x → RepV vr β v x) → xs = cs
 | [], cs, [], h, _, _ => by cases h; rfl
 | v :: vs, cs, x :: xs, h, hl, hr => by
  unfold imL at h
  split at h
  ·rename_i e; cases e
  ·rename_i v' vs' e
   injection e with e1 e2
   subst e1 e2
   rw [Option.map_eq_some_iff] at h
   obtain ⟨cs', h1, rfl⟩ := h
   have := rep_im (hr 0 _ _ rfl rfl)
   rw [this, imL_rep h1 (by simpa using hl) fun i v x hv hx => hr (i + 1) v x hv hx]
  ·cases h
theorem cellsK_rep {vr : Nat → Nat} {ks : List Kd} {v : V} {x : Value} {cs : List Value} (h : RepV vr β v x) (hc : cellsK ks v = some cs) : okVs ks cs = true ∧ x = mkV ks cs := by
 unfold cellsK at hc
 split at hc
 ·rename_i vs
  cases ha : isAg ks with
  | false => rw [ha] at hc; cases hc
  | true =>
   rw [ha, cond_true, Option.bind_eq_some_iff] at hc
   obtain ⟨cs', h1, h2⟩ := hc
   cases ho : okVs ks cs' with
   | false => rw [ho] at h2; cases h2
   | true =>
    rw [ho] at h2
    obtain rfl := Option.some.inj h2
    cases h with
    | @ag _ xs hl hf hr =>
     refine ⟨ho, ?_⟩
     rw [mkV, ha, cond_true, ← imL_rep h1 (xs := xs.toList) (by simpa using hl) fun i v x hv hx => hr i v x hv (by simpa using hx)]
 ·rename_i v
  cases hq : (!isAg ks && okVs ks [v]) with
  | false => rw [hq] at hc; cases hc
  | true =>
   rw [hq] at hc
   obtain rfl := Option.some.inj hc
   rw [Bool.and_eq_true, Bool.not_eq_true'] at hq
   obtain rfl := rep_im h
   refine ⟨hq.2, ?_⟩
   rw [mkV, hq.1]; rfl
 ·cases hc
noncomputable def etaM1 : Kd → T → V
 | .int k, t => .im (.int k (iT t))
 | .bool, t => .im (.bool (bT t))
 | .str, t => .im (.string (sT t))
 | _, _ => .no
theorem etaM_get (g : Nat → T) : ∀ (ks : List Kd) (j i : Nat), (etaM g ks j)[i]? = (ks[i]?).map fun k => etaM1 k (g (j + i))
 | [], j, i => by simp [etaM]
 | k :: ks, j, 0 => by cases k <;> rfl
 | k :: ks, j, i + 1 => by
  have := etaM_get g ks (j + 1) i
  rw [show j + 1 + i = j + (i + 1) by omega] at this
  cases k <;> simpa [etaM] using this
theorem etaM_length (g : Nat → T) : ∀ (ks : List Kd) (j : Nat), (etaM g ks j).length = ks.length
 | [], j => rfl
 | k :: ks, j => by cases k <;> simp [etaM, etaM_length g ks (j + 1)]
theorem etaM1_ok {k : Kd} {v : Value} (h : Value.okK k v = true) : etaM1 k (.im v) = .im v := by
 cases k <;> cases v <;> first | (cases h; done) | skip
 ·obtain rfl := of_decide_eq_true h; simp [etaM1, iT_eq, T.val, Value.asInt]
 ·simp [etaM1, bT_eq, T.val, Value.asB]
 ·simp [etaM1, sT_eq, T.val, Value.asS]
theorem etaM1_no {k : Kd} (h : Kd.flat k = true) : etaM1 k .no = zeroK k := by
 cases k <;> first | (cases h; done) | skip
 ·simp [etaM1, zeroK, iT_eq]; rfl
 ·simp [etaM1, zeroK, bT_eq]; rfl
 ·simp [etaM1, zeroK, sT_eq]; rfl
theorem okVs_get : ∀ {ks : List Kd} {vs : List Value} {i : Nat} {k : Kd} {v : Value}, okVs ks vs = true → ks[i]? = some k → vs[i]? = some v → Value.okK k v = true
 | [], _, i, _, _, _, h, _ => by simp at h
 | _ :: _, [], _, _, _, h, _, _ => by cases h
 | k :: ks, v :: vs, 0, _, _, h, h1, h2 => by
  rw [okVs, Bool.and_eq_true] at h
  cases h1; cases h2; exact h.1
 | k :: ks, v :: vs, i + 1, _, _, h, h1, h2 => by
  rw [okVs, Bool.and_eq_true] at h
  exact okVs_get h.2 (by simpa using h1) (by simpa using h2)
theorem wrap_ag {vr : Nat → Nat} {ks : List Kd} {us : List V} {cs : List Value} (hl : us.length = cs.length) (hf : ∀ v ∈ cs, flat v) (h : ∀ (i : Nat) (v : V) (x : Value), us[i]? = some v → cs[i]? = some x → RepV vr β v x)
  (h1 : isAg ks = false → cs.length = 1) : RepV vr β (wrapAg (isAg ks) us) (mkV ks cs) := by
 rw [wrapAg, mkV]
 cases ha : isAg ks with
 | true =>
  rw [cond_true, cond_true]
  exact .ag (by simpa using hl) (fun i x hx => hf x (by rw [List.getElem?_toArray] at hx; exact List.mem_of_getElem? hx)) fun i v x hv hx => h i v x hv (by rwa [List.getElem?_toArray] at hx)
 | false =>
  have h2 := h1 ha
  rw [h2] at hl
  obtain ⟨u, rfl⟩ := List.length_eq_one_iff.1 hl
  obtain ⟨c, rfl⟩ := List.length_eq_one_iff.1 h2
  exact h 0 u c rfl rfl
theorem mapKs_spec {t : TypeId} {kf vf : List Kd} (h : mapKs P t = some (kf, vf)) : ∃ kt et, P.underlying t = some (.map kt et) ∧ keyTy P kt = true ∧ valTy P et = true ∧ kf = ksOf P kt ∧ vf = ksOf P et := by
 unfold mapKs at h
 split at h
 ·rename_i kt et hu
  cases hc : (keyTy P kt && valTy P et) with
  | false => rw [hc] at h; cases h
  | true =>
   rw [hc, cond_true] at h
   injection h with h
   injection h with h1 h2
   rw [Bool.and_eq_true] at hc
   exact ⟨kt, et, hu, hc.1, hc.2, h1.symm, h2.symm⟩
 ·cases h
theorem keyTy_one {kt : TypeId} (h : keyTy P kt = true) (ha : isAg (ksOf P kt) = false) : (ksOf P kt).length = 1 := by
 unfold keyTy at h
 split at h
 ·rename_i hu; rw [ks_str hu]; rfl
 ·rename_i q hu; rw [ks_int hu]; rfl
 ·rename_i n e hu
  simp only [Bool.and_eq_true] at h
  obtain ⟨⟨hn, he⟩, _⟩ := h
  split at he
  ·rename_i q he'
   rw [ks_array hu he', isAg_rep (Nat.le_of_ble_eq_true hn)] at ha
   cases ha
  ·cases he
 ·cases h
theorem valTy_zero {et : TypeId} (h : valTy P et = true) : ∃ zl : List Value, (zeroValue et).run P w = .ok (mkV (ksOf P et) zl) w ∧ zl.length = (ksOf P et).length ∧ (isAg (ksOf P et) = false → (ksOf P et).length = 1) ∧
  ∀ (i : Nat) (k : Kd) (v : Value), (ksOf P et)[i]? = some k → zl[i]? = some v → flat v ∧ ∀ vr β, RepV vr β (etaM1 k .no) v := by
 unfold valTy at h
 rw [Bool.and_eq_true] at h
 obtain ⟨h3, h4⟩ := h
 have run : ∀ {z : Value}, (P.info? et).bind (·.zero) = some z → (zeroValue et).run P w = .ok z w := by
  intro z hz
  cases hi : P.info? et with
  | none => rw [hi] at hz; cases hz
  | some i =>
   rw [hi] at hz
   simp [zeroValue, typeInfo, hi, show i.zero = some z from hz]
 have cells : ∀ {zl : List Value}, zeroOk (ksOf P et) zl = true → zl.length = (ksOf P et).length ∧ ∀ (i : Nat) (k : Kd) (v : Value), (ksOf P et)[i]? = some k → zl[i]? = some v → flat v ∧ ∀ vr β, RepV vr β (etaM1 k .no) v := by
  intro zl hz
  obtain ⟨hl, hr⟩ := zeroOk_spec hz
  refine ⟨hl.symm, fun i k v hk hv => ?_⟩
  obtain ⟨r1, r2, _⟩ := hr i k v hk hv
  rw [etaM1_no (List.all_eq_true.1 h3 k (List.mem_of_getElem? hk))]
  exact ⟨r1, fun vr β => r2 vr β⟩
 split at h4
 ·rename_i cs hi
  rw [Bool.and_eq_true] at h4
  obtain ⟨c1, c2⟩ := cells h4.2
  exact ⟨cs.toList, by rw [run hi, mkV, h4.1]; rfl, c1, (fun e => absurd (h4.1.symm.trans e) (by decide)), c2⟩
 ·rename_i v hno hi
  rw [Bool.and_eq_true] at h4
  obtain ⟨c1, c2⟩ := cells h4.2
  have hl := beq_eq h4.1
  have ha : isAg (ksOf P et) = false := by rw [isAg, hl]; rfl
  exact ⟨[v], by rw [run hi, mkV, ha]; rfl, c1, fun _ => hl, c2⟩
 ·cases h4
theorem mapH_run {o : Option O} {kf vf : List Kd} {α : Type} {k : List (List T) → H α} {r : α × Objs × List (Bool × Nat)}
  (h : ((match o with | some (.mp kf' vf' rs) => .chk (decide (kf = kf') && decide (vf = vf')) (k rs) | _ => .fail : H α)).run s fp = some r) :
  ∃ rs, o = some (.mp kf vf rs) ∧ (k rs).run s fp = some r := by
 split at h
 ·obtain ⟨hc, h2⟩ := chk_run h
  simp only [Bool.and_eq_true, decide_eq_true_eq] at hc
  obtain ⟨rfl, rfl⟩ := hc
  exact ⟨_, rfl, h2⟩
 ·cases h
theorem makeMap_sound {key : Nat} {t : TypeId} {r : V × Objs × List (Bool × Nat)} (hO : OK X w FZ β s []) (h : (makeMapH P key t).run s fp = some r) :
  ∃ z w', (Instr.makeMap t none).run P w = .ok z w' ∧ Post X FZ β s w r.1 r.2.1 z w' := by
 unfold makeMapH at h
 split at h
 ·rename_i kf vf hm
  obtain ⟨hq, h3⟩ := new_run h
  obtain rfl := ret_run h3
  refine ⟨.map (some w.heap.size), World.push w (.map #[] 0), ?_, _, FZ, hO.newOb hq (.map #[] 0) (.map (some w.heap.size)) _ (fun b' e => ?_) ?_, ext_new hq _ _, .mp ?_ (upd_same _ _ _), push_wd hO.n0 _⟩
  ·rfl
  ·have e : upd β (nKey key 0) (.map (some w.heap.size)) (nKey key 0) = .map (some b') := e
   rw [upd_same] at e
   injection e with e
   exact (Option.some.inj e).symm
  ·exact ⟨w.heap.size, upd_same _ _ _, #[], 0, by show (w.heap.push _)[w.heap.size]? = _; rw [Array.getElem?_push, if_pos rfl], .nil⟩
  ·rw [vers, putS_bump]; omega
 ·cases h
theorem lookup_sound {t : TypeId} {m k : V} {mx kx : Value} {ok : Bool} {r : V × Objs × List (Bool × Nat)} (hO : OK X w FZ β s []) (hm : RepV (vers s) β m mx) (hk : RepV (vers s) β k kx)
  (h : (lookupH P t m k ok).run s fp = some r) : ∃ z, (Instr.lookup t mx kx ok).run P w = .ok z w ∧ RepV (vers s) β r.1 z ∧ r.2.1 = s := by
 unfold lookupH at h
 split at h
 ·rename_i kf vf id hmt
  split at h
  ·rename_i kc hkc
   simp only [H.run] at h
   obtain ⟨rs, ho, h2⟩ := mapH_run (k := fun rs => .ret (bif ok then .tu [wrapAg (isAg vf) (etaM (sMGet kc rs) vf 0), .im (.bool (sMHas kc rs))] else wrapAg (isAg vf) (etaM (sMGet kc rs) vf 0))) h
   obtain rfl := ret_run h2
   clear h h2
   obtain ⟨hokc, rfl⟩ := cellsK_rep hk hkc
   obtain ⟨b, hb, es, ck, hes, hE⟩ := hO.rep _ _ ho
   cases hm with
   | @mp _ b' hv hb' =>
    rw [hb] at hb'
    injection hb' with hb'
    obtain rfl := Option.some.inj hb'
    obtain ⟨kt, et, hu, hkt, hvt, rfl, rfl⟩ := mapKs_spec hmt
    have hfnd := run_findKey_ok (P := P) (w := w) hkt hokc hE
    have fin : ∀ {vc : List Value}, vc.length = (ksOf P et).length → (isAg (ksOf P et) = false → (ksOf P et).length = 1) →
      (∀ (i : Nat) (k : Kd) (v : Value), (ksOf P et)[i]? = some k → vc[i]? = some v → flat v ∧ RepV (vers s) β (etaM1 k (mGet kc rs i)) v) →
      RepV (vers s) β (wrapAg (isAg (ksOf P et)) (etaM (sMGet kc rs) (ksOf P et) 0)) (mkV (ksOf P et) vc) := by
     intro vc hl h1 hc
     refine wrap_ag (by rw [etaM_length, hl]) (fun v hv => ?_) (fun i v x hv hx => ?_) (fun e => by rw [hl, h1 e])
     ·obtain ⟨i, hi⟩ := List.mem_iff_getElem?.1 hv
      have hlt := (List.getElem?_eq_some_iff.1 hi).1
      exact (hc i _ v (List.getElem?_eq_getElem (by omega)) hi).1
     ·rw [etaM_get, Option.map_eq_some_iff] at hv
      obtain ⟨k, hk, rfl⟩ := hv
      rw [sMGet_eq, Nat.zero_add]
      exact (hc i k x hk hx).2
    have run : ∀ {z : Value} {q : Bool}, (match fnd kc es.toList rs 0 with | some (_, v) => (pure (v, true) : Sem (Value × Bool)) | none => do pure (← zeroValue et, false)).run P w = .ok (z, q) w →
      (Instr.lookup t (.map (some b)) (mkV (ksOf P kt) kc) ok).run P w = .ok (if ok then .tuple #[z, .bool q] else z) w := by
     intro z q hz
     rw [Instr.lookup]
     simp only [Sem.run_bind, run_underlying hu, Result.andThen_ok, MapKept.run_getObj_map hes, Sem.run_pure, run_checkKey_ok hkt hokc, hfnd]
     generalize fnd kc es.toList rs 0 = f at hz
     rcases f with _ | ⟨n, v⟩
     ·simp only [Sem.run_bind] at hz ⊢
      cases hq : (zeroValue et).run P w with
      | ok y w' =>
       rw [hq] at hz
       injection hz with h1 h2
       injection h1 with h1 h3
       subst h1 h2 h3
       cases ok <;> rfl
      | halt y w' => rw [hq] at hz; cases hz
     ·injection hz with h1 h2
      injection h1 with h1 h3
      subst h1 h3
      cases ok <;> rfl
    have two : ∀ {z : Value} {u : V} {q : Bool}, RepV (vers s) β u z → RepV (vers s) β (bif ok then .tu [u, .im (.bool q)] else u) (if ok then .tuple #[z, .bool q] else z) := by
     intro z u q hz
     cases ok with
     | false => exact hz
     | true =>
      refine .tu rfl fun i v x hv hx => ?_
      match i with
      | 0 => simp at hv hx; subst hv hx; exact hz
      | 1 => simp at hv hx; subst hv hx; exact .im trivial
      | i + 2 => simp at hv
    obtain ⟨zl, hz1, hz2, hz3, hz4⟩ := valTy_zero (w := w) hvt
    rcases fnd_get hokc hE 0 with ⟨f1, f2, f3⟩ | ⟨n, vc, f1, f2, f3, f4⟩
    ·refine ⟨_, run (by rw [f1]; simp only [Sem.run_bind, hz1, Result.andThen_ok, Sem.run_pure]; rfl), ?_, rfl⟩
     rw [sMHas_eq, f2]
     exact two (fin hz2 hz3 fun i k v hk hv => by rw [f3]; exact ⟨(hz4 i k v hk hv).1, (hz4 i k v hk hv).2 _ _⟩)
    ·refine ⟨_, run (by rw [f1]; rfl), ?_, rfl⟩
     rw [sMHas_eq, f2]
     refine two (fin (okVs_length f3) hz3 fun i k v hk hv => ?_)
     have := okVs_get f3 hk hv
     rw [f4 i v hv, etaM1_ok this]
     have hf : flat v := by cases v <;> first | trivial | (cases k <;> cases this)
     exact ⟨hf, .im hf⟩
  ·cases h
 ·cases h
theorem update_sound {t : TypeId} {m k x : V} {mx kx xx : Value} {r : V × Objs × List (Bool × Nat)} (hO : OK X w FZ β s []) (hm : RepV (vers s) β m mx) (hk : RepV (vers s) β k kx) (hx : RepV (vers s) β x xx)
  (h : (updateH P t m k x).run s fp = some r) : ∃ w', (Instr.mapUpdate t mx kx xx).run P w = .ok () w' ∧ ∀ z, Post X FZ β s w r.1 r.2.1 z w' := by
 unfold updateH at h
 split at h
 ·rename_i kf vf id hmt
  split at h
  ·rename_i kc vc hkc hvc
   simp only [H.run] at h
   obtain ⟨rs, ho, h2⟩ := mapH_run (α := V) (k := fun rs => .put id true (some (.mp kf vf (sMPut kc vc rs))) (.ret V.no)) h
   simp only [H.run] at h2
   obtain rfl := Option.some.inj h2
   clear h h2
   obtain ⟨hokc, rfl⟩ := cellsK_rep hk hkc
   obtain ⟨hovc, rfl⟩ := cellsK_rep hx hvc
   obtain ⟨b, hb, es, ck, hes, hE⟩ := hO.rep _ _ ho
   cases hm with
   | @mp _ b' hv hb' =>
    rw [hb] at hb'
    injection hb' with hb'
    obtain rfl := Option.some.inj hb'
    obtain ⟨kt, et, hu, hkt, hvt, rfl, rfl⟩ := mapKs_spec hmt
    have hfnd := run_findKey_ok (P := P) (w := w) hkt hokc hE
    have hlt := (Array.getElem?_eq_some_iff.1 hes).1
    have fin : ∀ {es' : Array MapEntry} {ck' : Nat}, EntL (ksOf P kt) (ksOf P et) es'.toList (mPut kc vc rs) →
      ∀ z, Post X FZ β s w .no (putS s id true (some (.mp (ksOf P kt) (ksOf P et) (sMPut kc vc rs)))) z { w with heap := w.heap.setIfInBounds b (.map es' ck') } := by
     intro es' ck' hE' z
     obtain ⟨g1, g2⟩ := MapKept.heap_set (o' := .map es' ck') hes
     have hob : Bl w β s [] (.inl id) b := ⟨_, ho, hb⟩
     refine ⟨β, FZ, hO.setOb ho hb (fun b' e => ?_) g2 (by simp) true (by simp) ⟨b, hb, es', ck', g1, by rw [sMPut_eq]; exact hE'⟩, fun i hi => ⟨Nat.le_trans hi (putS_ver _ _ _ _ _), rfl⟩, .no, ⟨rfl, rfl, rfl, fun _ => Nat.le_refl _, by simp, fun b' h1 h2 => g2 b' fun e => ?_, fun b' c hc => ⟨c, hc.of_eq (g2 b' fun e => ?_), rfl⟩, fun _ h => h, fun _ h => .inl h⟩⟩
     ·have e : β id = .map (some b') := e
      rw [hb] at e
      injection e with e
      exact (Option.some.inj e).symm
     ·subst e
      rcases (hO.sep _ _ hob).2.2 with q | q
      ·exact h2 q
      ·omega
     ·subst e
      obtain ⟨_, _, _, q, _⟩ := hc
      rw [hes] at q
      cases q
    rcases fnd_put hokc hovc hE 0 with ⟨f1, f2⟩ | ⟨n, v, e, f1, f2, f3, f4⟩
    ·refine ⟨_, ?_, fin (es' := es.push { key := mkV (ksOf P kt) kc, val := mkV (ksOf P et) vc, born := ck }) (ck' := ck + 1) (by rw [Array.toList_push]; exact f2 _ rfl rfl)⟩
     rw [Instr.mapUpdate]
     simp only [Sem.run_bind, run_underlying hu, Result.andThen_ok, MapKept.run_getObj_map hes, run_checkKey_ok hkt hokc, hfnd, f1, MapKept.run_setObj_map _ hes]
    ·rw [Nat.zero_add] at f1
     refine ⟨_, ?_, fin (es' := es.modify n fun e => { e with key := mkV (ksOf P kt) kc, val := mkV (ksOf P et) vc }) (ck' := ck) (by rw [Array.toList_modify]; exact f4)⟩
     rw [Instr.mapUpdate]
     have hg : es[n]? = some e := by rw [← Array.getElem?_toList]; exact f2
     simp only [Sem.run_bind, run_underlying hu, Result.andThen_ok, MapKept.run_getObj_map hes, run_checkKey_ok hkt hokc, hfnd, f1, hg, Option.map_some, Option.getD_some, f3]
     rw [Instr.keyThatStays, if_pos (sameBits_key hokc (keyTy_one hkt))]
     simp only [Sem.run_pure, Result.andThen_ok, MapKept.run_setObj_map _ hes]
  ·cases h
 ·cases h
end Go.Vm
namespace Go.Vm
set_option linter.unusedVariables false
set_option linter.unusedSimpArgs false
variable {P : Program} {X : Cx} {FZ : Nat → Prop} {β : Nat → Value} {s s' : Objs} {w : World} {v : V} {fp fp' : List (Bool × Nat)} {pend : List (T × Value)}
theorem isU8_spec {e : TypeId} (h : isU8 P e = true) : P.underlying e = some (.int .u8) := by
 unfold isU8 at h
 split at h
 ·assumption
 ·cases h
theorem bytes_row {rs : List (List T)} (h : bytesOk rs = true) : ∃ ns : List Int, rs = ns.map fun n => [T.im (.int .u8 n)] := by
 induction rs with
 | nil => exact ⟨[], rfl⟩
 | cons r rs ih =>
  simp only [bytesOk, List.all_cons, Bool.and_eq_true] at h
  obtain ⟨ns, rfl⟩ := ih h.2
  split at h
  ·rename_i n; exact ⟨n :: ns, rfl⟩
  ·exact absurd h.1 (by simp)
theorem foldl_bytes : ∀ (ns : List Int) (a : ByteArray), (ns.foldl (fun r n => r.push (UInt8.ofNat n.toNat)) a) = ⟨a.data ++ (ns.map fun n => n.toNat.toUInt8).toArray⟩
 | [], a => by simp
 | n :: ns, a => by
  simp only [List.foldl_cons, List.map_cons]
  rw [foldl_bytes ns]
  simp [ByteArray.push]
theorem conv_bytes (w : World) (src dst e : TypeId) (s : ByteArray) (hs : P.underlying src = some .string) (hd : P.underlying dst = some (.slice e)) (he : P.underlying e = some (.int .u8)) :
  (convert src dst (.string s)).run P w = .ok (.slice (some ⟨w.heap.size, 0, none⟩) s.size (grownCap w s.size 0 e))
   (World.push (World.drew' w) (.cells (bytesRow s (grownCap w s.size 0 e)) e ((bytesRow s (grownCap w s.size 0 e)).size, (bytesRow s (grownCap w s.size 0 e)).size + 1))) := run_bytes_of_string w src dst e s hs hd he
theorem conv_sound {key : Nat} {st d : TypeId} {x : V} {xx : Value} {r : V × Objs × List (Bool × Nat)} (hO : OK X w FZ β s []) (hx : RepV (vers s) β x xx) (h : (convH P key st d x).run s fp = some r) :
  ∃ z w', (convert st d xx).run P w = .ok z w' ∧ Post X FZ β s w r.1 r.2.1 z w' := by
 unfold convH at h
 simp only [sWrap_eq, sFit_eq, sRows_eq, sBytesOk_eq, sStr_eq, strRows] at h
 obtain ⟨hu, h1⟩ := chk_run h
 clear h
 obtain ⟨us, hus⟩ := Option.isSome_iff_exists.1 hu
 split at h1
 ·rename_i k k' n hd
  obtain rfl := rep_im hx
  obtain rfl := ret_run h1
  refine ⟨.int k (k.wrap n), w, ?_, Post.same hO (.im trivial)⟩
  simp only [convert, Sem.run_bind, run_underlying hus, run_underlying hd, Result.andThen_ok, Conv.intToInt, Sem.run_pure]
 ·rename_i b hd
  obtain rfl := rep_im hx
  obtain rfl := ret_run h1
  refine ⟨.string b, w, ?_, Post.same hO (.im trivial)⟩
  simp only [convert, Sem.run_bind, run_underlying hus, run_underlying hd, Result.andThen_ok, Sem.run_pure]
 ·rename_i e b hd
  obtain rfl := rep_im hx
  obtain ⟨hc, h2⟩ := chk_run h1
  simp only [Bool.and_eq_true] at hc
  obtain ⟨⟨⟨h7, h8⟩, h9⟩, h10⟩ := hc
  have hss : P.underlying st = some .string := by
   split at h7
   ·assumption
   ·cases h7
  obtain ⟨hq, h3⟩ := new_run h2
  obtain rfl := ret_run h3
  have hue := isU8_spec h8
  have hsz : b.size < 4294967296 := by simpa [Nat.blt_eq] using h10
  have hrun := conv_bytes (P := P) w st d e b hss hd hue
  have hge := grownCap_ge w b.size 0 e
  generalize grownCap w b.size 0 e = cap at hrun hge
  have hOd : OK X (World.drew' w) FZ β s [] := (hO.world (w' := World.drew' w) (fun _ _ => rfl) (Nat.le_refl _)).1
  have hbs : b.data.toList.length = b.size := by simp
  have hcs : (bytesRow b cap).size = cap := by simp only [bytesRow, Array.size_append, Array.size_map, Array.size_replicate]; have : b.data.size = b.size := rfl; omega
  have cell : ∀ {i j t v}, At (b.data.toList.map fun c => [T.im (.int .u8 c.toNat)]) i j t → (bytesRow b cap)[i * 1 + j]? = some v → ∃ n : Int, t = .im (.int .u8 n) ∧ v = .int .u8 n := by
   rintro i j t v ⟨r, hr, hj⟩ hv
   rw [List.getElem?_map, Option.map_eq_some_iff] at hr
   obtain ⟨c, hc, rfl⟩ := hr
   have hi := (List.getElem?_eq_some_iff.1 hc).1
   cases j with
   | succ j => simp at hj
   | zero =>
    simp only [List.getElem?_cons_zero, Option.some.injEq] at hj
    refine ⟨c.toNat, hj.symm, ?_⟩
    rw [Nat.mul_one, Nat.add_zero, bytesRow, Array.getElem?_append, if_pos (by simpa using hi), Array.getElem?_map, ← Array.getElem?_toList, hc] at hv
    exact (Option.some.inj hv).symm
  have hO1 := hOd.newRowsF 0 e (fr := ((bytesRow b cap).size, (bytesRow b cap).size + 1)) (sz := 1) (cap := cap) (rs := b.data.toList.map fun c => [T.im (.int .u8 c.toNat)]) (c := bytesRow b cap)
   (fun r hr => by obtain ⟨_, _, rfl⟩ := List.mem_map.1 hr; rfl) (by simp; exact hge) (by omega)
   (fun i j t v ht hv => by obtain ⟨n, rfl, rfl⟩ := cell ht hv; exact ⟨.im trivial, fun b hb => by cases hb⟩)
   (fun i j t v i' j' t' v' ht hv _ _ _ b hb => by obtain ⟨n, rfl, rfl⟩ := cell ht hv; cases hb) (Nat.le_refl _) (.inr (Nat.le_refl _))
  simp only [List.take_nil, List.nil_append, List.length_map, hbs] at hO1
  have hO2 := OK.place (pend := []) hO1 hq
  refine ⟨_, _, hrun, _, FZ, hO2, ext_new hq _ _, ?_, Wd.trans (w2 := World.drew' w) ⟨rfl, rfl, rfl, fun _ => (by first | exact Nat.le_refl _ | exact Nat.le_succ _), Nat.le_refl _, fun _ _ _ => rfl, fun _ c h => ⟨c, h, rfl⟩, fun _ h => h, fun _ h => .inl h⟩ (push_wd (w := World.drew' w) hO.n0 _)⟩
  exact .sl (by rw [vers, putS_bump]; omega) (upd_same _ _ _) (by omega) (by omega) hge (fun _ => by omega) (.inl (by omega))
 ·rename_i hd hne
  split at h1
  ·rename_i e hs
   rw [hs] at hus
   cases hus
   obtain ⟨hc, h2⟩ := chk_run h1
   simp only [Bool.and_eq_true] at hc
   have hue := isU8_spec hc.1
   obtain ⟨t, fp1, hb, h3⟩ := bor_run h2
   have hi := bor_sem hO (rep_castT hx (.cell (.sl 1))) hb
   obtain ⟨hk, h4⟩ := chk_run h3
   obtain rfl := ret_run h4
   simp only [Bool.and_eq_true] at hk
   obtain ⟨f, rs, rfl⟩ := isSl_spec hk.1
   obtain ⟨ns, hns⟩ := bytes_row hk.2
   simp only [T.rws] at hns
   subst hns
   have hbo : bytesOf (ns.map fun n => [T.im (.int .u8 n)]) = ns.map fun n => n.toNat.toUInt8 := by simp [bytesOf, T.val, Value.asInt, Function.comp_def]
   refine ⟨.string ⟨(bytesOf (ns.map fun n => [T.im (.int .u8 n)])).toArray⟩, w, ?_, Post.same hO (.im trivial)⟩
   rw [hbo]
   generalize hrs : (ns.map fun n => [T.im (.int .u8 n)]) = rs at hi
   cases hi with
   | nil =>
    obtain rfl : ns = [] := by simpa using hrs
    simp only [convert, Sem.run_bind, run_underlying hs, run_underlying hd, run_underlying hue, Result.andThen_ok, Conv.bytesToString, Sem.run_pure]
    rfl
   | emp =>
    obtain rfl : ns = [] := by simpa using hrs
    simp only [convert, Sem.run_bind, run_underlying hs, run_underlying hd, run_underlying hue, Result.andThen_ok, Conv.bytesToString, Sem.run_pure, loadCells, loadCellsFrom]
    rfl
   | sl hr ha hl hbb hw hcc =>
    rename_i bk o cap c
    have hbd : o + rs.length * 1 ≤ c.size := by omega
    have hlen : rs.length = ns.length := by rw [← hrs]; simp
    have hall : ∀ k n, ns[k]? = some n → c[o + k]? = some (.int .u8 n) := by
     intro k n hk
     have hkl := (List.getElem?_eq_some_iff.1 hk).1
     have hat : At rs k 0 (.im (.int .u8 n)) := ⟨[.im (.int .u8 n)], by rw [← hrs, List.getElem?_map, hk]; rfl, rfl⟩
     obtain ⟨v, hv⟩ : ∃ v, c[o + k * 1 + 0]? = some v := ⟨_, Array.getElem?_eq_getElem (by omega)⟩
     have := hcc k 0 _ v hat hv
     cases this
     simpa using hv
    have hld : (loadCells ⟨bk, o, none⟩ rs.length).run P w = .ok (ns.map (Value.int .u8)).toArray w := by
     have := run_loadRow (P := P) hr (show o + rs.length ≤ c.size by omega)
     rw [this]
     congr 1
     apply Array.ext_getElem?
     intro k
     have e2 : ((ns.map (Value.int .u8)).toArray)[k]? = (ns[k]?).map (Value.int .u8) := by simp
     rw [Array.getElem?_extract, e2]
     cases hk : ns[k]? with
     | none =>
      have := List.getElem?_eq_none_iff.1 hk
      rw [if_neg (by omega)]; rfl
     | some n =>
      have hkl := (List.getElem?_eq_some_iff.1 hk).1
      rw [if_pos (by omega), hall k n hk]; rfl
    rw [run_convert_bytes_string w st d e _ _ _ hs hue hd, run_bytesToString w _ _ _ _ hld, foldl_bytes]
    simp
  ·cases h1
 ·cases h1
end Go.Vm
namespace Go.Vm
set_option linter.unusedVariables false
set_option linter.unusedSimpArgs false
variable {P : Program} {X : Cx} {FZ : Nat → Prop} {β : Nat → Value} {s s' : Objs} {w : World} {v : V} {fp fp' : List (Bool × Nat)} {pend : List (T × Value)}
theorem index_sound {t : TypeId} {a i : V} {x y : Value} {r : V × Objs × List (Bool × Nat)} (ha : RepV (vers s) β a x) (hi : RepV (vers s) β i y) (h : (indexV P t a i).run s fp = some r) :
  ∃ z, (Instr.index t x y).run P w = .ok z w ∧ RepV (vers s) β r.1 z ∧ r.2.1 = s := by
 unfold indexV at h
 simp only [sLe_eq, sLt_eq, sByte_eq] at h
 split at h
 ·rename_i st hu
  obtain rfl := rep_im ha
  obtain ⟨n, rfl, h'⟩ := idxK_run h
  clear h
  obtain ⟨hc, h2⟩ := chk_run h'
  clear h'
  obtain rfl := ret_run h2
  simp only [Bool.and_eq_true, decide_eq_true_eq] at hc
  obtain ⟨h0, h1⟩ := hc
  obtain rfl := rep_im hi
  have h0 : 0 ≤ n := h0
  have h1 : n < st.size := h1
  obtain ⟨N, rfl⟩ := Int.eq_ofNat_of_zero_le h0
  have hN : N < st.size := by omega
  have e1 : st[N]? = some (st.data.toList.getD N 0) := by
   rw [getElem?_pos st N hN]
   congr 1
   have : N < st.data.toList.length := by simpa using hN
   rw [List.getD_eq_getElem?_getD, List.getElem?_eq_getElem this]
   simp
   rfl
  refine ⟨_, ?_, .im trivial, rfl⟩
  simp only [Instr.index, Sem.run_bind, asIntOf, Sem.run_pure, Result.andThen_ok, run_underlying hu, if_pos h0, Int.toNat_natCast, e1]
 ·rename_i n e vs hu
  obtain ⟨m, rfl, h'⟩ := idxK_run h
  clear h
  obtain ⟨hc, h2⟩ := chk_run h'
  clear h'
  obtain rfl := ret_run h2
  simp only [Bool.and_eq_true, decide_eq_true_eq] at hc
  obtain ⟨⟨⟨⟨h0, h1⟩, hue⟩, hle⟩, hag⟩ := hc
  obtain rfl := rep_im hi
  have h0 : 0 ≤ m := h0
  have h1 : m < n := h1
  obtain ⟨N, rfl⟩ := Int.eq_ofNat_of_zero_le h0
  cases ha with
  | ag hl hf hr =>
   rename_i xs
   have hle := Nat.le_of_ble_eq_true hle
   simp only [V.int, Value.asInt, Int.toNat_natCast] at hle ⊢
   have hag' : isAggT P e = true ∨ sizeP P e = 1 := by
    rw [Bool.or_eq_true] at hag
    exact hag.imp id beq_eq
   obtain ⟨z, hz, za, zb⟩ := part_run (P := P) (w := w) (Option.isSome_iff_exists.1 hue) (xs := xs) (off := N * sizeP P e) (by omega) hag'
   refine ⟨z, ?_, wrap_rep hl hf hr (by omega) hag' za zb, trivial⟩
   simp only [Instr.index, Sem.run_bind, asIntOf, Sem.run_pure, Result.andThen_ok, run_underlying hu, Int.toNat_natCast]
   rw [if_pos ⟨h0, h1⟩]
   simp only [Sem.run_bind, run_sizeP (Option.isSome_iff_exists.1 hue), Result.andThen_ok, hz]
 ·cases h
theorem minMaxGo_sound {mx : Bool} {k : IntKind} : ∀ {vs : List V} {xs : List Value} {a : Int} {v : V}, vs.length = xs.length → (∀ (i : Nat) (v : V) (x : Value), vs[i]? = some v → xs[i]? = some x → RepV (vers s) β v x) →
  minMaxGo mx k a vs = some v → ∃ z, ((xs.foldlM (bif mx then Builtin.max2 else Builtin.min2) (Value.int k a) : Sem Value)).run P w = .ok (.int k z) w ∧ v = .im (.int k z)
 | [], [], a, v, _, _, h => ⟨a, rfl, (Option.some.inj h).symm⟩
 | u :: vs, y :: xs, a, v, hl, hr, h => by
  unfold minMaxGo at h
  split at h
  ·rename_i heq
   cases heq
  ·rename_i k' b r' heq
   injection heq with h1 h2
   subst h1 h2
   have hy := rep_im (hr 0 _ _ rfl rfl)
   subst hy
   cases hk : decide (k = k') with
   | false => rw [hk] at h; cases h
   | true =>
    have hk' : k = k' := of_decide_eq_true hk
    subst hk'
    rw [hk] at h
    obtain ⟨z, hz, hv⟩ := minMaxGo_sound (by simpa using hl) (fun i v x hv hx => hr (i + 1) v x hv hx) h
    refine ⟨z, ?_, hv⟩
    rw [List.foldlM_cons, Sem.run_bind]
    simp only [sMax_eq, sMin_eq] at hz
    cases mx <;> exact hz
  ·cases h
theorem arr_map (ps : Array (Nat × Operand)) (ρ' : Operand → Value) : (ps.map fun (i, x) => (i, ρ' x)) = (ps.toList.map fun p => (p.1, ρ' p.2)).toArray := by
 apply Array.ext'; simp
theorem run_value {o : Oper} {m : Sem Value} {z : Value} {w' : World} {Q : Value → World → Prop} (h : m.run P w = .ok z w') (q : Q z w') : Runs P ((do pure (.value (← m)) : Sem Next).run P w) Q :=
 .value (by simp only [Sem.run_bind, h, Result.andThen_ok, Sem.run_pure]) q
variable {ρ : Operand → V} {ρ' : Operand → Value}
theorem minMax_step {mx : Bool} {m : Array Value → Sem Next} {args : Array Operand} {r : V × Objs × List (Bool × Nat)} (hO : OK X w FZ β s []) (hρ : ∀ x, RepV (vers s) β (ρ x) (ρ' x))
  (hm : ∀ xs x rest, Array.toList xs = x :: rest → (m xs).run P w = ((rest.foldlM (bif mx then Builtin.max2 else Builtin.min2) x : Sem Value).run P w).andThen fun z w' => .ok (.value z) w')
  (h : (match minMax mx (args.toList.map ρ) with | some v => (.ret v : H V) | none => .fail).run s fp = some r) : Runs P ((m (args.map ρ')).run P w) (Post X FZ β s w r.1 r.2.1) := by
 unfold minMax at h
 cases ha : args.toList with
 | nil => rw [ha] at h; cases h
 | cons a rest =>
  rw [ha, List.map_cons] at h
  have hra := hρ a
  cases hv : ρ a with
  | im y =>
   cases y with
   | int k n =>
    rw [hv] at h hra
    dsimp only at h
    have hya := rep_im hra
    cases hg : minMaxGo mx k n (rest.map ρ) with
    | none => rw [hg] at h; cases h
    | some v =>
     rw [hg] at h
     obtain rfl := ret_run h
     obtain ⟨z, hz, rfl⟩ := minMaxGo_sound (P := P) (w := w) (s := s) (β := β) (vs := rest.map ρ) (xs := rest.map ρ') (by simp) (fun i v x hv hx => by
      rw [List.getElem?_map, Option.map_eq_some_iff] at hv hx
      obtain ⟨p, hp, rfl⟩ := hv
      obtain ⟨q, hq, rfl⟩ := hx
      rw [hp] at hq
      obtain rfl := Option.some.inj hq
      exact hρ p) hg
     refine .value (x := .int k z) (w' := w) ?_ (Post.same hO (.im trivial))
     rw [hm _ (ρ' a) (rest.map ρ') (by rw [Array.toList_map, ha]; rfl), hya, hz]
     rfl
   | _ => rw [hv] at h; cases h
  | _ => rw [hv] at h; cases h
theorem step_sound {E : Env} {key : Nat} {o : Oper} {r : V × Objs × List (Bool × Nat)} (hP : E.P = P) (hO : OK X w FZ β s []) (hρ : ∀ x, RepV (vers s) β (ρ x) (ρ' x))
  (hcall : ∀ c g f caps, o.op = .call c → c.callee = .value g → ρ g = .fn f caps → (callH E key (ty P o.type) f (modesOf E f) (preNil (modesOf E f) (c.args.toList.map ρ ++ caps))).run s fp = some r → Runs P ((execOp ρ' o).run P w) (Post X FZ β s w r.1 r.2.1))
  (h : (stepH E key o ρ).run s fp = some r) : Runs P ((execOp ρ' o).run P w) (Post X FZ β s w r.1 r.2.1) := by
 have same : ∀ {m : Sem Value} {z : Value}, m.run P w = .ok z w → RepV (vers s) β r.1 z → r.2.1 = s → Runs P ((do pure (.value (← m)) : Sem Next).run P w) (Post X FZ β s w r.1 r.2.1) := by
  intro m z hm hz hs
  exact run_value (o := o) hm (by rw [hs]; exact Post.same hO hz)
 subst hP
 unfold stepH at h
 unfold execOp
 dsimp only at h ⊢
 cases hop : o.op
 all_goals simp only [hop] at h hcall ⊢
 all_goals try (first | (cases h; done) | skip)
 case move x =>
  obtain rfl := ret_run h
  exact .value rfl (Post.same hO (rep_castT (hρ x) _))
 case assign x =>
  obtain rfl := ret_run h
  exact .value rfl (Post.same hO (rep_castT (hρ x) _))
 case pick c a b =>
  have fin : ∀ {bc y : Bool}, ρ c = .im (.bool bc) → (bif bc then ρ' a else ρ' b) = .bool y → r = (.im (.bool y), s, fp) → Runs E.P ((do pure (.value (if ← asBool (ρ' c) then ρ' a else ρ' b)) : Sem Next).run E.P w) (Post X FZ β s w r.1 r.2.1) := by
   intro bc y hc hy hr
   have hvc := rep_im (hc ▸ hρ c)
   rw [hr]
   refine .value (x := bif bc then ρ' a else ρ' b) (w' := w) ?_ ?_
   ·simp only [hvc, asBool, Sem.run_bind, Sem.run_pure, Result.andThen_ok]
    cases bc <;> rfl
   ·rw [hy]; exact Post.same hO (.im trivial)
  split at h
  ·rename_i c' a' b' h1 h2 h3
   have ha := rep_im (h2 ▸ hρ a)
   have hb := rep_im (h3 ▸ hρ b)
   exact fin h1 (by rw [ha, hb]; cases c' <;> rfl) (ret_run h)
  ·rename_i c' a' h1 h2 h3
   have ha := rep_im (h2 ▸ hρ a)
   obtain ⟨hc, h⟩ := chk_run h
   exact fin h1 (by rw [hc, ha]; rfl) (ret_run h)
  ·rename_i c' b' h1 h2 h3
   have hb := rep_im (h3 ▸ hρ b)
   obtain ⟨hc, h⟩ := chk_run h
   have hc : c' = false := by simpa using hc
   exact fin h1 (by rw [hc, hb]; rfl) (ret_run h)
  ·cases h
 case alloc t =>
  obtain ⟨z, w', h1, h2⟩ := alloc_sound hO h
  exact run_value (o := o) h1 h2
 case box t x =>
  obtain ⟨z, w', h1, h2⟩ := box_sound hO (hρ x) h
  exact run_value (o := o) h1 h2
 case build t ps =>
  obtain ⟨z, h1, h2, h3⟩ := build_sound (P := E.P) (w := w) (repPs_of hρ ps.toList) h
  refine same ?_ h2 h3
  rw [← h1, arr_map]
 case buildSlice t n ps =>
  obtain ⟨z, w', h1, h2⟩ := buildSlice_sound (P := E.P) hO (repPs_of hρ ps.toList) h
  refine run_value (o := o) ?_ h2
  rw [← h1, arr_map]
 case load t a =>
  obtain ⟨z, h1, h2⟩ := load_sound hO (hρ a) h
  exact run_value (o := o) h1 h2
 case store t a x =>
  obtain ⟨w', h1, h2⟩ := store_sound hO (hρ a) (hρ x) h
  exact .skip (by simp only [Sem.run_bind, h1, Result.andThen_ok, Sem.run_pure]) h2
 case nilCheck x =>
  split at h
  ·rename_i id sz i j hx
   obtain rfl := ret_run h
   have hr := hρ x
   rw [hx] at hr
   have : ∃ a, ρ' x = .pointer (some a) := by
    generalize ρ' x = y at hr
    cases hr <;> exact ⟨_, rfl⟩
   obtain ⟨a, ha⟩ := this
   refine .value (x := ρ' x) ?_ (Post.same hO hr)
   rw [ha]; rfl
  ·cases h
 case binOp op t x y b =>
  split at h
  ·rename_i e sz sz' hu he1 he2
   obtain rfl := ret_run h
   have h1 := hρ x
   have h2 := hρ y
   rw [he1] at h1; rw [he2] at h2
   have e1 : ρ' x = .slice none 0 0 := by generalize ρ' x = z at h1; cases h1; rfl
   have e2 : ρ' y = .slice none 0 0 := by generalize ρ' y = z at h2; cases h2; rfl
   refine same (z := .bool true) ?_ (.im trivial) rfl
   rw [e1, e2]
   show (do pure (Value.bool (← Op.equalIn (9999 + 1) t (.slice none 0 0) (.slice none 0 0))) : Sem Value).run E.P w = _
   unfold Op.equalIn
   simp only [Sem.run_bind, run_underlying hu, Result.andThen_ok]
   rfl
  ·rename_i e sz sz' hu he1 he2
   obtain rfl := ret_run h
   have h1 := hρ x
   have h2 := hρ y
   rw [he1] at h1; rw [he2] at h2
   have e1 : ρ' x = .slice none 0 0 := by generalize ρ' x = z at h1; cases h1; rfl
   have e2 : ρ' y = .slice none 0 0 := by generalize ρ' y = z at h2; cases h2; rfl
   refine same (z := .bool false) ?_ (.im trivial) rfl
   rw [e1, e2]
   show (do pure (Value.bool (!(← Op.equalIn (9999 + 1) t (.slice none 0 0) (.slice none 0 0)))) : Sem Value).run E.P w = _
   unfold Op.equalIn
   simp only [Sem.run_bind, run_underlying hu, Result.andThen_ok]
   rfl
  ·rename_i e id e' off len sz sz' hu he1 he2
   obtain ⟨hc, h⟩ := chk_run h
   obtain rfl := ret_run h
   obtain rfl := beq_eq hc
   have h1 := hρ x
   have h2 := hρ y
   rw [he1] at h1; rw [he2] at h2
   have e1 : ∃ a n c, ρ' x = .slice (some a) n c := by
    generalize ρ' x = z at h1
    cases h1 with
    | sl0 hz => exact absurd rfl hz
    | se => exact ⟨_, _, _, rfl⟩
    | sl => exact ⟨_, _, _, rfl⟩
   obtain ⟨a, n, c, e1⟩ := e1
   have e2 : ρ' y = .slice none 0 0 := by generalize ρ' y = z at h2; cases h2; rfl
   refine same (z := .bool false) ?_ (.im trivial) rfl
   rw [e1, e2]
   show (do pure (Value.bool (← Op.equalIn (9999 + 1) t (.slice (some a) n c) (.slice none 0 0))) : Sem Value).run E.P w = _
   unfold Op.equalIn
   simp only [Sem.run_bind, run_underlying hu, Result.andThen_ok]
   rfl
  ·cases h
  ·rename_i fs us vs hu he1 he2
   have h1' := hρ x
   have h2' := hρ y
   rw [he1] at h1'; rw [he2] at h2'
   obtain ⟨z, h1, h2, h3, h4⟩ := eqAg_sound (P := E.P) (w := w) (x := x) (y := y) h1' h2' hu h
   exact same h1 (by rw [h2]; exact .im h3) h4
  ·obtain ⟨z, h1, h2, h3, h4⟩ := binV_sound (P := E.P) (w := w) (t := t) (x := x) (y := y) (hρ x) (hρ y) (fun ht => by
    unfold isBoolT at ht
    split at ht
    ·assumption
    ·cases ht) h
   exact same h1 (by rw [h2]; exact .im h3) h4
 case unOp op t x =>
  obtain ⟨z, h1, h2, h3, h4⟩ := unV_sound (P := E.P) (w := w) (hρ x) h
  exact same h1 (by rw [h2]; exact .im h3) h4
 case convert st d x =>
  obtain ⟨z, w', h1, h2⟩ := conv_sound hO (hρ x) h
  exact run_value (o := o) h1 h2
 case makeFunc fn first caps =>
  cases fn
  case func f =>
   dsimp only at h
   cases hf : first.isEmpty with
   | false => rw [hf] at h; cases h
   | true =>
    rw [hf] at h
    obtain rfl := ret_run h
    rw [Array.isEmpty_iff] at hf
    subst hf
    refine .value (x := .func (.func f) #[] (caps.map ρ')) (w' := w) (by simp [Instr.makeFunc]) (Post.same hO (.fn (by simp) fun i v x hv hx => ?_))
    rw [List.getElem?_map, Option.map_eq_some_iff] at hv
    obtain ⟨p, hp, rfl⟩ := hv
    rw [Array.getElem?_map, ← Array.getElem?_toList, hp] at hx
    obtain rfl := Option.some.inj hx
    exact hρ p
  all_goals cases h
 case makeSlice t l c =>
  obtain ⟨z, w', h1, h2⟩ := makeSlice_sound hO (hρ l) (hρ c) h
  exact run_value (o := o) h1 h2
 case slice t x lo hi mx =>
  have op : ∀ z : Option Operand, RepOp (vers s) β (z.map ρ) (z.map ρ') := by
   intro z
   cases z with
   | none => exact .nn
   | some z => exact .ss (hρ z)
  split at h
  ·rename_i hu
   cases hx : ρ x with
   | im y =>
    rw [hx] at h
    obtain ⟨z, h1, h2, h3⟩ := cutV_sound (P := E.P) (w := w) (t := t) (.inl ⟨hu, y, rfl⟩) (op lo) (op hi) (op mx) (hx ▸ hρ x) h
    exact same h1 h2 h3
   | _ => rw [hx] at h; cases h
  ·rename_i e hu
   unfold cutH at h
   split at h
   ·rename_i hv mv ehi emx
    obtain ⟨hh, rfl, rfl⟩ : ∃ hh, hi = some hh ∧ hv = ρ hh := by cases hi with
     | none => cases ehi
     | some q => exact ⟨q, rfl, (Option.some.inj ehi).symm⟩
    obtain ⟨mm, rfl, rfl⟩ : ∃ mm, mx = some mm ∧ mv = ρ mm := by cases mx with
     | none => cases emx
     | some q => exact ⟨q, rfl, (Option.some.inj emx).symm⟩
    cases hue : hasU E.P e with
    | false => rw [hue] at h; cases h
    | true =>
     rw [hue, cond_true] at h
     obtain ⟨z, w', h1, h2⟩ := cut0_sound (P := E.P) hu (Option.isSome_iff_exists.1 hue) hO (op lo) (hρ hh) (hρ mm) (hρ x) h
     exact run_value (o := o) h1 h2
   ·cases hue : hasU E.P e with
    | false => rw [hue] at h; cases h
    | true =>
     rw [hue, cond_true] at h
     cases hx : ρ x with
     | im y => rw [hx] at h; cases h
     | _ =>
      rw [hx] at h
      obtain ⟨z, h1, h2, h3⟩ := cutV_sound (P := E.P) (w := w) (t := t) (.inr ⟨⟨e, hu, hue, rfl⟩, fun y hy => by cases hy⟩) (op lo) (op hi) (op mx) (hx ▸ hρ x) h
      exact same h1 h2 h3
  ·cases h
 case fieldAddr st x k =>
  split at h
  ·rename_i off n agg id sz i j hf hx
   obtain ⟨hc, h2⟩ := chk_run h
   obtain rfl := ret_run h2
   have hn : 0 < n := by simpa [Nat.blt_eq] using hc
   have hr := hρ x
   rw [hx] at hr
   generalize ρ' x = y at hr
   cases hr with
   | ptb hv hb => exact same (fieldAddr_run hf hn _ _) (.ptb hv hb) rfl
   | pts hv hb hi => exact same (fieldAddr_run hf hn _ _) (by rw [Nat.add_assoc]; exact .pts hv hb hi) rfl
  ·cases h
 case field st x k =>
  split at h
  ·rename_i off n agg vs hf hx
   obtain ⟨hc, h2⟩ := chk_run h
   obtain rfl := ret_run h2
   rw [Bool.and_eq_true, Bool.or_eq_true] at hc
   have hle := Nat.le_of_ble_eq_true hc.1
   have hr := hρ x
   rw [hx] at hr
   generalize ρ' x = y at hr
   cases hr with
   | ag hl hff hrr =>
    rename_i xs
    obtain ⟨fs, f, hu, hfs, rfl, rfl, rfl, hd⟩ := fieldOf_spec hf
    have hag := hc.2.imp id beq_eq
    obtain ⟨z, hz, za, zb⟩ := part_run (P := E.P) (w := w) hd (xs := xs) (off := f.offset) (by omega) hag
    refine same (z := z) ?_ (wrap_rep hl hff hrr (by omega) hag za zb) rfl
    simp only [Instr.field, Sem.run_bind, run_underlying hu, Result.andThen_ok, hfs, asAgg, Sem.run_pure, hz]
  ·cases h
 case indexAddr t x i =>
  obtain ⟨z, h1, h2, h3⟩ := indexAddr_sound (P := E.P) (w := w) (hρ x) (hρ i) h
  exact same h1 h2 h3
 case index t x i =>
  obtain ⟨z, h1, h2, h3⟩ := index_sound (P := E.P) (w := w) (hρ x) (hρ i) h
  exact same h1 h2 h3
 case makeMap t m =>
  cases m with
  | some m => cases h
  | none =>
   obtain ⟨z, w', h1, h2⟩ := makeMap_sound hO h
   exact run_value (o := o) h1 h2
 case lookup t m k ok =>
  obtain ⟨z, h1, h2, h3⟩ := lookup_sound hO (hρ m) (hρ k) h
  exact same h1 h2 h3
 case mapUpdate t m k x =>
  obtain ⟨w', h1, h2⟩ := update_sound hO (hρ m) (hρ k) (hρ x) h
  exact .skip (by simp only [Sem.run_bind, h1, Result.andThen_ok, Sem.run_pure]) (h2 _)
 case insert t m k x =>
  obtain ⟨w', h1, h2⟩ := update_sound hO (hρ m) (hρ k) (hρ x) h
  exact .skip (by simp only [Sem.run_bind, h1, Result.andThen_ok, Sem.run_pure]) (h2 _)
 case extract t i =>
  split at h
  ·rename_i vs ht
   obtain ⟨hc, h2⟩ := chk_run h
   obtain rfl := ret_run h2
   have hr := hρ t
   rw [ht] at hr
   generalize ρ' t = y at hr
   cases hr with
   | tu hl hrr =>
    rename_i xs
    have hi : i < vs.length := by simpa [Nat.blt_eq] using hc
    refine same (z := xs[i]) ?_ ?_ rfl
    ·simp only [Instr.extract, Array.getElem?_eq_getElem (show i < xs.size by omega)]; rfl
    ·simp only [List.getD_eq_getElem?_getD, List.getElem?_eq_getElem hi, Option.getD_some]
     exact hrr i _ _ (List.getElem?_eq_getElem hi) (Array.getElem?_eq_getElem (by omega))
  ·cases h
 case call c =>
  cases hcal : c.callee with
  | invoke a b => rw [hcal] at h; cases h
  | value g =>
   rw [hcal] at h
   dsimp only at h
   split at h
   ·rename_i f caps hg
    have := hcall c g f caps rfl hcal hg h
    simpa only [execOp, hop] using this
   ·cases h
  | builtin b =>
   simp only [resolve, hcal]
   cases b
   all_goals simp only [hcal] at h
   case clear =>
    cases hsz : Nat.beq c.args.size 1 with
    | false => rw [hsz] at h; cases h
    | true =>
     rw [hsz, cond_true] at h
     have h2 := beq_eq hsz
     obtain ⟨w', h1, hp⟩ := clear_sound (P := E.P) (ty := o.type) hO (hρ _) h
     refine .value (x := .tuple #[]) (w' := w') ?_ hp
     have ea : c.args.map ρ' = #[ρ' (c.args.getD 0 (.func 0))] := by
      apply Array.ext
      ·simp [h2]
      ·intro i h3 h4
       simp only [Array.size_map, h2] at h3
       match i, h3 with
       | 0, _ => simp [Array.getD, h2]
     rw [ea]
     simp only [Sem.run_bind, Sem.run_pure, Result.andThen_ok, invoke, builtin, h1]
   case append =>
    cases hsz : Nat.beq c.args.size 2 with
    | false => rw [hsz] at h; cases h
    | true =>
     rw [hsz, cond_true] at h
     have h2 := beq_eq hsz
     obtain ⟨z, w', h1, hp⟩ := appendAny_sound (P := E.P) (ty := o.type) hO (hρ _) (hρ _) h
     refine .value (x := z) (w' := w') ?_ hp
     have ea : c.args.map ρ' = #[ρ' (c.args.getD 0 (.func 0)), ρ' (c.args.getD 1 (.func 0))] := by
      apply Array.ext
      ·simp [h2]
      ·intro i h3 h4
       simp only [Array.size_map, h2] at h3
       match i, h3 with
       | 0, _ => simp [Array.getD, h2]
       | 1, _ => simp [Array.getD, h2]
     rw [ea]
     simp only [Sem.run_bind, Sem.run_pure, Result.andThen_ok, invoke, builtin, h1]
   case len =>
    obtain ⟨hc, h2⟩ := chk_run h
    rw [Bool.and_eq_true] at hc
    have hsz := beq_eq hc.1
    have hts : 0 < c.argTypes.size := by simpa [Nat.blt_eq] using hc.2
    have e1 : c.argTypes[0]? = some (c.argTypes.getD 0 0) := by simp [Array.getD, hts, Array.getElem?_eq_getElem]
    have e2 : (c.args.map ρ')[0]? = some (ρ' (c.args.getD 0 (.func 0))) := by simp [Array.getD, hsz, Array.getElem?_eq_getElem]
    have hx := hρ (c.args.getD 0 (.func 0))
    have fin : ∀ {n : Int}, (Builtin.len_ c.argTypes o.type (c.args.map ρ')).run E.P w = .ok (goInt n) w → r = (.im (.int .i64 n), s, fp) →
      Runs E.P ((do let d ← (pure { target := .builtin .len c.argTypes o.type (c.args.map fun | .const _ => true | _ => false), args := c.args.map ρ' } : Sem Deferred); invoke d.target d.args : Sem Next).run E.P w) (Post X FZ β s w r.1 r.2.1) := by
     intro n hn hr
     refine .value (x := goInt n) (w' := w) ?_ (by rw [hr]; exact Post.same hO (.im trivial))
     simp only [Sem.run_bind, Sem.run_pure, Result.andThen_ok, invoke, builtin, hn]
    split at h2
    ·rename_i e id e' off len sz hu hv
     rw [hv] at hx
     refine fin (n := len) ?_ (ret_run h2)
     simp only [Builtin.len_, e1, e2, Sem.run_bind, run_underlying hu, Result.andThen_ok]
     generalize ρ' (c.args.getD 0 (.func 0)) = y at hx
     cases hx <;> rfl
    ·rename_i e sz hu hv
     rw [hv] at hx
     refine fin (n := 0) ?_ (ret_run h2)
     simp only [Builtin.len_, e1, e2, Sem.run_bind, run_underlying hu, Result.andThen_ok]
     generalize ρ' (c.args.getD 0 (.func 0)) = y at hx
     cases hx; rfl
    ·rename_i st hu hv
     rw [hv] at hx
     refine fin (n := st.size) ?_ (ret_run h2)
     simp only [Builtin.len_, e1, e2, Sem.run_bind, run_underlying hu, Result.andThen_ok, rep_im hx]
     rfl
    ·rename_i n el hu
     refine fin (n := n) ?_ (ret_run h2)
     simp only [Builtin.len_, e1, e2, Sem.run_bind, run_underlying hu, Result.andThen_ok]
     rfl
    ·cases h2
   case cap =>
    obtain ⟨hc, h2⟩ := chk_run h
    rw [Bool.and_eq_true] at hc
    have hsz := beq_eq hc.1
    have hts : 0 < c.argTypes.size := by simpa [Nat.blt_eq] using hc.2
    have e1 : c.argTypes[0]? = some (c.argTypes.getD 0 0) := by simp [Array.getD, hts, Array.getElem?_eq_getElem]
    have e2 : (c.args.map ρ')[0]? = some (ρ' (c.args.getD 0 (.func 0))) := by simp [Array.getD, hsz, Array.getElem?_eq_getElem]
    have hx := hρ (c.args.getD 0 (.func 0))
    split at h2
    ·rename_i e sz hu hv
     rw [hv] at hx
     have hn : (Builtin.cap_ c.argTypes o.type (c.args.map ρ')).run E.P w = .ok (goInt 0) w := by
      simp only [Builtin.cap_, e1, e2, Sem.run_bind, run_underlying hu, Result.andThen_ok]
      generalize ρ' (c.args.getD 0 (.func 0)) = y at hx
      cases hx; rfl
     obtain rfl := ret_run h2
     refine .value (x := goInt 0) (w' := w) ?_ (Post.same hO (.im trivial))
     simp only [Sem.run_bind, Sem.run_pure, Result.andThen_ok, invoke, builtin, hn]
    ·cases h2
   case min =>
    simp only [Sem.run_bind, Sem.run_pure, Result.andThen_ok, invoke]
    exact minMax_step hO hρ (mx := false) (m := builtin .min c.argTypes o.type _) (fun xs x rest e => by simp only [Sem.run_bind, Sem.run_pure, Result.andThen_ok, builtin, Builtin.min_, e]; rfl) h
   case max =>
    simp only [Sem.run_bind, Sem.run_pure, Result.andThen_ok, invoke]
    exact minMax_step hO hρ (mx := true) (m := builtin .max c.argTypes o.type _) (fun xs x rest e => by simp only [Sem.run_bind, Sem.run_pure, Result.andThen_ok, builtin, Builtin.max_, e]; rfl) h
   all_goals cases h
end Go.Vm
namespace Go.Vm
set_option linter.unusedVariables false
set_option linter.unusedSimpArgs false
variable {P : Program} {X : Cx} {FZ : Nat → Prop} {β β' : Nat → Value} {s s' : Objs} {w : World} {v : V} {fp fp' : List (Bool × Nat)} {pend : List (T × Value)}
def Ext (s : Objs) (β : Nat → Value) (s' : Objs) (β' : Nat → Value) : Prop := ∀ i, 1 ≤ (s i).ver → 1 ≤ (s' i).ver ∧ β' i = β i
theorem Ext.refl (s : Objs) (β : Nat → Value) : Ext s β s β := fun i hi => ⟨hi, rfl⟩
theorem Ext.trans {s1 s2 s3 : Objs} {β1 β2 β3 : Nat → Value} (h : Ext s1 β1 s2 β2) (h' : Ext s2 β2 s3 β3) : Ext s1 β1 s3 β3 := fun i hi =>
 ⟨(h' i (h i hi).1).1, ((h' i (h i hi).1).2).trans (h i hi).2⟩
theorem RepV.ext {x : Value} (h : RepV (vers s) β v x) (e : Ext s β s' β') : RepV (vers s') β' v x := h.up (fun i hi => (e i hi).1) (fun i hi => (e i hi).2)
theorem Ext.ver {s s' : Objs} (β : Nat → Value) (h : ∀ i, (s i).ver ≤ (s' i).ver) : Ext s β s' β := fun i hi => ⟨Nat.le_trans hi (h i), rfl⟩
def updT (β : Nat → Value) (q : Nat) (t : T) (x : Value) : Nat → Value :=
 match unO t with
 | some _ => upd β q x
 | none => β
def updL (β : Nat → Value) (n : Nat) : List T → List Value → Nat → Value
 | t :: ts, x :: xs => updT (updL β (n + 1) ts xs) n t x
 | _, _ => β
theorem OK.placeT {t : T} {x : Value} {q : Nat} (h : OK X w FZ β s (pend ++ [(t, x)])) (hz : q ≠ 7) (hq : (s q).ver = 0) :
  OK X w FZ (updT β q t x) (putT q t s) pend ∧ Ext s β (putT q t s) (updT β q t x) ∧ RepV (vers (putT q t s)) (updT β q t x) (unT q t) x := by
 have hp : Ow w X.RO FZ t x := h.pow pend.length (t, x) (by simp)
 have ht : OK X w FZ β s pend := by
  have := h.take pend.length
  simpa using this
 cases t with
 | im v =>
  refine ⟨ht, Ext.refl _ _, ?_⟩
  cases hp with
  | im hf => exact .im hf
 | no => exact ⟨ht, Ext.refl _ _, .no⟩
 | sl f sz rs =>
  refine ⟨OK.place h hq, ext_new hq _ _, ?_⟩
  show RepV (vers (putS s q true (some (.rows f sz rs)))) (upd β q x) (.sl q true 0 (sLen rs) sz) x
  rw [sLen_eq]
  exact head_rep hz (by show 1 ≤ (putS s q true _ q).ver; rw [putS_bump]; omega) (upd_same _ _ _) hp.im'
theorem putT_ne (s : Objs) {i q : Nat} (t : T) (h : i ≠ q) : putT q t s i = s i := by
 unfold putT
 cases unO t with
 | some o => exact putS_ne _ _ _ h
 | none => rfl
theorem putL_ne : ∀ (ts : List T) (n : Nat) (s : Objs) {i : Nat}, (i < n ∨ n + ts.length ≤ i) → putL n ts s i = s i
 | [], _, _, _, _ => rfl
 | t :: ts, n, s, i, h => by
  simp only [List.length_cons] at h
  rw [putL, putT_ne _ _ (by omega), putL_ne ts (n + 1) s (by omega)]
theorem unL_length : ∀ (ts : List T) (n : Nat), (unL n ts).length = ts.length
 | [], _ => rfl
 | t :: ts, n => by simp [unL, unL_length ts]
theorem OK.placeL : ∀ (ts : List T) (xs : List Value) (n : Nat) {pend : List (T × Value)}, 7 < n → xs.length = ts.length → OK X w FZ β s (pend ++ ts.zip xs) → (∀ i, n ≤ i → i < n + ts.length → (s i).ver = 0) →
  OK X w FZ (updL β n ts xs) (putL n ts s) pend ∧ Ext s β (putL n ts s) (updL β n ts xs) ∧ ∀ (i : Nat) (v : V) (x : Value), (unL n ts)[i]? = some v → xs[i]? = some x → RepV (vers (putL n ts s)) (updL β n ts xs) v x
 | [], [], n, pend, _, _, h, _ => ⟨by simpa [updL, putL] using h, Ext.refl _ _, fun i v x hv => by simp [unL] at hv⟩
 | t :: ts, x :: xs, n, pend, hz, hl, h, hq => by
  simp only [List.length_cons] at hq
  have h' : OK X w FZ β s ((pend ++ [(t, x)]) ++ ts.zip xs) := by simpa using h
  obtain ⟨h1, e1, r1⟩ := OK.placeL ts xs (n + 1) (by omega) (by simpa using hl) h' (fun i h1 h2 => hq i (by omega) (by omega))
  have hn : ((putL (n + 1) ts s) n).ver = 0 := by rw [putL_ne _ _ _ (by omega)]; exact hq n (by omega) (by omega)
  obtain ⟨h2, e2, r2⟩ := h1.placeT (by omega) hn
  refine ⟨h2, e1.trans e2, fun i v y hv hy => ?_⟩
  cases i with
  | zero =>
   simp only [unL, List.getElem?_cons_zero, Option.some.injEq] at hv hy
   subst hv hy
   exact r2
  | succ i =>
   simp only [unL, List.getElem?_cons_succ] at hv hy
   exact (r1 i v y hv hy).ext e2
theorem placeL_name : ∀ (ts : List T) (xs : List Value) (n : Nat) (s : Objs) (β : Nat → Value) (i : Nat) {f : Fl} {sz : Nat} {rs : List (List T)} {x : Value}, ts[i]? = some (.sl f sz rs) → xs[i]? = some x →
  1 ≤ (putL n ts s (n + i)).ver ∧ updL β n ts xs (n + i) = x
 | [], _, _, _, _, _, _, _, _, _, h, _ => by simp at h
 | _ :: _, [], _, _, _, _, _, _, _, _, _, h => by simp at h
 | t :: ts, y :: xs, n, s, β, 0, f, sz, rs, x, h1, h2 => by
  simp only [List.getElem?_cons_zero, Option.some.injEq] at h1 h2
  subst h1 h2
  exact ⟨by show 1 ≤ (putS _ n true _ n).ver; rw [putS_bump]; omega, upd_same _ _ _⟩
 | t :: ts, y :: xs, n, s, β, i + 1, f, sz, rs, x, h1, h2 => by
  simp only [List.getElem?_cons_succ] at h1 h2
  obtain ⟨a, b⟩ := placeL_name ts xs (n + 1) s β i h1 h2
  rw [show n + (i + 1) = n + 1 + i by omega]
  refine ⟨by rw [putL, putT_ne _ _ (by omega)]; exact a, ?_⟩
  rw [updL, updT]
  cases unO t with
  | some o => exact (upd_ne _ _ (by omega)).trans b
  | none => exact b
theorem noRoRs_mem : ∀ {rs : List (List T)}, noRoRs rs = true → ∀ r ∈ rs, noRoR r = true
 | [], _, r, hr => by simp at hr
 | r0 :: rs, h, r, hr => by
  rw [noRoRs, Bool.and_eq_true] at h
  rcases List.mem_cons.1 hr with rfl | hr
  ·exact h.1
  ·exact noRoRs_mem h.2 r hr
theorem noRoR_mem : ∀ {r : List T}, noRoR r = true → ∀ t ∈ r, t.noRo = true
 | [], _, r, hr => by simp at hr
 | r0 :: rs, h, r, hr => by
  rw [noRoR, Bool.and_eq_true] at h
  rcases List.mem_cons.1 hr with rfl | hr
  ·exact h.1
  ·exact noRoR_mem h.2 r hr
theorem noRo_at {rs : List (List T)} (h : noRoRs rs = true) {i j : Nat} {t : T} (ht : At rs i j t) : t.noRo = true := by
 obtain ⟨r, hr, hj⟩ := ht
 exact noRoR_mem (noRoRs_mem h r (List.mem_of_getElem? hr)) t (List.mem_of_getElem? hj)
theorem Ow.noRo {RO RO' FZ : Nat → Prop} {t : T} {x : Value} (h : Ow w RO FZ t x) : t.noRo = true → Ow w RO' FZ t x := by
 induction h with
 | im h => exact fun _ => .im h
 | no h => exact fun _ => .no h
 | nil => exact fun _ => .nil
 | emp => exact fun _ => .emp
 | ro h => intro hn; rw [T.noRo] at hn; cases hn
 | fz h => exact fun _ => .fz h
 | own h0 hr hl hb hw hc hn hd ih =>
  intro hno
  rw [T.noRo] at hno
  exact .own h0 hr hl hb hw (fun i j t v ht hv => ih i j t v ht hv (noRo_at hno ht)) hn hd
end Go.Vm
namespace Go.Vm
set_option linter.unusedVariables false
set_option linter.unusedSimpArgs false
variable {P : Program} {X X' : Cx} {FZ FZ' : Nat → Prop} {β β' : Nat → Value} {s s' : Objs} {w w' : World} {v : V} {fp fp' : List (Bool × Nat)} {pend L : List (T × Value)}
def Blank (β : Nat → Value) (s : Objs) (id b : Nat) (n : Nat) : Prop :=
 β id = .pointer (some ⟨b, 0, none⟩) ∧ ∃ cells : List V, (s id).o = some (.box false cells) ∧ cells.length = n ∧ ∀ (j : Nat) (v : V), cells[j]? = some v → v = .no
theorem Blank.bl {id b n : Nat} (h : Blank β s id b n) : Bl w β s pend (.inl id) b := by
 obtain ⟨hb, cells, ho, _, _⟩ := h
 exact ⟨_, ho, rfl, hb⟩
theorem OK.worldB {Hd : Nat → Prop} (h : OK X w FZ β s pend)
  (he : ∀ b, Rd X w FZ β s pend b → w'.heap[b]? = w.heap[b]? ∨ ∃ id n, Hd id ∧ Blank β s id b n)
  (hB : ∀ id b n, Hd id → Blank β s id b n → ∃ c, Row w' b c ∧ c.size = n ∧ ∀ (j : Nat) (x : Value), c[j]? = some x → flat x) (hs : w.heap.size ≤ w'.heap.size) :
  OK X w' FZ β s pend ∧ ∀ u b, Bl w' β s pend u b → Bl w β s pend u b := by
 have eR : ∀ b, X.RO b → w'.heap[b]? = w.heap[b]? := fun b hb => by
  rcases he b (.inr (.inl hb)) with e | ⟨id, n, hd, hbl⟩
  ·exact e
  ·exact absurd hb (h.sep (.inl id) b hbl.bl).1
 have eF : ∀ b, FZ b → w'.heap[b]? = w.heap[b]? := fun b hb => by
  rcases he b (.inr (.inr hb)) with e | ⟨id, n, hd, hbl⟩
  ·exact e
  ·exact absurd hb (h.sep (.inl id) b hbl.bl).2.1
 have eO : ∀ id o, (s id).o = some o → (∀ ro cells, o ≠ .box ro cells) → ∀ b, OB w β id o b → w'.heap[b]? = w.heap[b]? := fun id o ho hne b hb => by
  rcases he b (.inl ⟨.inl id, o, ho, hb⟩) with e | ⟨id', n, hd, hbl⟩
  ·exact e
  ·by_cases e : id = id'
   ·subst e
    obtain ⟨_, cells, ho', _⟩ := hbl
    rw [ho] at ho'
    exact absurd (Option.some.inj ho') (hne _ _)
   ·exact absurd hbl.bl (h.apart (.inl id) (.inl id') b (by simpa using e) ⟨o, ho, hb⟩)
 have eP : ∀ (k : Nat) p, pend[k]? = some p → ∀ b, Blk w p.1 p.2 b → w'.heap[b]? = w.heap[b]? := fun k p hp b hb => by
  rcases he b (.inl ⟨.inr k, p, hp, hb⟩) with e | ⟨id', n, hd, hbl⟩
  ·exact e
  ·exact absurd hbl.bl (h.apart (.inr k) (.inl id') b (by simp) ⟨p, hp, hb⟩)
 have back : ∀ u b, Bl w' β s pend u b → Bl w β s pend u b := by
  rintro (id | k) b ⟨o, ho, hb⟩
  ·refine ⟨o, ho, ?_⟩
   cases o with
   | box ro cells => exact hb
   | rows f sz rs => exact Blk.back hb (eO id _ ho (by simp))
   | link => exact hb
   | mp => exact hb
  ·exact ⟨o, ho, Blk.back hb (eP k _ ho)⟩
 refine ⟨⟨?_, ?_, ?_, ?_, h.ro, fun b hb => Nat.lt_of_lt_of_le (h.fz b hb) hs, Nat.le_trans h.n0 hs, h.live, fun b hb => ⟨(h.gl.1 b hb).1, (eR b (h.gl.1 b hb).1).trans (h.gl.1 b hb).2⟩, h.gl.2⟩, back⟩
 ·intro id o ho
  have hr := h.rep id o ho
  cases o with
  | box ro cells =>
   obtain ⟨b, c, hb, hrow, hl, hc, hro⟩ := hr
   cases ro with
   | true => exact ⟨b, c, hb, hrow.of_eq (eR b (hro rfl)), hl, hc, hro⟩
   | false =>
    rcases he b (.inl ⟨.inl id, _, ho, rfl, hb⟩) with e | ⟨id', n, hd, hbl⟩
    ·exact ⟨b, c, hb, hrow.of_eq e, hl, hc, hro⟩
    ·have : id' = id := by
      by_cases e : id' = id
      ·exact e
      ·exact absurd (show Bl w β s pend (.inl id) b from ⟨_, ho, rfl, hb⟩) (h.apart (.inl id') (.inl id) b (by simpa using e) hbl.bl)
     subst this
     obtain ⟨c', hc', hn, hfl⟩ := hB _ _ _ hd hbl
     obtain ⟨_, cells', ho', hl', hno⟩ := hbl
     rw [ho] at ho'
     injection ho' with ho'
     injection ho' with _ ho'
     subst ho'
     refine ⟨b, c', hb, hc', by omega, fun j v x hj hx => ?_, hro⟩
     rw [hno j v hj]
     exact ⟨.no, hfl j x hx⟩
  | rows f sz rs => exact Ow.of_eq hr (fun _ h => h) (fun _ h => h) eR eF (eO id _ ho (by simp))
  | mp kf vf rs =>
   obtain ⟨b, hb, hm⟩ := hr
   exact ⟨b, hb, hm.of_eq (eO id _ ho (by simp) b hb)⟩
  | link x ver i j =>
   refine ⟨hr.1, hr.2.1, fun hv f sz rs hx => ?_⟩
   obtain ⟨ht, b, o, n, cap, c, hbx, hrow, hc⟩ := hr.2.2 hv f sz rs hx
   refine ⟨ht, b, o, n, cap, c, hbx, hrow.of_eq ?_, hc⟩
   have hx' : Ow w X.RO FZ (.sl f sz rs) (β x) := h.rep x _ hx
   rw [hbx] at hx'
   rcases (Ow.head hx' (Ow.pos hx' ht)).2.2 with hh | hh | hh
   ·exact eO x _ hx (by simp) b (by show Blk w _ (β x) b; rw [hbx]; exact hh)
   ·exact eR b hh
   ·exact eF b hh
 ·exact fun k p hp => Ow.of_eq (h.pow k p hp) (fun _ h => h) (fun _ h => h) eR eF (eP k p hp)
 ·exact fun u u' b hne hb hb' => h.apart u u' b hne (back _ _ hb) (back _ _ hb')
 ·exact fun u b hb => h.sep u b (back _ _ hb)
theorem OK.moreFz (h : OK X w FZ β s pend) (hF : ∀ b, FZ b → FZ' b) (hs : ∀ u b, Bl w β s pend u b → ¬ FZ' b) (hl : ∀ b, FZ' b → b < w.heap.size) : OK X w FZ' β s pend := by
 refine ⟨fun id o ho => ?_, fun k p hp => (h.pow k p hp).of_eq (fun _ h => h) hF (fun _ _ => rfl) (fun _ _ => rfl) (fun _ _ => rfl), h.apart, fun u b hb => ⟨(h.sep u b hb).1, hs u b hb, (h.sep u b hb).2.2⟩, h.ro, hl, h.n0, h.live, h.gl⟩
 have hr := h.rep id o ho
 cases o with
 | box => exact hr
 | rows => exact Ow.of_eq hr (fun _ h => h) hF (fun _ _ => rfl) (fun _ _ => rfl) (fun _ _ => rfl)
 | link => exact hr
 | mp => exact hr
theorem OK.back {Hd : Nat → Prop} (h : OK X w FZ β s pend) (hn : X'.n0 = w.heap.size) (hR : ∀ b, X.RO b → X'.RO b)
  (hW : ∀ b, X'.W b → (∃ k, Bl w β s pend (.inr k) b) ∨ ∃ id n, Hd id ∧ Blank β s id b n)
  {βc : Nat → Value} {sB : Objs} (hc : OK X' w' FZ' βc sB L) (wd : Wd X' FZ FZ' w w')
  (hB : ∀ id b n, Hd id → Blank β s id b n → ∃ q, Blank βc sB q b n)
  (hL : ∀ (k : Nat) p, L[k]? = some p → Ow w' X.RO FZ' p.1 p.2) : OK X w' FZ' β s L := by
 have h0 : OK X w FZ β s [] := by simpa using h.take 0
 have bl0 : ∀ {id b}, Bl w β s [] (.inl id) b → Bl w β s pend (.inl id) b := fun h => h
 have notW : ∀ {id b}, Bl w β s [] (.inl id) b → X'.W b → ∃ n, Hd id ∧ Blank β s id b n := by
  intro id b hb hw
  rcases hW b hw with ⟨k, hk⟩ | ⟨id', n, hd, hbl⟩
  ·exact absurd hk (h.apart _ _ b (by simp) (bl0 hb))
  ·by_cases e : id' = id
   ·subst e; exact ⟨n, hd, hbl⟩
   ·exact absurd hbl.bl (h.apart _ _ b (by simpa using fun e' => e e'.symm) (bl0 hb))
 have rowB : ∀ id b n, Hd id → Blank β s id b n → ∃ c, Row w' b c ∧ c.size = n ∧ ∀ (j : Nat) (x : Value), c[j]? = some x → flat x := by
  intro id b n hd hbl
  obtain ⟨q, hp, cells, ho, hl, hno⟩ := hB id b n hd hbl
  obtain ⟨b', c, hb', hr, hs, hcc, _⟩ := hc.rep q _ ho
  rw [hp] at hb'
  injection hb' with hb'
  injection hb' with hb'
  injection hb' with hb' _ _
  subst hb'
  refine ⟨c, hr, by omega, fun j x hx => ?_⟩
  have hj := (Array.getElem?_eq_some_iff.1 hx).1
  exact (hcc j _ x (List.getElem?_eq_getElem (by omega)) hx).2
 have lt : ∀ {b}, Rd X w FZ β s [] b → b < w.heap.size := fun h => h0.rd_lt h
 obtain ⟨h1, back⟩ := h0.worldB (w' := w') (fun b hb => by
  by_cases hw : X'.W b
  ·rcases hb with ⟨u, hu⟩ | hb | hb
   ·rcases u with id | k
    ·obtain ⟨n, hd, hbl⟩ := notW hu hw
     exact .inr ⟨id, n, hd, hbl⟩
    ·obtain ⟨p, hp, _⟩ := hu
     simp at hp
   ·exact absurd hw (hc.ro b (hR b hb)).2
   ·rcases hW b hw with ⟨k, hk⟩ | ⟨id', n, hd, hbl⟩
    ·exact absurd hb (h.sep _ b hk).2.1
    ·exact .inr ⟨id', n, hd, hbl⟩
  ·exact .inl (wd.old b (by rw [hn]; exact lt hb) hw)) rowB wd.size
 have inB : ∀ {u b}, Bl w' β s [] u b → ∃ id, u = .inl id ∧ Bl w β s [] (.inl id) b := by
  intro u b hu
  have := back u b hu
  rcases u with id | k
  ·exact ⟨id, rfl, this⟩
  ·obtain ⟨p, hp, _⟩ := this
   simp at hp
 have h2 : OK X w' FZ' β s [] := by
  refine h1.moreFz wd.fz (fun u b hu hf => ?_) hc.fz
  obtain ⟨id, rfl, hb⟩ := inB hu
  rcases wd.fz' b hf with hf' | hw | hge
  ·exact (h.sep _ b (bl0 hb)).2.1 hf'
  ·obtain ⟨n, hd, hbl⟩ := notW hb hw
   obtain ⟨q, hq⟩ := hB _ _ _ hd hbl
   exact (hc.sep (.inl q) b hq.bl).2.1 hf
  ·have := lt (.inl ⟨_, hb⟩)
   omega
 have sepL : ∀ k b, Bl w' βc sB L (.inr k) b → ¬ X.RO b ∧ ¬ FZ' b ∧ (X.W b ∨ X.n0 ≤ b) ∧ ∀ u, ¬ Bl w' β s [] u b := by
  intro k b hb
  obtain ⟨s1, s2, s3⟩ := hc.sep _ b hb
  refine ⟨fun hr => s1 (hR b hr), s2, ?_, ?_⟩
  ·rcases s3 with hw | hge
   ·rcases hW b hw with ⟨k', hk'⟩ | ⟨id', n, hd, hbl⟩
    ·exact (h.sep _ b hk').2.2
    ·exact (h.sep _ b hbl.bl).2.2
   ·have := h.n0
    exact .inr (by omega)
  ·intro u hu
   obtain ⟨id, rfl, hb0⟩ := inB hu
   rcases s3 with hw | hge
   ·obtain ⟨n, hd, hbl⟩ := notW hb0 hw
    obtain ⟨q, hq⟩ := hB _ _ _ hd hbl
    exact hc.apart (.inr k) (.inl q) b (by simp) hb hq.bl
   ·have := lt (.inl ⟨_, hb0⟩)
    omega
 refine ⟨h2.rep, hL, ?_, ?_, h2.ro, h2.fz, h2.n0, h2.live, h2.gl⟩
 ·rintro (id | k) (id' | k') b hne hb hb'
  ·exact h2.apart (.inl id) (.inl id') b hne hb hb'
  ·exact (sepL k' b hb').2.2.2 (.inl id) hb
  ·exact (sepL k b hb).2.2.2 (.inl id') hb'
  ·exact hc.apart (.inr k) (.inr k') b hne hb hb'
 ·rintro (id | k) b hb
  ·exact h2.sep (.inl id) b hb
  ·exact ⟨(sepL k b hb).1, (sepL k b hb).2.1, (sepL k b hb).2.2.1⟩
end Go.Vm
namespace Go.Vm
set_option linter.unusedVariables false
set_option linter.unusedSimpArgs false
variable {P : Program} {X X' : Cx} {FZ FZ' : Nat → Prop} {β β' : Nat → Value} {s s' : Objs} {w w' : World} {v : V} {fp fp' : List (Bool × Nat)} {pend L : List (T × Value)}
theorem OK.addBox {q b : Nat} {ro : Bool} (h : OK X w FZ β s pend) (hq : (s q).ver = 0) {cells : List V} {c : Array Value} (hr : Row w b c) (hl : c.size = cells.length)
  (hc : ∀ (j : Nat) (v : V) (x : Value), cells[j]? = some v → c[j]? = some x → RepV (vers s) β v x ∧ flat x)
  (hn : ro = false → (∀ u, ¬ Bl w β s pend u b) ∧ ¬ X.RO b ∧ ¬ FZ b ∧ (X.W b ∨ X.n0 ≤ b)) (hro : ro = true → X.RO b) :
  OK X w FZ (upd β q (.pointer (some ⟨b, 0, none⟩))) (putS s q true (some (.box ro cells))) pend := by
 have hb : ∀ i, 1 ≤ (s i).ver → upd β q (.pointer (some ⟨b, 0, none⟩)) i = β i := fun i hi => upd_ne _ _ (fun e => by subst e; omega)
 have hget : ∀ id o, (putS s q true (some (.box ro cells)) id).o = some o → (id = q ∧ o = .box ro cells) ∨ (id ≠ q ∧ (s id).o = some o) := by
  intro id o ho
  by_cases e : id = q
  ·subst e; simp at ho; exact .inl ⟨rfl, ho.symm⟩
  ·rw [putS_ne _ _ _ e] at ho; exact .inr ⟨e, ho⟩
 have hBl : ∀ u b', Bl w (upd β q (.pointer (some ⟨b, 0, none⟩))) (putS s q true (some (.box ro cells))) pend u b' →
   (u = .inl q ∧ b' = b ∧ ro = false) ∨ (u ≠ .inl q ∧ Bl w β s pend u b') := by
  rintro (id | k) b' ⟨o, ho, hbb⟩
  ·rcases hget id o ho with ⟨rfl, rfl⟩ | ⟨hne, ho⟩
   ·obtain ⟨hf, e⟩ := hbb
    simp at e
    exact .inl ⟨rfl, e.symm, hf⟩
   ·exact .inr ⟨fun e => hne (Sum.inl.inj e), ⟨o, ho, Bl.ob_upd hq h.live _ ho hbb⟩⟩
  ·exact .inr ⟨by simp, ⟨o, ho, hbb⟩⟩
 refine ⟨?_, h.pow, ?_, ?_, h.ro, h.fz, h.n0, ?_, h.gl⟩
 ·intro id o ho
  rcases hget id o ho with ⟨rfl, rfl⟩ | ⟨hne, ho⟩
  ·exact ⟨b, c, by simp, hr, hl, fun j v x hj hx => ⟨(hc j v x hj hx).1.up (fun i hi => Nat.le_trans hi (putS_ver _ _ _ _ _)) hb, (hc j v x hj hx).2⟩, hro⟩
  ·exact h.rep_new hq _ _ id o hne ho
 ·intro u u' b' hne h1 h2
  rcases hBl u b' h1 with ⟨e1, e2, hf⟩ | ⟨_, p1⟩
  ·rcases hBl u' _ h2 with ⟨e3, _⟩ | ⟨_, p2⟩
   ·exact hne (e1.trans e3.symm)
   ·exact (hn hf).1 _ (e2 ▸ p2)
  ·rcases hBl u' b' h2 with ⟨_, e2, hf⟩ | ⟨_, p2⟩
   ·exact (hn hf).1 _ (e2 ▸ p1)
   ·exact h.apart u u' b' hne p1 p2
 ·intro u b' h1
  rcases hBl u b' h1 with ⟨rfl, rfl, hf⟩ | ⟨_, h1⟩
  ·exact (hn hf).2
  ·exact h.sep u b' h1
 ·intro id o ho
  rcases hget id o ho with ⟨rfl, rfl⟩ | ⟨hne, ho⟩
  ·rw [putS_bump]; omega
  ·exact Nat.le_trans (h.live id o ho) (putS_ver _ _ _ _ _)
theorem OK.insert {a c : List (T × Value)} {t : T} {x : Value} (h : OK X w FZ β s (a ++ c)) (ho : Ow w X.RO FZ t x) (hn : ∀ b, ¬ Blk w t x b) : OK X w FZ β s (a ++ (t, x) :: c) := by
 have get : ∀ (k : Nat) p, (a ++ (t, x) :: c)[k]? = some p → (k < a.length ∧ (a ++ c)[k]? = some p) ∨ (k = a.length ∧ p = (t, x)) ∨ (a.length < k ∧ (a ++ c)[k - 1]? = some p) := by
  intro k p hk
  rcases Nat.lt_trichotomy k a.length with hlt | rfl | hgt
  ·rw [List.getElem?_append_left hlt] at hk
   exact .inl ⟨hlt, by rw [List.getElem?_append_left hlt]; exact hk⟩
  ·rw [List.getElem?_append_right (Nat.le_refl _), Nat.sub_self] at hk
   exact .inr (.inl ⟨rfl, (Option.some.inj hk).symm⟩)
  ·rw [List.getElem?_append_right (by omega)] at hk
   refine .inr (.inr ⟨hgt, ?_⟩)
   rw [List.getElem?_append_right (by omega)]
   have : k - a.length = (k - 1 - a.length) + 1 := by omega
   rw [this, List.getElem?_cons_succ] at hk
   exact hk
 have hBl : ∀ u b, Bl w β s (a ++ (t, x) :: c) u b → (∃ id, u = .inl id ∧ Bl w β s (a ++ c) u b) ∨ (∃ k, u = .inr k ∧ k < a.length ∧ Bl w β s (a ++ c) (.inr k) b) ∨ (∃ k, u = .inr k ∧ a.length < k ∧ Bl w β s (a ++ c) (.inr (k - 1)) b) := by
  rintro (id | k) b ⟨o, ho, hb⟩
  ·exact .inl ⟨id, rfl, o, ho, hb⟩
  ·rcases get k o ho with ⟨hlt, hk⟩ | ⟨rfl, rfl⟩ | ⟨hgt, hk⟩
   ·exact .inr (.inl ⟨k, rfl, hlt, o, hk, hb⟩)
   ·exact absurd hb (hn b)
   ·exact .inr (.inr ⟨k, rfl, hgt, o, hk, hb⟩)
 refine ⟨h.rep, fun k p hk => ?_, fun u u' b hne h1 h2 => ?_, fun u b h1 => ?_, h.ro, h.fz, h.n0, h.live, h.gl⟩
 ·rcases get k p hk with ⟨_, hk⟩ | ⟨_, rfl⟩ | ⟨_, hk⟩
  ·exact h.pow _ p hk
  ·exact ho
  ·exact h.pow _ p hk
 ·rcases hBl u b h1 with ⟨id, rfl, p1⟩ | ⟨k, rfl, hk, p1⟩ | ⟨k, rfl, hk, p1⟩ <;> rcases hBl u' b h2 with ⟨id', rfl, p2⟩ | ⟨k', rfl, hk', p2⟩ | ⟨k', rfl, hk', p2⟩
  ·exact h.apart _ _ b hne p1 p2
  ·exact h.apart _ _ b (by simp) p1 p2
  ·exact h.apart _ _ b (by simp) p1 p2
  ·exact h.apart _ _ b (by simp) p1 p2
  ·exact h.apart _ _ b hne p1 p2
  ·exact h.apart _ _ b (fun e => by injection e; omega) p1 p2
  ·exact h.apart _ _ b (by simp) p1 p2
  ·exact h.apart _ _ b (fun e => by injection e; omega) p1 p2
  ·exact h.apart _ _ b (fun e => hne (by injection e; congr 1; omega)) p1 p2
 ·rcases hBl u b h1 with ⟨id, rfl, p1⟩ | ⟨k, rfl, hk, p1⟩ | ⟨k, rfl, hk, p1⟩
  ·exact h.sep _ b p1
  ·exact h.sep _ b p1
  ·exact h.sep _ b p1
theorem OK.enter {A W' : Nat → Prop} (h : OK X w FZ β s pend) (hA : ∀ b, X.RO b → A b) (hA' : ∀ b, A b → b < w.heap.size ∧ ¬ W' b) (hW : ∀ k b, Bl w β s pend (.inr k) b → W' b) (β0 : Nat → Value) :
  OK ⟨A, W', w.heap.size, X.gw⟩ w FZ β0 (fun _ => ⟨0, none⟩) pend := by
 have hB : ∀ u b, Bl w β0 (fun _ => ⟨0, none⟩) pend u b → ∃ k, u = .inr k ∧ Bl w β s pend (.inr k) b := by
  rintro (id | k) b ⟨o, ho, hb⟩
  ·cases ho
  ·exact ⟨k, rfl, o, ho, hb⟩
 have no : ∀ {o}, (none : Option O) = some o → False := fun h => nomatch h
 refine ⟨fun id o ho => (no ho).elim, fun k p hk => (h.pow k p hk).of_eq hA (fun _ h => h) (fun _ _ => rfl) (fun _ _ => rfl) (fun _ _ => rfl), fun u u' b hne h1 h2 => ?_, fun u b h1 => ?_, hA', h.fz, Nat.le_refl _, fun id o ho => (no ho).elim, fun b hb => ⟨hA b (h.gl.1 b hb).1, (h.gl.1 b hb).2⟩, h.gl.2⟩
 ·obtain ⟨k, rfl, p1⟩ := hB u b h1
  obtain ⟨k', rfl, p2⟩ := hB u' b h2
  exact h.apart _ _ b hne p1 p2
 ·obtain ⟨k, rfl, p1⟩ := hB u b h1
  exact ⟨fun hb => (hA' b hb).2 (hW k b p1), (h.sep _ b p1).2.1, .inl (hW k b p1)⟩
inductive Merge (w : World) (A FZ : Nat → Prop) : List (T × Value) → List (T × Value) → Prop
 | nil : Merge w A FZ [] []
 | own {p l lo} (h : Merge w A FZ l lo) : Merge w A FZ (p :: l) (p :: lo)
 | bor {p l lo} (ho : Ow w A FZ p.1 p.2) (hn : ∀ b, ¬ Blk w p.1 p.2 b) (h : Merge w A FZ l lo) : Merge w A FZ (p :: l) lo
theorem OK.merge {l lo : List (T × Value)} (hm : Merge w X.RO FZ l lo) : ∀ {pre post}, OK X w FZ β s (pre ++ (lo ++ post)) → OK X w FZ β s (pre ++ (l ++ post)) := by
 induction hm with
 | nil => exact fun h => h
 | @own p l lo h ih =>
  intro pre post h
  have := ih (pre := pre ++ [p]) (post := post) (by simpa using h)
  simpa using this
 | @bor p l lo ho hn h ih =>
  intro pre post h
  exact (ih h).insert ho hn
inductive ArgsL : List A → List Value → List (T × Value) → Prop
 | nil : ArgsL [] [] []
 | c {t x as xs l} (h : ArgsL as xs l) : ArgsL (.c t :: as) (x :: xs) ((t, x) :: l)
 | ag {ts as xs l} {cs : Array Value} (hl : cs.size = ts.length) (h : ArgsL as xs l) : ArgsL (.ag ts :: as) (.agg cs :: xs) (ts.zip cs.toList ++ l)
 | pt {id sz i j x as xs l} (h : ArgsL as xs l) : ArgsL (.pt id sz i j :: as) (x :: xs) l
 | fn {f caps x as xs l} (h : ArgsL as xs l) : ArgsL (.fn f caps :: as) (x :: xs) l
 | no {x as xs l} (h : ArgsL as xs l) : ArgsL (.no :: as) (x :: xs) l
def A.isData : A → Bool
 | .c _ | .ag _ => true
 | _ => false
theorem inArgs_ne : ∀ (as : List A) (j : Nat) (s : Objs) {i : Nat}, as.all A.small = true → (i < nArg j ∨ nArg (j + as.length) ≤ i) → inArgs as j s i = s i
 | [], _, _, _, _, _ => rfl
 | a :: as, j, s, i, hs, h => by
  rw [List.all_cons, Bool.and_eq_true] at hs
  simp only [nArg, List.length_cons] at h
  have ih := inArgs_ne as (j + 1) s (i := i) hs.2 (by simp only [nArg]; omega)
  rw [inArgs]
  cases a with
  | c t => rw [putA, putT_ne _ _ (by simp only [nArg]; omega), ih]
  | ag ts =>
   have : ts.length ≤ 64 := Nat.le_of_ble_eq_true hs.1
   rw [putA, putL_ne _ _ _ (by simp only [nArg]; omega), ih]
  | _ => exact ih
theorem OK.placeA {as : List A} {xs : List Value} {l : List (T × Value)} (hl : ArgsL as xs l) : ∀ {j : Nat} {pend : List (T × Value)}, as.all A.small = true → OK X w FZ β s (pend ++ l) → (∀ i, nArg j ≤ i → i < nArg (j + as.length) → (s i).ver = 0) →
  ∃ β', OK X w FZ β' (inArgs as j s) pend ∧ Ext s β (inArgs as j s) β' ∧ ∀ (k : Nat) (a : A) (x : Value), as[k]? = some a → xs[k]? = some x → a.isData = true → RepV (vers (inArgs as j s)) β' (unA (nArg (j + k)) a) x := by
 induction hl with
 | nil => exact fun _ h _ => ⟨β, by simpa [inArgs] using h, Ext.refl _ _, fun k a x ha => by simp at ha⟩
 | @c t x as xs l hl ih =>
  intro j pend hs h hq
  rw [List.all_cons, Bool.and_eq_true] at hs
  simp only [List.length_cons] at hq
  obtain ⟨β1, h1, e1, r1⟩ := ih (j := j + 1) (pend := pend ++ [(t, x)]) hs.2 (by simpa using h) (fun i h1 h2 => hq i (by simp only [nArg] at *; omega) (by simp only [nArg] at *; omega))
  have hn : (inArgs as (j + 1) s (nArg j)).ver = 0 := by
   rw [inArgs_ne as (j + 1) s hs.2 (by simp only [nArg]; omega)]
   exact hq _ (Nat.le_refl _) (by simp only [nArg]; omega)
  obtain ⟨h2, e2, r2⟩ := h1.placeT (by unfold nArg; omega) hn
  refine ⟨_, h2, e1.trans e2, fun k a y ha hy hd => ?_⟩
  cases k with
  | zero =>
   simp only [List.getElem?_cons_zero, Option.some.injEq] at ha hy
   subst ha hy
   exact r2
  | succ k =>
   simp only [List.getElem?_cons_succ] at ha hy
   have := (r1 k a y ha hy hd).ext e2
   rw [show j + 1 + k = j + (k + 1) by omega] at this
   exact this
 | @ag ts as xs l cs hcl hl ih =>
  intro j pend hs h hq
  rw [List.all_cons, Bool.and_eq_true] at hs
  have hlen : ts.length ≤ 64 := Nat.le_of_ble_eq_true hs.1
  simp only [List.length_cons] at hq
  have hflat : ∀ (i : Nat) (y : Value), cs[i]? = some y → flat y := by
   intro i y hy
   have hi := (Array.getElem?_eq_some_iff.1 hy).1
   have hz : (ts.zip cs.toList)[i]? = some (ts[i]'(by omega), y) := by
    rw [List.getElem?_zip_eq_some]
    exact ⟨List.getElem?_eq_getElem (by omega), by rw [Array.getElem?_toList]; exact hy⟩
   have := h.pow (pend.length + i) (ts[i]'(by omega), y) (by
    rw [List.getElem?_append_right (by omega), Nat.add_sub_cancel_left, List.getElem?_append_left (by simp; omega)]
    exact hz)
   exact this.flatV
  obtain ⟨β1, h1, e1, r1⟩ := ih (j := j + 1) (pend := pend ++ ts.zip cs.toList) hs.2 (by simpa using h) (fun i h1 h2 => hq i (by simp only [nArg] at *; omega) (by simp only [nArg] at *; omega))
  obtain ⟨h2, e2, r2⟩ := OK.placeL ts cs.toList (nArg j) (by unfold nArg; omega) (by simpa using hcl) h1 (fun i h1 h2 => by
   rw [inArgs_ne as (j + 1) s hs.2 (by simp only [nArg] at *; omega)]
   exact hq i h1 (by simp only [nArg] at *; omega))
  refine ⟨_, h2, e1.trans e2, fun k a y ha hy hd => ?_⟩
  cases k with
  | zero =>
   simp only [List.getElem?_cons_zero, Option.some.injEq] at ha hy
   subst ha hy
   exact .ag (by rw [unL_length]; omega) hflat fun i v x hv hx => r2 i v x hv (by rw [Array.getElem?_toList]; exact hx)
  | succ k =>
   simp only [List.getElem?_cons_succ] at ha hy
   have := (r1 k a y ha hy hd).ext e2
   rw [show j + 1 + k = j + (k + 1) by omega] at this
   exact this
 | @pt id sz i j' x as xs l hl ih =>
  intro j pend hs h hq
  rw [List.all_cons, Bool.and_eq_true] at hs
  simp only [List.length_cons] at hq
  obtain ⟨β1, h1, e1, r1⟩ := ih (j := j + 1) (pend := pend) hs.2 h (fun i h1 h2 => hq i (by simp only [nArg] at *; omega) (by simp only [nArg] at *; omega))
  refine ⟨β1, h1, e1, fun k a y ha hy hd => ?_⟩
  cases k with
  | zero => simp only [List.getElem?_cons_zero, Option.some.injEq] at ha; subst ha; cases hd
  | succ k =>
   simp only [List.getElem?_cons_succ] at ha hy
   have := r1 k a y ha hy hd
   rw [show j + 1 + k = j + (k + 1) by omega] at this
   exact this
 | @fn f caps x as xs l hl ih =>
  intro j pend hs h hq
  rw [List.all_cons, Bool.and_eq_true] at hs
  simp only [List.length_cons] at hq
  obtain ⟨β1, h1, e1, r1⟩ := ih (j := j + 1) (pend := pend) hs.2 h (fun i h1 h2 => hq i (by simp only [nArg] at *; omega) (by simp only [nArg] at *; omega))
  refine ⟨β1, h1, e1, fun k a y ha hy hd => ?_⟩
  cases k with
  | zero => simp only [List.getElem?_cons_zero, Option.some.injEq] at ha; subst ha; cases hd
  | succ k =>
   simp only [List.getElem?_cons_succ] at ha hy
   have := r1 k a y ha hy hd
   rw [show j + 1 + k = j + (k + 1) by omega] at this
   exact this
 | @no x as xs l hl ih =>
  intro j pend hs h hq
  rw [List.all_cons, Bool.and_eq_true] at hs
  simp only [List.length_cons] at hq
  obtain ⟨β1, h1, e1, r1⟩ := ih (j := j + 1) (pend := pend) hs.2 h (fun i h1 h2 => hq i (by simp only [nArg] at *; omega) (by simp only [nArg] at *; omega))
  refine ⟨β1, h1, e1, fun k a y ha hy hd => ?_⟩
  cases k with
  | zero => simp only [List.getElem?_cons_zero, Option.some.injEq] at ha; subst ha; cases hd
  | succ k =>
   simp only [List.getElem?_cons_succ] at ha hy
   have := r1 k a y ha hy hd
   rw [show j + 1 + k = j + (k + 1) by omega] at this
   exact this
end Go.Vm
namespace Go.Vm
set_option linter.unusedVariables false
set_option linter.unusedSimpArgs false
variable {P : Program} {X X' : Cx} {FZ FZ' : Nat → Prop} {β β' : Nat → Value} {s s' : Objs} {w w' : World} {v : V} {fp fp' : List (Bool × Nat)} {pend L : List (T × Value)}
theorem OK.moreW {A W W' : Nat → Prop} {n0 : Nat} {gw : World} (h : OK ⟨A, W, n0, gw⟩ w FZ β s pend) (hW : ∀ b, W b → W' b) (hA : ∀ b, W' b → ¬ A b) : OK ⟨A, W', n0, gw⟩ w FZ β s pend :=
 ⟨h.rep, h.pow, h.apart, fun u b hb => ⟨(h.sep u b hb).1, (h.sep u b hb).2.1, (h.sep u b hb).2.2.imp (hW b) id⟩, fun b hb => ⟨(h.ro b hb).1, fun hw => hA b hw hb⟩, h.fz, h.n0, h.live, h.gl⟩
inductive PosL (w : World) : List PO → List Value → List (T × Value) → Prop
 | nil : PosL w [] [] []
 | box {ro ts ps b ys l} {c : Array Value} (hr : Row w b c) (hl : c.size = ts.length) (h : PosL w ps ys l) : PosL w (.box ro ts :: ps) (.pointer (some ⟨b, 0, none⟩) :: ys) (ts.zip c.toList ++ l)
 | rows {f sz rs ps y ys l} (h : PosL w ps ys l) : PosL w (.rows f sz rs :: ps) (y :: ys) ((.sl f sz rs, y) :: l)
def Mb (ps : List PO) (ys : List Value) (b : Nat) : Prop := ∃ (k : Nat) (ts : List T), ps[k]? = some (.box false ts) ∧ ys[k]? = some (.pointer (some ⟨b, 0, none⟩))
theorem inPos_ne : ∀ (ps : List PO) (p : Nat) (s : Objs) {i : Nat}, ps.all PO.small = true → (i < nPO p ∨ nPO (p + ps.length) ≤ i) → (i < nPC p ∨ nPC (p + ps.length) ≤ i) → inPos ps p s i = s i
 | [], _, _, _, _, _, _ => rfl
 | a :: ps, p, s, i, hs, h1, h2 => by
  rw [List.all_cons, Bool.and_eq_true] at hs
  simp only [nPO, nPC, List.length_cons] at h1 h2
  have ih := inPos_ne ps (p + 1) s (i := i) hs.2 (by simp only [nPO]; omega) (by simp only [nPC]; omega)
  cases a with
  | box ro ts =>
   have : ts.length ≤ 64 := Nat.le_of_ble_eq_true hs.1
   rw [inPos, putS_ne _ _ _ (by simp only [nPO]; omega), putL_ne _ _ _ (by simp only [nPC]; omega), ih]
  | rows f sz rs => rw [inPos, putS_ne _ _ _ (by simp only [nPO]; omega), ih]
theorem OK.placePos {A FZ : Nat → Prop} {n0 : Nat} {gw : World} {ps : List PO} {ys : List Value} {l : List (T × Value)} (hl : PosL w ps ys l) : ∀ {p : Nat} {pend : List (T × Value)} {W : Nat → Prop}, ps.all PO.small = true → p + ps.length ≤ 1000 →
  OK ⟨A, W, n0, gw⟩ w FZ β s (pend ++ l) → (∀ i, nPO p ≤ i → i < nPO (p + ps.length) → (s i).ver = 0) → (∀ i, nPC p ≤ i → i < nPC (p + ps.length) → (s i).ver = 0) →
  (∀ (k : Nat) ts b, ps[k]? = some (.box true ts) → ys[k]? = some (.pointer (some ⟨b, 0, none⟩)) → A b) →
  (∀ b, Mb ps ys b → b < n0 ∧ ¬ A b ∧ ¬ W b ∧ ¬ FZ b) →
  (∀ (k k' : Nat) ts ts' b, ps[k]? = some (.box false ts) → ys[k]? = some (.pointer (some ⟨b, 0, none⟩)) → ps[k']? = some (.box false ts') → ys[k']? = some (.pointer (some ⟨b, 0, none⟩)) → k = k') →
  ∃ β', OK ⟨A, fun b => W b ∨ Mb ps ys b, n0, gw⟩ w FZ β' (inPos ps p s) pend ∧ Ext s β (inPos ps p s) β' ∧
   (∀ (k : Nat) (y : Value), ys[k]? = some y → 1 ≤ (inPos ps p s (nPO (p + k))).ver ∧ β' (nPO (p + k)) = y) ∧
   (∀ (k : Nat) ro ts b, ps[k]? = some (.box ro ts) → ys[k]? = some (.pointer (some ⟨b, 0, none⟩)) → ∃ c, Row w b c ∧ c.size = ts.length ∧ ∀ (i : Nat) f sz rs x, ts[i]? = some (.sl f sz rs) → c[i]? = some x →
    1 ≤ (inPos ps p s (nPC (p + k) + i)).ver ∧ β' (nPC (p + k) + i) = x) := by
 induction hl with
 | nil =>
  intro p pend W _ _ h _ _ _ _ _
  refine ⟨β, ?_, Ext.refl _ _, fun k y hy => by simp at hy, fun k ro ts b hk => by simp at hk⟩
  have : (fun b => W b ∨ Mb [] [] b) = W := by
   funext b
   apply propext
   exact ⟨fun h => h.elim id fun ⟨k, ts, hk, _⟩ => by simp at hk, .inl⟩
  rw [this]
  simpa [inPos] using h
 | @box ro ts ps b ys l c hr hcl hl ih =>
  intro p pend W hs hp h hq hq' hA hM hD
  rw [List.all_cons, Bool.and_eq_true] at hs
  have hlen : ts.length ≤ 64 := Nat.le_of_ble_eq_true hs.1
  simp only [List.length_cons] at hp hq hq'
  have hM' : ∀ b', Mb ps ys b' → Mb (.box ro ts :: ps) (.pointer (some ⟨b, 0, none⟩) :: ys) b' := fun b' ⟨k, ts', h1, h2⟩ => ⟨k + 1, ts', h1, h2⟩
  obtain ⟨β1, h1, e1, n1, c1⟩ := ih (p := p + 1) (pend := pend ++ ts.zip c.toList) (W := W) hs.2 (by omega) (by simpa using h)
   (fun i h1 h2 => hq i (by simp only [nPO] at *; omega) (by simp only [nPO] at *; omega)) (fun i h1 h2 => hq' i (by simp only [nPC] at *; omega) (by simp only [nPC] at *; omega))
   (fun k ts' b' h1 h2 => hA (k + 1) ts' b' h1 h2) (fun b' hb' => hM b' (hM' b' hb')) (fun k k' ts1 ts2 b' a1 a2 a3 a4 => by have := hD (k + 1) (k' + 1) ts1 ts2 b' a1 a2 a3 a4; omega)
  have fresh : ∀ i, nPC p ≤ i → i < nPC (p + 1) → (inPos ps (p + 1) s i).ver = 0 := fun i h1 h2 => by
   rw [inPos_ne ps (p + 1) s hs.2 (by simp only [nPO, nPC] at *; omega) (by simp only [nPC] at *; omega)]
   exact hq' i h1 (by simp only [nPC] at *; omega)
  have hflat : ∀ (i : Nat) (y : Value), c[i]? = some y → flat y := by
   intro i y hy
   have hi := (Array.getElem?_eq_some_iff.1 hy).1
   have hz : (ts.zip c.toList)[i]? = some (ts[i]'(by omega), y) := by
    rw [List.getElem?_zip_eq_some]
    exact ⟨List.getElem?_eq_getElem (by omega), by rw [Array.getElem?_toList]; exact hy⟩
   have := h1.pow (pend.length + i) (ts[i]'(by omega), y) (by
    rw [List.getElem?_append_right (by omega), Nat.add_sub_cancel_left]
    exact hz)
   exact this.flatV
  obtain ⟨h2, e2, r2⟩ := OK.placeL ts c.toList (nPC p) (by unfold nPC; omega) (by simpa using hcl) h1 (fun i h1 h2 => fresh i h1 (by simp only [nPC] at *; omega))
  have nm2 := fun (i : Nat) f sz rs x (a : ts[i]? = some (.sl f sz rs)) (b : c[i]? = some x) => placeL_name ts c.toList (nPC p) (inPos ps (p + 1) s) β1 i a (by rw [Array.getElem?_toList]; exact b)
  have hq0 : (putL (nPC p) ts (inPos ps (p + 1) s) (nPO p)).ver = 0 := by
   rw [putL_ne _ _ _ (by simp only [nPO, nPC]; omega), inPos_ne ps (p + 1) s hs.2 (by simp only [nPO]; omega) (by simp only [nPO, nPC]; omega)]
   exact hq _ (Nat.le_refl _) (by simp only [nPO]; omega)
  have hW2 : OK ⟨A, fun b' => W b' ∨ Mb (.box ro ts :: ps) (.pointer (some ⟨b, 0, none⟩) :: ys) b', n0, gw⟩ w FZ (updL β1 (nPC p) ts c.toList) (putL (nPC p) ts (inPos ps (p + 1) s)) pend :=
   h2.moreW (fun b' hb' => hb'.imp id (hM' b')) fun b' hb' => by
    rcases hb' with hw | hm
    ·exact fun ha => (h.ro b' ha).2 hw
    ·exact (hM b' hm).2.1
  have hnb : ro = false → ∀ u, ¬ Bl w (updL β1 (nPC p) ts c.toList) (putL (nPC p) ts (inPos ps (p + 1) s)) pend u b := by
   intro hro u hu
   subst hro
   have hb := hM b ⟨0, ts, rfl, rfl⟩
   rcases (h2.sep u b hu).2.2 with (hw | ⟨k, ts', a1, a2⟩) | hge
   ·exact hb.2.2.1 hw
   ·have := hD 0 (k + 1) ts ts' b rfl rfl a1 a2
    omega
   ·have := hb.1
    exact Nat.lt_irrefl _ (Nat.lt_of_lt_of_le this hge)
  have h3 := hW2.addBox (q := nPO p) (ro := ro) hq0 hr (cells := unL (nPC p) ts) (by rw [unL_length]; exact hcl) (fun j v x hj hx => ⟨r2 j v x hj (by rw [Array.getElem?_toList]; exact hx), hflat j x hx⟩)
   (fun hro => ⟨hnb hro, by
    subst hro
    have hb := hM b ⟨0, ts, rfl, rfl⟩
    exact ⟨hb.2.1, hb.2.2.2, .inl (.inr ⟨0, ts, rfl, rfl⟩)⟩⟩)
   (fun hro => by subst hro; exact hA 0 ts b rfl rfl)
  have e3 := ext_new (s := putL (nPC p) ts (inPos ps (p + 1) s)) (β := updL β1 (nPC p) ts c.toList) hq0 (some (.box ro (unL (nPC p) ts))) (.pointer (some ⟨b, 0, none⟩))
  refine ⟨_, h3, (e1.trans e2).trans e3, fun k y hy => ?_, fun k ro' ts' b' hk hy => ?_⟩
  ·cases k with
   | zero =>
    simp only [List.getElem?_cons_zero, Option.some.injEq] at hy
    subst hy
    exact ⟨by rw [inPos]; show 1 ≤ (putS _ (nPO p) true _ (nPO p)).ver; rw [putS_bump]; omega, upd_same _ _ _⟩
   | succ k =>
    simp only [List.getElem?_cons_succ] at hy
    obtain ⟨a1, a2⟩ := n1 k y hy
    rw [show p + 1 + k = p + (k + 1) by omega] at a1 a2
    have := (e2.trans e3) _ a1
    exact ⟨this.1, this.2.trans a2⟩
  ·cases k with
   | zero =>
    simp only [List.getElem?_cons_zero, Option.some.injEq, PO.box.injEq, Value.pointer.injEq, Addr.mk.injEq, and_true] at hk hy
    obtain ⟨rfl, rfl⟩ := hk
    subst hy
    refine ⟨c, hr, hcl, fun i f sz rs x ht hx => ?_⟩
    obtain ⟨a1, a2⟩ := nm2 i f sz rs x ht hx
    have := e3 _ a1
    exact ⟨this.1, this.2.trans a2⟩
   | succ k =>
    simp only [List.getElem?_cons_succ] at hk hy
    obtain ⟨c', hr', hs', hh⟩ := c1 k ro' ts' b' hk hy
    refine ⟨c', hr', hs', fun i f sz rs x ht hx => ?_⟩
    obtain ⟨a1, a2⟩ := hh i f sz rs x ht hx
    rw [show p + 1 + k = p + (k + 1) by omega] at a1 a2
    have := (e2.trans e3) _ a1
    exact ⟨this.1, this.2.trans a2⟩
 | @rows f sz rs ps y ys l hl ih =>
  intro p pend W hs hp h hq hq' hA hM hD
  rw [List.all_cons, Bool.and_eq_true] at hs
  simp only [List.length_cons] at hp hq hq'
  have hMe : ∀ b', Mb (.rows f sz rs :: ps) (y :: ys) b' ↔ Mb ps ys b' := fun b' => ⟨fun ⟨k, ts', h1, h2⟩ => by
   cases k with
   | zero => simp at h1
   | succ k => exact ⟨k, ts', h1, h2⟩, fun ⟨k, ts', h1, h2⟩ => ⟨k + 1, ts', h1, h2⟩⟩
  obtain ⟨β1, h1, e1, n1, c1⟩ := ih (p := p + 1) (pend := pend ++ [(.sl f sz rs, y)]) (W := W) hs.2 (by omega) (by simpa using h)
   (fun i h1 h2 => hq i (by simp only [nPO] at *; omega) (by simp only [nPO] at *; omega)) (fun i h1 h2 => hq' i (by simp only [nPC] at *; omega) (by simp only [nPC] at *; omega))
   (fun k ts' b' h1 h2 => hA (k + 1) ts' b' h1 h2) (fun b' hb' => hM b' ((hMe b').2 hb')) (fun k k' ts1 ts2 b' a1 a2 a3 a4 => by have := hD (k + 1) (k' + 1) ts1 ts2 b' a1 a2 a3 a4; omega)
  have hq0 : (inPos ps (p + 1) s (nPO p)).ver = 0 := by
   rw [inPos_ne ps (p + 1) s hs.2 (by simp only [nPO]; omega) (by simp only [nPO, nPC]; omega)]
   exact hq _ (Nat.le_refl _) (by simp only [nPO]; omega)
  have h2 := OK.place h1 hq0
  have e2 := ext_new (s := inPos ps (p + 1) s) (β := β1) hq0 (some (.rows f sz rs)) y
  have hWe : (fun b => W b ∨ Mb (.rows f sz rs :: ps) (y :: ys) b) = fun b => W b ∨ Mb ps ys b := by
   funext b'; rw [hMe b']
  rw [hWe]
  refine ⟨_, h2, e1.trans e2, fun k z hz => ?_, fun k ro' ts' b' hk hy => ?_⟩
  ·cases k with
   | zero =>
    simp only [List.getElem?_cons_zero, Option.some.injEq] at hz
    subst hz
    exact ⟨by rw [inPos]; show 1 ≤ (putS _ (nPO p) true _ (nPO p)).ver; rw [putS_bump]; omega, upd_same _ _ _⟩
   | succ k =>
    simp only [List.getElem?_cons_succ] at hz
    obtain ⟨a1, a2⟩ := n1 k z hz
    rw [show p + 1 + k = p + (k + 1) by omega] at a1 a2
    have := e2 _ a1
    exact ⟨this.1, this.2.trans a2⟩
  ·cases k with
   | zero => simp at hk
   | succ k =>
    simp only [List.getElem?_cons_succ] at hk hy
    obtain ⟨c', hr', hs', hh⟩ := c1 k ro' ts' b' hk hy
    refine ⟨c', hr', hs', fun i f sz rs x ht hx => ?_⟩
    obtain ⟨a1, a2⟩ := hh i f sz rs x ht hx
    rw [show p + 1 + k = p + (k + 1) by omega] at a1 a2
    have := e2 _ a1
    exact ⟨this.1, this.2.trans a2⟩
end Go.Vm
namespace Go.Vm
set_option linter.unusedVariables false
set_option linter.unusedSimpArgs false
variable {P : Program} {X X' : Cx} {FZ FZ' : Nat → Prop} {β β' : Nat → Value} {s s' : Objs} {w w' : World} {v : V} {fp fp' : List (Bool × Nat)} {pend L : List (T × Value)}
theorem gather_run {α : Type} : ∀ (ids : List (Nat × Bool)) {k : List (Nat × Bool × Option O) → H α} {fp : List (Bool × Nat)} {r : α × Objs × List (Bool × Nat)}, (gather ids k).run s fp = some r →
  ∃ fp', (k (ids.map fun x => (x.1, x.2, (s x.1).o))).run s fp' = some r
 | [], k, fp, r, h => ⟨fp, h⟩
 | (id, ro) :: ids, k, fp, r, h => by
  simp only [gather, H.run] at h
  exact gather_run ids h
inductive BorLs (s : Objs) : List V → List T → Prop
 | nil : BorLs s [] []
 | cons {v t vs ts} (h : BorE s v t) (hs : BorLs s vs ts) : BorLs s (v :: vs) (t :: ts)
theorem foldBor_run {α : Type} : ∀ (vs : List V) {k : List T → H α} {fp : List (Bool × Nat)} {r : α × Objs × List (Bool × Nat)}, (foldL .bor vs k).run s fp = some r → ∃ ts fp', BorLs s vs ts ∧ (k ts).run s fp' = some r
 | [], k, fp, r, h => ⟨[], fp, .nil, h⟩
 | v :: vs, k, fp, r, h => by
  obtain ⟨t, fp1, hb, h1⟩ := bor_run (show (bor v fun t => foldL .bor vs fun ts => k (t :: ts)).run s fp = some r from h)
  obtain ⟨ts, fp2, hbs, h2⟩ := foldBor_run vs h1
  exact ⟨t :: ts, fp2, .cons hb hbs, h2⟩
inductive PW : Objs → Nat → List (Nat × Bool × Option O) → List (List T) → List (Nat × Nat × List Kd × List Fl) → List (Nat × Nat) → Objs → Prop
 | nil {s p} : PW s p [] [] [] [] s
 | w {s s1 s' p id o cells ts l tss ws nm} (ho : (s id).o = some (.box false cells)) (hn : 0 < cells.length) (h : OwnLs s cells ts s1)
   (hs : PW (putS s1 id true (some (.box false (cells.map fun _ => .no)))) (p + 1) l tss ws nm s') : PW s p ((id, false, o) :: l) (ts :: tss) ((id, p, ts.map kdOf, ts.map flOf) :: ws) ((id, nPO p) :: (cellNames p 0 cells ++ nm)) s'
 | rb {s s' p id o ro cells l tss ws nm} (ho : (s id).o = some (.box ro cells)) (hs : PW s (p + 1) l tss ws nm s') : PW s p ((id, true, o) :: l) ([] :: tss) ws ((id, nPO p) :: (cellNames p 0 cells ++ nm)) s'
 | rr {s s' p id o f sz rs l tss ws nm} (ho : (s id).o = some (.rows f sz rs)) (hs : PW s (p + 1) l tss ws nm s') : PW s p ((id, true, o) :: l) ([] :: tss) ws ((id, nPO p) :: nm) s'
theorem foldPW_run {α : Type} : ∀ (l : List (Nat × Bool × Option O)) {p : Nat} {k : List (List T) → List (Nat × Nat × List Kd × List Fl) → List (Nat × Nat) → H α} {s : Objs} {fp : List (Bool × Nat)} {r : α × Objs × List (Bool × Nat)}, (foldPW p l k).run s fp = some r →
  ∃ tss ws nm s' fp', PW s p l tss ws nm s' ∧ (k tss ws nm).run s' fp' = some r
 | [], p, k, s, fp, r, h => ⟨[], [], [], s, fp, .nil, h⟩
 | (id, true, o) :: l, p, k, s, fp, r, h => by
  simp only [foldPW, H.run] at h
  split at h
  ·rename_i ro cells ho
   obtain ⟨tss, ws, nm, s', fp', h1, h2⟩ := foldPW_run l h
   exact ⟨_, _, _, _, _, .rb ho h1, h2⟩
  ·rename_i f sz rs ho
   obtain ⟨tss, ws, nm, s', fp', h1, h2⟩ := foldPW_run l h
   exact ⟨_, _, _, _, _, .rr ho h1, h2⟩
  ·cases h
 | (id, false, o) :: l, p, k, s, fp, r, h => by
  simp only [foldPW, H.run] at h
  split at h
  ·rename_i cells ho
   obtain ⟨hn, h1⟩ := chk_run h
   obtain ⟨ts, s1, fp1, ho1, h2⟩ := foldOwn_run _ _ h1
   simp only [H.run] at h2
   obtain ⟨tss, ws, nm, s', fp', h3, h4⟩ := foldPW_run l h2
   exact ⟨_, _, _, _, _, .w ho (by simpa [Nat.blt_eq] using hn) ho1 h3, h4⟩
  ·cases h
inductive PR (s : Objs) : List (Nat × Bool × Option O) → List (List T) → List PO → Prop
 | nil {tss} : PR s [] tss []
 | box {id o ro cells ts ts0 l tss pos} (ho : (s id).o = some (.box ro cells)) (hn : 0 < cells.length) (h : BorLs s cells ts) (hs : PR s l tss pos) : PR s ((id, true, o) :: l) (ts0 :: tss) (.box true ts :: pos)
 | rows {id o f sz rs ts0 l tss pos} (ho : (s id).o = some (.rows f sz rs)) (hs : PR s l tss pos) : PR s ((id, true, o) :: l) (ts0 :: tss) (.rows .ro sz rs :: pos)
 | w {id o ts l tss pos} (hs : PR s l tss pos) : PR s ((id, false, o) :: l) (ts :: tss) (.box false ts :: pos)
theorem foldPR_run {α : Type} : ∀ (l : List (Nat × Bool × Option O)) {tss : List (List T)} {k : List PO → H α} {fp : List (Bool × Nat)} {r : α × Objs × List (Bool × Nat)}, (foldPR l tss k).run s fp = some r →
  ∃ pos fp', PR s l tss pos ∧ (k pos).run s fp' = some r
 | [], tss, k, fp, r, h => ⟨[], fp, .nil, h⟩
 | (id, true, o) :: l, [], k, fp, r, h => by cases h
 | (id, false, o) :: l, [], k, fp, r, h => by cases h
 | (id, true, o) :: l, ts0 :: tss, k, fp, r, h => by
  obtain ⟨pos, fp1, h1, h2⟩ := foldPR_run l h
  simp only [H.run] at h2
  split at h2
  ·rename_i ro cells ho
   obtain ⟨hn, h2'⟩ := chk_run h2
   obtain ⟨ts, fp2, h3, h4⟩ := foldBor_run _ h2'
   exact ⟨_, _, .box ho (by simpa [Nat.blt_eq] using hn) h3 h1, h4⟩
  ·rename_i f sz rs ho
   exact ⟨_, _, .rows ho h1, h2⟩
  ·cases h2
 | (id, false, o) :: l, ts :: tss, k, fp, r, h => by
  obtain ⟨pos, fp1, h1, h2⟩ := foldPR_run l h
  exact ⟨_, _, .w h1, h2⟩
inductive IoE (s : Objs) : V → T → IoW → Objs → Prop
 | nl {sz : Nat} : IoE s (.nl sz) (.sl .own sz []) .nil s
 | top {id len sz : Nat} {rs : List (List T)} (ho : (s id).o = some (.rows .own sz rs)) : IoE s (.sl id true 0 len sz) (.sl .own sz rs) (.top id sz) (putS s id true none)
 | nest {id len sz x i j szx : Nat} {rs rws : List (List T)} (ho : (s id).o = some (.link x (s x).ver i j)) (hx : (s x).o = some (.rows .own szx rs)) (ht : cell rs i j = .sl .own sz rws) :
   IoE s (.sl id true 0 len sz) (.sl .own sz rws) (.nest x szx i j sz) (putS (putS s x true (some (.rows .own szx (setCell rs i j .no)))) id true none)
inductive IoLs : Objs → List V → List T → List IoW → Objs → Prop
 | nil {s0 : Objs} : IoLs s0 [] [] [] s0
 | im {s s' v vs ts es} (h : IoLs s vs ts es s') : IoLs s (.im v :: vs) (.im v :: ts) es s'
 | cons {s s1 s' v t e vs ts es} (h : IoE s v t e s1) (hs : IoLs s1 vs ts es s') : IoLs s (v :: vs) (t :: ts) (e :: es) s'
theorem IoE.own {v : V} {t : T} {e : IoW} (h : IoE s v t e s') : OwnE s v t s' := by
 cases h with
 | nl => exact .nl
 | @top id len sz rs ho =>
  have := OwnE.own (s := s) (off := 0) (len := len) (e := true) ho
  rwa [cut_all] at this
 | @nest id len sz x i j szx rs rws ho hx ht =>
  have := OwnE.link (s := s) (off := 0) (len := len) (e := true) ho hx ht
  rwa [cut_all] at this
theorem IoLs.own {us : List V} {ts : List T} {es : List IoW} (h : IoLs s us ts es s') : OwnLs s us ts s' := by
 induction h with
 | nil => exact .nil
 | im _ ih => exact .cons .im ih
 | cons h _ ih => exact .cons h.own ih
theorem foldIo_run {α : Type} {v : V} {k : T → IoW → H α} {fp : List (Bool × Nat)} {r : α × Objs × List (Bool × Nat)} (h : (foldIo v k).run s fp = some r) : ∃ t e s' fp', IoE s v t e s' ∧ (k t e).run s' fp' = some r := by
 unfold foldIo at h
 split at h
 ·exact ⟨_, _, _, _, .nl, h⟩
 ·rename_i id len sz
  simp only [H.run] at h
  split at h
  ·rename_i sz' rs ho
   obtain ⟨hc, h1⟩ := chk_run h
   obtain rfl := beq_eq hc
   exact ⟨_, _, _, _, .top ho, h1⟩
  ·rename_i x ver i j ho
   simp only [H.run] at h
   split at h
   ·rename_i szx rs hx
    obtain ⟨hc, h1⟩ := chk_run h
    rw [okT_eq, sCell_eq, Bool.and_eq_true] at hc
    simp only [sCell_eq, sSetCell_eq, rT_eq] at h1
    obtain rfl := beq_eq hc.1
    obtain ⟨rws, ht⟩ := okSl_spec hc.2
    rw [ht] at h1
    exact ⟨_, _, _, _, .nest (rws := rws) ho hx ht, h1⟩
   ·cases h
  ·cases h
 ·cases h
theorem foldIoL_run {α : Type} : ∀ (vs : List V) {k : List T → List IoW → H α} {s : Objs} {fp : List (Bool × Nat)} {r : α × Objs × List (Bool × Nat)}, (foldIoL vs k).run s fp = some r → ∃ ts es s' fp', IoLs s vs ts es s' ∧ (k ts es).run s' fp' = some r
 | [], k, s, fp, r, h => ⟨_, _, _, _, .nil, h⟩
 | v :: vs, k, s, fp, r, h => by
  by_cases him : ∃ x, v = .im x
  ·obtain ⟨x, rfl⟩ := him
   simp only [foldIoL] at h
   obtain ⟨ts, es, s', fp', h1, h2⟩ := foldIoL_run vs h
   exact ⟨_, _, _, _, .im h1, h2⟩
  ·have h' : (foldIo v fun t w => foldIoL vs fun ts ws => k (t :: ts) (w :: ws)).run s fp = some r := by
    cases v <;> first | exact h | exact absurd ⟨_, rfl⟩ him
   obtain ⟨t, e, s1, fp1, h1, h2⟩ := foldIo_run h'
   obtain ⟨ts, es, s', fp', h3, h4⟩ := foldIoL_run vs h2
   exact ⟨_, _, _, _, .cons h1 h3, h4⟩
inductive FA (nm : List (Nat × Nat)) (sf : Objs) : Objs → List Mode → List V → List A → List IoW → Prop
 | nil {ms} : FA nm sf sf ms [] [] []
 | pt {s m ms id sz i j vs as iw} (h : FA nm sf s ms vs as iw) : FA nm sf s (m :: ms) (.pt id sz i j :: vs) (trP nm (.pt id sz i j) :: as) iw
 | fn {s m ms f caps vs as iw} (h : FA nm sf s ms vs as iw) : FA nm sf s (m :: ms) (.fn f caps :: vs) (.fn f (caps.map (trP nm)) :: as) iw
 | ioC {s s1 ms v t e vs as iw} (hb : IoE s v t e s1) (h : FA nm sf s1 ms vs as iw) : FA nm sf s (.io :: ms) (v :: vs) (.c t :: as) (e :: iw)
 | ioA {s s1 ms us ts es vs as iw} (hb : IoLs s us ts es s1) (h : FA nm sf s1 ms vs as iw) : FA nm sf s (.io :: ms) (.ag us :: vs) (.ag ts :: as) (es ++ iw)
 | agB {s m ms us ts vs as iw} (hm : Mode.isBor m = true) (hb : BorLs sf us ts) (h : FA nm sf s ms vs as iw) : FA nm sf s (m :: ms) (.ag us :: vs) (.ag ts :: as) iw
 | agO {s s1 m ms us ts vs as iw} (hm : m ≠ .io) (hb : OwnLs s us ts s1) (h : FA nm sf s1 ms vs as iw) : FA nm sf s (m :: ms) (.ag us :: vs) (.ag ts :: as) iw
 | cB {s m ms v t vs as iw} (hm : Mode.isBor m = true) (hb : BorE sf v t) (h : FA nm sf s ms vs as iw) : FA nm sf s (m :: ms) (v :: vs) (.c t :: as) iw
 | cO {s s1 m ms v t vs as iw} (hm : m ≠ .io) (hb : OwnE s v t s1) (h : FA nm sf s1 ms vs as iw) : FA nm sf s (m :: ms) (v :: vs) (.c t :: as) iw
theorem foldArgs_run {α : Type} {nm : List (Nat × Nat)} : ∀ (vs : List V) (ms : List Mode) {k : List A → List IoW → H α} {s : Objs} {fp : List (Bool × Nat)} {r : α × Objs × List (Bool × Nat)}, (foldArgs nm ms vs k).run s fp = some r →
  ∃ as iw sf fp', FA nm sf s ms vs as iw ∧ (k as iw).run sf fp' = some r := by
 intro vs
 induction vs with
 | nil =>
  intro ms k s fp r h
  have : foldArgs nm ms [] k = k [] [] := by cases ms <;> rfl
  rw [this] at h
  exact ⟨[], [], s, fp, .nil, h⟩
 | cons v vs ih =>
  intro ms k s fp r h
  cases ms with
  | nil => cases h
  | cons m ms =>
   have io : m = .io → (foldIo v fun t e => foldArgs nm ms vs fun as ws => k (.c t :: as) (e :: ws)).run s fp = some r → ∃ as iw sf fp', FA nm sf s (m :: ms) (v :: vs) as iw ∧ (k as iw).run sf fp' = some r := by
    rintro rfl h
    obtain ⟨t, e, s1, fp1, hb, h1⟩ := foldIo_run h
    obtain ⟨as, iw, sf, fp2, h2, h3⟩ := ih ms h1
    exact ⟨_, _, _, _, .ioC hb h2, h3⟩
   have gen : m ≠ .io → (bif Mode.isBor m then foldArgs nm ms vs fun as ws => bor v fun t => k (.c t :: as) ws else own v fun t => foldArgs nm ms vs fun as ws => k (.c t :: as) ws).run s fp = some r →
     ∃ as iw sf fp', FA nm sf s (m :: ms) (v :: vs) as iw ∧ (k as iw).run sf fp' = some r := by
    intro hio h
    cases hm : Mode.isBor m with
    | true =>
     rw [hm, cond_true] at h
     obtain ⟨as, iw, sf, fp1, h1, h2⟩ := ih ms h
     obtain ⟨t, fp2, hb, h3⟩ := bor_run h2
     exact ⟨_, _, _, _, .cB hm hb h1, h3⟩
    | false =>
     rw [hm, cond_false] at h
     obtain ⟨t, s1, fp1, hb, h1⟩ := own_run h
     obtain ⟨as, iw, sf, fp2, h2, h3⟩ := ih ms h1
     exact ⟨_, _, _, _, .cO hio hb h2, h3⟩
   cases v with
   | pt id sz i j =>
    obtain ⟨as, iw, sf, fp1, h1, h2⟩ := ih ms h
    exact ⟨_, _, _, _, .pt h1, h2⟩
   | fn f caps =>
    obtain ⟨as, iw, sf, fp1, h1, h2⟩ := ih ms h
    exact ⟨_, _, _, _, .fn h1, h2⟩
   | ag us =>
    by_cases hio : m = .io
    ·subst hio
     obtain ⟨ts, es, s1, fp1, hb, h1⟩ := foldIoL_run _ h
     obtain ⟨as, iw, sf, fp2, h2, h3⟩ := ih ms h1
     refine ⟨_, _, _, _, .ioA hb h2, h3⟩
    ·have h' : (bif Mode.isBor m then foldArgs nm ms vs fun as ws => foldL .bor us fun ts => k (.ag ts :: as) ws else foldL .own us fun ts => foldArgs nm ms vs fun as ws => k (.ag ts :: as) ws).run s fp = some r := by
      cases m <;> first | exact absurd rfl hio | exact h
     cases hm : Mode.isBor m with
     | true =>
      rw [hm, cond_true] at h'
      obtain ⟨as, iw, sf, fp1, h1, h2⟩ := ih ms h'
      obtain ⟨ts, fp2, hb, h3⟩ := foldBor_run _ h2
      exact ⟨_, _, _, _, .agB hm hb h1, h3⟩
     | false =>
      rw [hm, cond_false] at h'
      obtain ⟨ts, s1, fp1, hb, h1⟩ := foldOwn_run _ _ h'
      obtain ⟨as, iw, sf, fp2, h2, h3⟩ := ih ms h1
      exact ⟨_, _, _, _, .agO hio hb h2, h3⟩
   | _ =>
    by_cases hio : m = .io
    ·subst hio; exact io rfl h
    ·refine gen hio ?_
     cases m <;> first | exact absurd rfl hio | exact h
end Go.Vm
namespace Go.Vm
set_option linter.unusedVariables false
set_option linter.unusedSimpArgs false
variable {P : Program} {X X' : Cx} {FZ FZ' : Nat → Prop} {β β' : Nat → Value} {s s' sf : Objs} {w w' : World} {v : V} {fp fp' : List (Bool × Nat)} {pend L : List (T × Value)} {nm : List (Nat × Nat)}
 {ms : List Mode} {vs : List V} {as : List A} {iw : List IoW}
theorem FA.ver (h : FA nm sf s ms vs as iw) : ∀ i, (s i).ver ≤ (sf i).ver := by
 induction h with
 | nil => exact fun _ => Nat.le_refl _
 | pt _ ih => exact ih
 | fn _ ih => exact ih
 | ioC hb _ ih => exact fun i => Nat.le_trans (hb.own.ver i) (ih i)
 | ioA hb _ ih => exact fun i => Nat.le_trans (hb.own.ver i) (ih i)
 | agB _ _ _ ih => exact ih
 | agO _ hb _ ih => exact fun i => Nat.le_trans (hb.ver i) (ih i)
 | cB _ _ _ ih => exact ih
 | cO _ hb _ ih => exact fun i => Nat.le_trans (hb.ver i) (ih i)
def V.isNo : V → Bool
 | .no => true
 | _ => false
def stripO : Option O → Option O
 | some (.box false cells) => bif cells.all V.isNo then none else some (.box false cells)
 | o => o
def strip (s : Objs) : Objs := fun i => ⟨(s i).ver, stripO (s i).o⟩
theorem OK.strip (h : OK X w FZ β s pend) : OK X w FZ β (strip s) pend := by
 refine h.sub (fun id => ?_) (fun id => Nat.le_refl _)
 show stripO (s id).o = none ∨ stripO (s id).o = (s id).o
 unfold stripO
 split
 ·rename_i cells ho
  cases cells.all V.isNo
  ·exact .inr ho.symm
  ·exact .inl rfl
 ·exact .inr rfl
theorem strip_rows {id sz : Nat} {f : Fl} {rs : List (List T)} (h : (s id).o = some (.rows f sz rs)) : (strip s id).o = some (.rows f sz rs) := by
 show stripO (s id).o = _
 rw [h]; rfl
theorem strip_link {id x ver i j : Nat} (h : (s id).o = some (.link x ver i j)) : (strip s id).o = some (.link x ver i j) := by
 show stripO (s id).o = _
 rw [h]; rfl
theorem BorE.strip {t : T} (h : BorE s v t) : BorE (strip s) v t := by
 cases h with
 | im => exact .im
 | nl => exact .nl
 | rows h => exact .rows (strip_rows h)
 | link h hx ht => exact .link (x := _) (strip_link h) (strip_rows hx) ht
theorem BorLs.strip {us : List V} {ts : List T} (h : BorLs s us ts) : BorLs (strip s) us ts := by
 induction h with
 | nil => exact .nil
 | cons h _ ih => exact .cons h.strip ih
theorem BorE.ow {t : T} {x : Value} {A FZ' : Nat → Prop} (hO : OK X w FZ β s []) (hv : RepV (vers s) β v x) (he : BorE s v t) (hA : ∀ b, Rd X w FZ β s [] b → A b) : Ow w A FZ' t x ∧ ∀ b, ¬ Blk w t x b := by
 have hi := (bor_sem hO hv he).mono hA (fun _ _ => rfl)
 cases he with
 | im => cases hi with | im h => exact ⟨.im h, fun b hb => by cases hb⟩
 | nl => exact ⟨.ro hi, fun b hb => by cases hb⟩
 | rows => exact ⟨.ro hi, fun b hb => by cases hb⟩
 | link => exact ⟨.ro hi, fun b hb => by cases hb⟩
theorem BorLs.length {us : List V} {ts : List T} (h : BorLs s us ts) : ts.length = us.length := by
 induction h with
 | nil => rfl
 | cons _ _ ih => simp [ih]
theorem BorLs.merge {A : Nat → Prop} {us : List V} {ts : List T} (h : BorLs s us ts) (hO : OK X w FZ β s []) (hA : ∀ b, Rd X w FZ β s [] b → A b) {l lo : List (T × Value)} (hm : Merge w A FZ l lo) :
  ∀ {xs : List Value}, xs.length = us.length → (∀ (i : Nat) (u : V) (x : Value), us[i]? = some u → xs[i]? = some x → RepV (vers s) β u x) → Merge w A FZ (ts.zip xs ++ l) lo := by
 induction h with
 | nil => exact fun _ _ => hm
 | cons h hs ih =>
  intro xs hl hr
  cases xs with
  | nil => cases hl
  | cons x xs =>
   obtain ⟨h1, h2⟩ := BorE.ow (FZ' := FZ) hO (hr 0 _ x rfl rfl) h hA
   exact .bor h1 h2 (ih (by simpa using hl) fun i u x hu hx => hr (i + 1) u x (by simpa using hu) (by simpa using hx))
theorem Merge.ownZip {A : Nat → Prop} {l lo : List (T × Value)} (h : Merge w A FZ l lo) : ∀ (z : List (T × Value)), Merge w A FZ (z ++ l) (z ++ lo)
 | [] => h
 | p :: z => .own (h.ownZip z)
theorem Merge.append {A : Nat → Prop} {l lo l' lo' : List (T × Value)} (h : Merge w A FZ l lo) (h' : Merge w A FZ l' lo') : Merge w A FZ (l ++ l') (lo ++ lo') := by
 induction h with
 | nil => exact h'
 | own _ ih => exact .own ih
 | bor ho hn _ ih => exact .bor ho hn ih
theorem rep_ag {vr : Nat → Nat} {us : List V} {x : Value} (h : RepV vr β (.ag us) x) : ∃ cs : Array Value, x = .agg cs ∧ us.length = cs.size ∧ ∀ (i : Nat) (u : V) (y : Value), us[i]? = some u → cs.toList[i]? = some y → RepV vr β u y := by
 cases h with
 | ag hl hf hc => exact ⟨_, rfl, hl, fun i u y hu hy => hc i u y hu (by rw [← Array.getElem?_toList]; exact hy)⟩
theorem FA.sem (h : FA nm sf s ms vs as iw) : ∀ {pend : List (T × Value)} {xs : List Value}, OK X w FZ β s pend → xs.length = vs.length →
  (∀ (i : Nat) (u : V) (x : Value), vs[i]? = some u → xs[i]? = some x → RepV (vers s) β u x) →
  ∃ l lo, ArgsL as xs l ∧ OK X w FZ β sf (pend ++ lo) ∧ ∀ A : Nat → Prop, (ms.any Mode.isBor = true → ∀ b, Rd X w FZ β (strip sf) [] b → A b) → Merge w A FZ l lo := by
 induction h with
 | nil =>
  intro pend xs hO hl hr
  have : xs = [] := List.length_eq_zero_iff.1 hl
  subst this
  exact ⟨[], [], .nil, by simpa using hO, fun _ _ => .nil⟩
 | pt h ih =>
  intro pend xs hO hl hr
  cases xs with
  | nil => cases hl
  | cons x xs =>
   obtain ⟨l, lo, h1, h2, h3⟩ := ih hO (by simpa using hl) (fun i u x hu hx => hr (i + 1) u x (by simpa using hu) (by simpa using hx))
   refine ⟨l, lo, ?_, h2, fun A hA => h3 A fun hb => hA (by rw [List.any_cons, hb, Bool.or_true])⟩
   unfold trP
   dsimp only
   split
   ·exact .pt h1
   ·exact .no h1
 | fn h ih =>
  intro pend xs hO hl hr
  cases xs with
  | nil => cases hl
  | cons x xs =>
   obtain ⟨l, lo, h1, h2, h3⟩ := ih hO (by simpa using hl) (fun i u x hu hx => hr (i + 1) u x (by simpa using hu) (by simpa using hx))
   exact ⟨l, lo, .fn h1, h2, fun A hA => h3 A fun hb => hA (by rw [List.any_cons, hb, Bool.or_true])⟩
 | @ioC s s1 ms v t e vs as iw hb h ih =>
  intro pend xs hO hl hr
  cases xs with
  | nil => cases hl
  | cons x xs =>
   have h1 := own_sem hO (hr 0 _ x rfl rfl) hb.own
   obtain ⟨l, lo, h2, h3, h4⟩ := ih h1 (by simpa using hl) (fun i u x hu hx => (hr (i + 1) u x (by simpa using hu) (by simpa using hx)).ver hb.own.ver)
   exact ⟨_, (t, x) :: lo, .c h2, by simpa using h3, fun A hA => .own (h4 A fun hb => hA (by rw [List.any_cons, hb, Bool.or_true]))⟩
 | @ioA s s1 ms us ts es vs as iw hb h ih =>
  intro pend xs hO hl hr
  cases xs with
  | nil => cases hl
  | cons x xs =>
   obtain ⟨cs, rfl, hcl, hcr⟩ := rep_ag (hr 0 _ x rfl rfl)
   have h1 := foldOwn_sem hb.own hO (xs := cs.toList) (by simpa using hcl.symm) hcr
   obtain ⟨l, lo, h2, h3, h4⟩ := ih h1 (by simpa using hl) (fun i u x hu hx => (hr (i + 1) u x (by simpa using hu) (by simpa using hx)).ver hb.own.ver)
   exact ⟨_, ts.zip cs.toList ++ lo, .ag (ts := ts) (by rw [hb.own.length]; omega) h2, by simpa using h3, fun A hA => (h4 A fun hb => hA (by rw [List.any_cons, hb, Bool.or_true])).ownZip _⟩
 | @agB s m ms us ts vs as iw hm hb h ih =>
  intro pend xs hO hl hr
  cases xs with
  | nil => cases hl
  | cons x xs =>
   obtain ⟨cs, rfl, hcl, hcr⟩ := rep_ag ((hr 0 _ x rfl rfl).ver h.ver)
   obtain ⟨l, lo, h2, h3, h4⟩ := ih hO (by simpa using hl) (fun i u x hu hx => hr (i + 1) u x (by simpa using hu) (by simpa using hx))
   have h0 : OK X w FZ β (strip sf) [] := OK.strip (by simpa using h3.take 0)
   refine ⟨_, lo, .ag (ts := ts) (by rw [hb.length]; omega) h2, h3, fun A hA => ?_⟩
   have hA' := hA (by rw [List.any_cons, hm, Bool.true_or])
   exact hb.strip.merge h0 hA' (h4 A fun _ => hA') (by simpa using hcl.symm) hcr
 | @agO s s1 m ms us ts vs as iw hm hb h ih =>
  intro pend xs hO hl hr
  cases xs with
  | nil => cases hl
  | cons x xs =>
   obtain ⟨cs, rfl, hcl, hcr⟩ := rep_ag (hr 0 _ x rfl rfl)
   have h1 := foldOwn_sem hb hO (xs := cs.toList) (by simpa using hcl.symm) hcr
   obtain ⟨l, lo, h2, h3, h4⟩ := ih h1 (by simpa using hl) (fun i u x hu hx => (hr (i + 1) u x (by simpa using hu) (by simpa using hx)).ver hb.ver)
   exact ⟨_, ts.zip cs.toList ++ lo, .ag (ts := ts) (by rw [hb.length]; omega) h2, by simpa using h3, fun A hA => (h4 A fun hb => hA (by rw [List.any_cons, hb, Bool.or_true])).ownZip _⟩
 | @cB s m ms v t vs as iw hm hb h ih =>
  intro pend xs hO hl hr
  cases xs with
  | nil => cases hl
  | cons x xs =>
   have hx := (hr 0 _ x rfl rfl).ver h.ver
   obtain ⟨l, lo, h2, h3, h4⟩ := ih hO (by simpa using hl) (fun i u x hu hx => hr (i + 1) u x (by simpa using hu) (by simpa using hx))
   have h0 : OK X w FZ β (strip sf) [] := OK.strip (by simpa using h3.take 0)
   refine ⟨_, lo, .c (t := t) h2, h3, fun A hA => ?_⟩
   have hA' := hA (by rw [List.any_cons, hm, Bool.true_or])
   obtain ⟨q1, q2⟩ := BorE.ow (FZ' := FZ) h0 hx hb.strip hA'
   exact .bor q1 q2 (h4 A fun _ => hA')
 | @cO s s1 m ms v t vs as iw hm hb h ih =>
  intro pend xs hO hl hr
  cases xs with
  | nil => cases hl
  | cons x xs =>
   have h1 := own_sem hO (hr 0 _ x rfl rfl) hb
   obtain ⟨l, lo, h2, h3, h4⟩ := ih h1 (by simpa using hl) (fun i u x hu hx => (hr (i + 1) u x (by simpa using hu) (by simpa using hx)).ver hb.ver)
   exact ⟨_, (t, x) :: lo, .c h2, by simpa using h3, fun A hA => .own (h4 A fun hb => hA (by rw [List.any_cons, hb, Bool.or_true]))⟩
end Go.Vm
namespace Go.Vm
set_option linter.unusedVariables false
set_option linter.unusedSimpArgs false
variable {P : Program} {X X' : Cx} {FZ FZ' : Nat → Prop} {β β' : Nat → Value} {s s' sf : Objs} {w w' : World} {v : V} {fp fp' : List (Bool × Nat)} {pend L : List (T × Value)} {nm : List (Nat × Nat)}
 {ms : List Mode} {vs : List V} {as : List A} {iw : List IoW}
theorem OwnE.box {t : T} {id : Nat} {ro : Bool} {cells : List V} (h : OwnE s v t s') (ho : (s id).o = some (.box ro cells)) : (s' id).o = some (.box ro cells) := by
 have ne : ∀ {i o}, (s i).o = some o → (∀ r c, o ≠ .box r c) → id ≠ i := fun h1 h2 e => by
  subst e
  rw [ho] at h1
  exact h2 _ _ (Option.some.inj h1).symm
 cases h with
 | im => exact ho
 | nl => exact ho
 | own h => rw [putS_ne _ _ _ (ne h (by simp))]; exact ho
 | imm h hf => exact ho
 | link h hx ht => rw [putS_ne _ _ _ (ne h (by simp)), putS_ne _ _ _ (ne hx (by simp))]; exact ho
 | limm h hx hf ht => exact ho
theorem OwnLs.box {us : List V} {ts : List T} {id : Nat} {ro : Bool} {cells : List V} (h : OwnLs s us ts s') (ho : (s id).o = some (.box ro cells)) : (s' id).o = some (.box ro cells) := by
 induction h with
 | nil => exact ho
 | cons h _ ih => exact ih (h.box ho)
theorem FA.box {id : Nat} {ro : Bool} {cells : List V} (h : FA nm sf s ms vs as iw) (ho : (s id).o = some (.box ro cells)) : (sf id).o = some (.box ro cells) := by
 have ne : ∀ {s : Objs} {i o}, (s id).o = some (.box ro cells) → (s i).o = some o → (∀ r c, o ≠ .box r c) → id ≠ i := fun h0 h1 h2 e => by
  subst e
  rw [h0] at h1
  exact h2 _ _ (Option.some.inj h1).symm
 induction h with
 | nil => exact ho
 | pt _ ih => exact ih ho
 | fn _ ih => exact ih ho
 | ioC hb _ ih => exact ih (hb.own.box ho)
 | ioA hb _ ih => exact ih (hb.own.box ho)
 | agB _ _ _ ih => exact ih ho
 | agO _ hb _ ih => exact ih (hb.box ho)
 | cB _ _ _ ih => exact ih ho
 | cO _ hb _ ih => exact ih (hb.box ho)
inductive PWv (w : World) (β : Nat → Value) : List (Nat × Bool × Option O) → List (List T) → List (T × Value) → Prop
 | nil : PWv w β [] [] []
 | w {id o b ts l tss lw} {c : Array Value} (hb : β id = .pointer (some ⟨b, 0, none⟩)) (hr : Row w b c) (hl : c.size = ts.length) (h : PWv w β l tss lw) : PWv w β ((id, false, o) :: l) (ts :: tss) (ts.zip c.toList ++ lw)
 | r {id o l tss lw} (h : PWv w β l tss lw) : PWv w β ((id, true, o) :: l) ([] :: tss) lw
def isBlank (s : Objs) (id : Nat) : Prop := ∃ cells : List V, (s id).o = some (.box false cells) ∧ 0 < cells.length ∧ ∀ v ∈ cells, v = .no
theorem OwnLs.notNo {us : List V} {ts : List T} (h : OwnLs s us ts s') : ∀ v ∈ us, v ≠ .no := by
 induction h with
 | nil => intro v hv; simp at hv
 | cons h _ ih =>
  intro v hv
  rcases List.mem_cons.1 hv with rfl | hv
  ·rintro rfl; cases h
  ·exact ih v hv
theorem PW.sem {p : Nat} {l : List (Nat × Bool × Option O)} {tss : List (List T)} {ws : List (Nat × Nat × List Kd × List Fl)} {nm : List (Nat × Nat)} (h : PW s p l tss ws nm s') : ∀ {pend : List (T × Value)}, OK X w FZ β s pend →
  ∃ lw, OK X w FZ β s' (pend ++ lw) ∧ PWv w β l tss lw ∧ (∀ i, (s i).ver ≤ (s' i).ver) ∧ (∀ id, isBlank s id → isBlank s' id) ∧ (∀ x ∈ l, x.2.1 = false → isBlank s' x.1) ∧
   (∀ x ∈ l, x.2.1 = false → ¬ isBlank s x.1) ∧ (l.filter fun x => !x.2.1).Pairwise (fun x y => x.1 ≠ y.1) := by
 induction h with
 | nil => exact fun hO => ⟨[], by simpa using hO, .nil, fun _ => Nat.le_refl _, fun _ h => h, fun x hx => by simp at hx, fun x hx => by simp at hx, by simp⟩
 | @w s s1 s' p id o cells ts l tss ws nm ho hn h hs ih =>
  intro pend hO
  obtain ⟨b, c, hb, hrow, hcs, hcc, _⟩ := hO.rep id _ ho
  have h1 := foldOwn_sem h hO (xs := c.toList) (by simpa using hcs) (fun i u x hu hx => (hcc i u x hu (by rw [← Array.getElem?_toList]; exact hx)).1)
  have ho1 := h.box ho
  have h2 := h1.writeBox ho1 hb (Wr.refl hrow) true (cells' := cells.map fun _ => .no) (by simp; exact hcs) (fun j v x hj hx => by
   rw [List.getElem?_map, Option.map_eq_some_iff] at hj
   obtain ⟨u, hu, rfl⟩ := hj
   exact ⟨.no, (hcc j u x hu hx).2⟩)
  have hbl : isBlank (putS s1 id true (some (.box false (cells.map fun _ => .no)))) id := ⟨cells.map fun _ => V.no, by simp, by simpa using hn, fun v hv => by
   obtain ⟨_, _, rfl⟩ := List.mem_map.1 hv; rfl⟩
  have hkeep : ∀ id', isBlank s id' → isBlank (putS s1 id true (some (.box false (cells.map fun _ => .no)))) id' := by
   intro id' hb'
   by_cases e : id' = id
   ·subst e; exact hbl
   ·obtain ⟨cs, h3, h4, h5⟩ := hb'
    exact ⟨cs, by rw [putS_ne _ _ _ e]; exact h.box h3, h4, h5⟩
  have hnb : ¬ isBlank s id := by
   rintro ⟨cs, h3, h4, h5⟩
   rw [ho] at h3
   injection h3 with h3
   injection h3 with _ h3
   subst h3
   cases cells with
   | nil => simp at hn
   | cons v vs => exact h.notNo v (by simp) (h5 v (by simp))
  obtain ⟨lw, h3, h4, h5, h6, h7, h8, h9⟩ := ih h2
  refine ⟨ts.zip c.toList ++ lw, by simpa using h3, .w hb hrow (by rw [h.length]; exact hcs) h4, fun i => Nat.le_trans (Nat.le_trans (h.ver i) (putS_ver _ _ _ _ _)) (h5 i), fun id' hb' => h6 id' (hkeep id' hb'), ?_, ?_, ?_⟩
  ·intro x hx hf
   rcases List.mem_cons.1 hx with rfl | hx
   ·exact h6 _ hbl
   ·exact h7 x hx hf
  ·intro x hx hf
   rcases List.mem_cons.1 hx with rfl | hx
   ·exact hnb
   ·exact fun hb' => h8 x hx hf (hkeep _ hb')
  ·rw [List.filter_cons_of_pos (by simp)]
   refine List.pairwise_cons.2 ⟨fun y hy => ?_, h9⟩
   rw [List.mem_filter] at hy
   intro e
   have := h8 y hy.1 (by simpa using hy.2)
   rw [← e] at this
   exact this hbl
 | @rb s s' p id o ro cells l tss ws nm ho hs ih =>
  intro pend hO
  obtain ⟨lw, h3, h4, h5, h6, h7, h8, h9⟩ := ih hO
  refine ⟨lw, h3, .r h4, h5, h6, ?_, ?_, ?_⟩
  ·intro x hx hf
   rcases List.mem_cons.1 hx with rfl | hx
   ·cases hf
   ·exact h7 x hx hf
  ·intro x hx hf
   rcases List.mem_cons.1 hx with rfl | hx
   ·cases hf
   ·exact h8 x hx hf
  ·rw [List.filter_cons_of_neg (by simp)]; exact h9
 | @rr s s' p id o f sz rs l tss ws nm ho hs ih =>
  intro pend hO
  obtain ⟨lw, h3, h4, h5, h6, h7, h8, h9⟩ := ih hO
  refine ⟨lw, h3, .r h4, h5, h6, ?_, ?_, ?_⟩
  ·intro x hx hf
   rcases List.mem_cons.1 hx with rfl | hx
   ·cases hf
   ·exact h7 x hx hf
  ·intro x hx hf
   rcases List.mem_cons.1 hx with rfl | hx
   ·cases hf
   ·exact h8 x hx hf
  ·rw [List.filter_cons_of_neg (by simp)]; exact h9
end Go.Vm
namespace Go.Vm
set_option linter.unusedVariables false
set_option linter.unusedSimpArgs false
variable {P : Program} {X X' : Cx} {FZ FZ' : Nat → Prop} {β β' : Nat → Value} {s s' sf : Objs} {w w' : World} {v : V} {fp fp' : List (Bool × Nat)} {pend L : List (T × Value)} {nm : List (Nat × Nat)}
theorem BorLs.notNo {us : List V} {ts : List T} (h : BorLs s us ts) : ∀ v ∈ us, v ≠ .no := by
 induction h with
 | nil => intro v hv; simp at hv
 | cons h _ ih =>
  intro v hv
  rcases List.mem_cons.1 hv with rfl | hv
  ·rintro rfl; cases h
  ·exact ih v hv
theorem strip_box {id : Nat} {ro : Bool} {cells : List V} (h : (s id).o = some (.box ro cells)) (hn : ∃ v ∈ cells, v ≠ .no) : (strip s id).o = some (.box ro cells) := by
 show stripO (s id).o = _
 rw [h]
 cases ro with
 | true => rfl
 | false =>
  have : cells.all V.isNo = false := by
   obtain ⟨v, hv, hne⟩ := hn
   rw [List.all_eq_false]
   refine ⟨v, hv, ?_⟩
   cases v <;> first | exact absurd rfl hne | simp [V.isNo]
  simp only [stripO, this, cond_false]
theorem PR.sem {l : List (Nat × Bool × Option O)} {tss : List (List T)} {pos : List PO} {A : Nat → Prop} (h : PR sf l tss pos) (hO : OK X w FZ β sf []) : ∀ {lw : List (T × Value)}, PWv w β l tss lw →
  ((l.any fun x => x.2.1) = true → ∀ b, Rd X w FZ β (strip sf) [] b → A b) →
  ∃ lw', PosL w pos (l.map fun x => β x.1) lw' ∧ Merge w A FZ lw' lw ∧ (∀ (k : Nat) ts b, pos[k]? = some (.box true ts) → (l.map fun x => β x.1)[k]? = some (.pointer (some ⟨b, 0, none⟩)) → A b) := by
 have hS := hO.strip
 induction h with
 | nil =>
  intro lw hv _
  cases hv
  exact ⟨[], .nil, .nil, fun k ts b hk => by simp at hk⟩
 | @box id o ro cells ts ts0 l tss pos ho hn hb hs ih =>
  intro lw hv hA
  cases hv with
  | r hv =>
   have hA' := hA (by simp)
   obtain ⟨lw', h1, h2, h3⟩ := ih hv (fun _ => hA')
   obtain ⟨b, c, hbp, hrow, hcs, hcc, hro⟩ := hO.rep id _ ho
   have hst : (strip sf id).o = some (.box ro cells) := strip_box ho (by
    cases cells with
    | nil => simp at hn
    | cons v vs => exact ⟨v, by simp, hb.notNo v (by simp)⟩)
   have hAb : A b := by
    refine hA' b ?_
    cases ro with
    | true => exact .inr (.inl (hro rfl))
    | false => exact .inl ⟨.inl id, _, hst, rfl, hbp⟩
   refine ⟨ts.zip c.toList ++ lw', ?_, ?_, ?_⟩
   ·rw [List.map_cons, hbp]
    exact .box hrow (by rw [hb.length]; exact hcs) h1
   ·exact hb.strip.merge hS hA' h2 (by simpa using hcs) (fun i u x hu hx => (hcc i u x hu (by rw [← Array.getElem?_toList]; exact hx)).1)
   ·intro k ts' b' hk hy
    cases k with
    | zero =>
     rw [List.map_cons, List.getElem?_cons_zero, hbp] at hy
     injection hy with hy
     injection hy with hy
     injection hy with hy
     injection hy with hy _ _
     subst hy
     exact hAb
    | succ k => exact h3 k ts' b' (by simpa using hk) (by simpa using hy)
 | @rows id o f sz rs ts0 l tss pos ho hs ih =>
  intro lw hv hA
  cases hv with
  | r hv =>
   have hA' := hA (by simp)
   obtain ⟨lw', h1, h2, h3⟩ := ih hv (fun _ => hA')
   have hr : Ow w X.RO FZ (.sl f sz rs) (β id) := hO.rep id _ ho
   have hi : Im w A (.sl .ro sz rs) (β id) := (hr.readable fun b hb => hA' b (hb.imp (fun hb => ⟨.inl id, _, strip_rows ho, hb⟩) fun h => h)).flag
   refine ⟨(.sl .ro sz rs, β id) :: lw', .rows h1, .bor (.ro hi) (fun b hb => by cases hb) h2, ?_⟩
   intro k ts' b' hk hy
   cases k with
   | zero => simp at hk
   | succ k => exact h3 k ts' b' (by simpa using hk) (by simpa using hy)
 | @w id o ts l tss pos hs ih =>
  intro lw hv hA
  cases hv with
  | w hbp hr hl hv =>
   obtain ⟨lw', h1, h2, h3⟩ := ih hv (fun h => hA (by rw [List.any_cons, h, Bool.or_true]))
   refine ⟨_, by rw [List.map_cons, hbp]; exact .box hr hl h1, h2.ownZip _, ?_⟩
   intro k ts' b' hk hy
   cases k with
   | zero => simp at hk
   | succ k => exact h3 k ts' b' (by simpa using hk) (by simpa using hy)
end Go.Vm
namespace Go.Vm
set_option linter.unusedVariables false
set_option linter.unusedSimpArgs false
variable {P : Program} {X X' : Cx} {FZ FZ' : Nat → Prop} {β β' : Nat → Value} {s s' sf : Objs} {w w' : World} {v : V} {fp fp' : List (Bool × Nat)} {pend L : List (T × Value)} {nm : List (Nat × Nat)}
 {ms : List Mode} {vs : List V} {as : List A} {iw : List IoW}
theorem PW.ids {p : Nat} {l : List (Nat × Bool × Option O)} {tss : List (List T)} {ws : List (Nat × Nat × List Kd × List Fl)} {nm : List (Nat × Nat)} (h : PW s p l tss ws nm s') : True := trivial
theorem strip_blank {id : Nat} (h : isBlank s id) : (strip s id).o = none := by
 obtain ⟨cells, ho, hn, hno⟩ := h
 show stripO (s id).o = none
 rw [ho]
 have : cells.all V.isNo = true := List.all_eq_true.2 fun v hv => by rw [hno v hv]; rfl
 simp only [stripO, this, cond_true]
theorem pos_of {l : List (Nat × Bool × Option O)} {tss : List (List T)} {pos : List PO} (h : PR sf l tss pos) : ∀ (k : Nat) ts, pos[k]? = some (.box false ts) → ∃ x, l[k]? = some x ∧ x.2.1 = false := by
 induction h with
 | nil => intro k ts hk; simp at hk
 | box ho hn hb hs ih =>
  intro k ts hk
  cases k with
  | zero => simp at hk
  | succ k => exact ih k ts (by simpa using hk)
 | rows ho hs ih =>
  intro k ts hk
  cases k with
  | zero => simp at hk
  | succ k => exact ih k ts (by simpa using hk)
 | w hs ih =>
  intro k ts hk
  cases k with
  | zero => exact ⟨_, rfl, rfl⟩
  | succ k => exact ih k ts (by simpa using hk)
def inCx (X : Cx) (w : World) (FZ : Nat → Prop) (β : Nat → Value) (sf : Objs) (pend : List (T × Value)) (anyRo : Bool) (pos : List PO) (ys : List Value) : Cx :=
 ⟨fun b => bif anyRo then Rd X w FZ β (strip sf) [] b else X.RO b, fun b => (∃ k, Bl w β sf pend (.inr k) b) ∨ Mb pos ys b, w.heap.size, X.gw⟩
theorem call_in {l : List (Nat × Bool × Option O)} {tss : List (List T)} {pos : List PO} {bw : List (Nat × Nat × List Kd × List Fl)} {s1 : Objs} {xs : List Value} (hO : OK X w FZ β s []) (hl : xs.length = vs.length)
  (hr : ∀ (i : Nat) (u : V) (x : Value), vs[i]? = some u → xs[i]? = some x → RepV (vers s) β u x) (h1 : PW s 0 l tss bw nm s1) (h2 : FA nm sf s1 ms vs as iw) (h3 : PR sf l tss pos) (hsm : smallAll as pos = true) :
  ∃ pend β', OK X w FZ β sf pend ∧ OK (inCx X w FZ β sf pend (ms.any Mode.isBor || l.any fun x => x.2.1) pos (l.map fun x => β x.1)) w FZ β' (entry as pos) [] ∧
   (∀ (k : Nat) (a : A) (x : Value), as[k]? = some a → xs[k]? = some x → a.isData = true → RepV (vers (entry as pos)) β' (unA (nArg k) a) x) ∧
   (∀ (k : Nat) (y : Value), (l.map fun x => β x.1)[k]? = some y → 1 ≤ (entry as pos (nPO k)).ver ∧ β' (nPO k) = y) ∧
   (∀ (k : Nat) ro ts b, pos[k]? = some (.box ro ts) → (l.map fun x => β x.1)[k]? = some (.pointer (some ⟨b, 0, none⟩)) → ∃ c, Row w b c ∧ c.size = ts.length ∧ ∀ (i : Nat) f sz rs x, ts[i]? = some (.sl f sz rs) → c[i]? = some x →
    1 ≤ (entry as pos (nPC k + i)).ver ∧ β' (nPC k + i) = x) ∧
   (∀ x ∈ l, x.2.1 = false → isBlank sf x.1) ∧ (∀ i, (s i).ver ≤ (sf i).ver) := by
 simp only [smallAll, Bool.and_eq_true] at hsm
 obtain ⟨⟨⟨m1, m2⟩, m3⟩, m4⟩ := hsm
 have m3 := Nat.le_of_ble_eq_true m3
 have m4 := Nat.le_of_ble_eq_true m4
 obtain ⟨lw, o1, pv, v1, b1, b2, b3, b4⟩ := h1.sem hO
 obtain ⟨la, lo, aL, o2, mg⟩ := h2.sem o1 hl (fun i u x hu hx => (hr i u x hu hx).ver v1)
 simp only [List.nil_append] at o2
 have hblank : ∀ x ∈ l, x.2.1 = false → isBlank sf x.1 := fun x hx hf => by
  obtain ⟨cells, c1, c2, c3⟩ := b2 x hx hf
  exact ⟨cells, h2.box c1, c2, c3⟩
 have o0 : OK X w FZ β sf [] := by simpa using o2.take 0
 have oS := o0.strip
 generalize hro : (ms.any Mode.isBor || l.any fun x => x.2.1) = anyRo
 let A : Nat → Prop := fun b => bif anyRo then Rd X w FZ β (strip sf) [] b else X.RO b
 have toSf : ∀ {u b}, Bl w β (strip sf) [] u b → ∃ id, u = .inl id ∧ Bl w β sf (lw ++ lo) (.inl id) b ∧ (strip sf id).o ≠ none := by
  rintro (id | k) b ⟨o, ho, hb⟩
  ·refine ⟨id, rfl, ⟨o, ?_, hb⟩, by rw [ho]; simp⟩
   have hso : stripO (sf id).o = some o := ho
   unfold stripO at hso
   split at hso
   ·rename_i cells hsf
    cases hall : cells.all V.isNo with
    | true => rw [hall] at hso; cases hso
    | false => rw [hall] at hso; rw [hsf]; exact hso
   ·exact hso
  ·simp at ho
 have hA0 : ∀ b, X.RO b → A b := fun b hb => by
  show bif anyRo then _ else _
  cases anyRo with
  | true => exact .inr (.inl hb)
  | false => exact hb
 have hA1 : ∀ b, A b → b < w.heap.size ∧ ¬ (∃ k, Bl w β sf (lw ++ lo) (.inr k) b) := by
  intro b hb
  have hb : bif anyRo then Rd X w FZ β (strip sf) [] b else X.RO b := hb
  have key : Rd X w FZ β (strip sf) [] b := by
   cases anyRo with
   | true => exact hb
   | false => exact .inr (.inl hb)
  refine ⟨oS.rd_lt key, ?_⟩
  rintro ⟨k, hk⟩
  rcases key with ⟨u, hu⟩ | hb | hb
  ·obtain ⟨id, rfl, hu, _⟩ := toSf hu
   exact o2.apart _ _ b (by simp) hu hk
  ·exact (o2.sep _ b hk).1 hb
  ·exact (o2.sep _ b hk).2.1 hb
 have hRd : anyRo = true → ∀ b, Rd X w FZ β (strip sf) [] b → A b := fun h b hb => by
  show bif anyRo then _ else _
  rw [h]; exact hb
 obtain ⟨lw', pL, mg', hAb⟩ := h3.sem (A := A) o0 pv (fun h => hRd (by rw [← hro, h, Bool.or_true]))
 have mgA := mg A (fun h => hRd (by rw [← hro, h, Bool.true_or]))
 have e1 := o2.enter (A := A) (W' := fun b => ∃ k, Bl w β sf (lw ++ lo) (.inr k) b) hA0 hA1 (fun k b hb => ⟨k, hb⟩) (fun _ => undef)
 have e2 := OK.merge (mg'.append mgA) (pre := []) (post := []) (by simpa using e1)
 simp only [List.nil_append, List.append_nil] at e2
 obtain ⟨β1, e3, x1, r1⟩ := OK.placeA aL (j := 0) m1 e2 (fun i _ _ => rfl)
 have fr : ∀ i, nArg as.length ≤ i → (inArgs as 0 (fun _ => ⟨0, none⟩) i).ver = 0 := fun i hi => by
  rw [inArgs_ne as 0 _ m1 (.inr (by simpa using hi))]
 have blk : ∀ {k : Nat} {ts : List T} {b : Nat}, pos[k]? = some (.box false ts) → (l.map fun x => β x.1)[k]? = some (.pointer (some ⟨b, 0, none⟩)) → ∃ x, l[k]? = some x ∧ x.2.1 = false ∧ isBlank sf x.1 ∧ Bl w β sf (lw ++ lo) (.inl x.1) b := by
  intro k ts b hk hy
  obtain ⟨x, hx, hf⟩ := pos_of h3 k ts hk
  rw [List.getElem?_map, hx] at hy
  have hb := hblank x (List.mem_of_getElem? hx) hf
  obtain ⟨cells, c1, c2, c3⟩ := hb
  exact ⟨x, hx, hf, ⟨cells, c1, c2, c3⟩, _, c1, rfl, Option.some.inj hy⟩
 obtain ⟨β2, e4, x2, n2, c2⟩ := OK.placePos pL (p := 0) (pend := []) m2 (by omega) (by simpa using e3) (fun i h _ => fr i (by simp only [nPO, nArg] at *; omega)) (fun i h _ => fr i (by simp only [nPC, nArg] at *; omega)) hAb
  (by
   rintro b ⟨k, ts, hk, hy⟩
   obtain ⟨x, hx, hf, hbl, hB⟩ := blk hk hy
   have hlt := o2.rd_lt (.inl ⟨_, hB⟩)
   refine ⟨hlt, fun ha => ?_, fun ⟨k', hk'⟩ => o2.apart _ _ b (by simp) hB hk', (o2.sep _ b hB).2.1⟩
   have ha : bif anyRo then Rd X w FZ β (strip sf) [] b else X.RO b := ha
   have key : Rd X w FZ β (strip sf) [] b := by
    cases anyRo with
    | true => exact ha
    | false => exact .inr (.inl ha)
   rcases key with ⟨u, hu⟩ | hb | hb
   ·obtain ⟨id, rfl, hu, hne⟩ := toSf hu
    by_cases e : id = x.1
    ·subst e; exact hne (strip_blank hbl)
    ·exact o2.apart _ _ b (by simpa using e) hu hB
   ·exact (o2.sep _ b hB).1 hb
   ·exact (o2.sep _ b hB).2.1 hb)
  (by
   intro k k' ts ts' b hk hy hk' hy'
   obtain ⟨x, hx, hf, hbl, hB⟩ := blk hk hy
   obtain ⟨x', hx', hf', hbl', hB'⟩ := blk hk' hy'
   have hid : x.1 = x'.1 := by
    by_cases e : x.1 = x'.1
    ·exact e
    ·exact absurd hB' (o2.apart _ _ b (by simpa using e) hB)
   have hpw := List.pairwise_filter.1 b4
   rcases Nat.lt_trichotomy k k' with h | h | h
   ·have := List.pairwise_iff_getElem.1 hpw k k' (List.getElem?_eq_some_iff.1 hx).1 (List.getElem?_eq_some_iff.1 hx').1 h
    rw [(List.getElem?_eq_some_iff.1 hx).2, (List.getElem?_eq_some_iff.1 hx').2] at this
    exact absurd hid (this (by simp [hf]) (by simp [hf']))
   ·exact h
   ·have := List.pairwise_iff_getElem.1 hpw k' k (List.getElem?_eq_some_iff.1 hx').1 (List.getElem?_eq_some_iff.1 hx).1 h
    rw [(List.getElem?_eq_some_iff.1 hx).2, (List.getElem?_eq_some_iff.1 hx').2] at this
    exact absurd hid.symm (this (by simp [hf']) (by simp [hf])))
 refine ⟨lw ++ lo, β2, o2, e4, fun k a x ha hx hd => ?_, ?_, ?_, hblank, fun i => Nat.le_trans (v1 i) (h2.ver i)⟩
 ·have := (r1 k a x ha hx hd).ext x2
  rw [Nat.zero_add] at this
  exact this
 ·intro k y hy
  have := n2 k y hy
  rw [Nat.zero_add] at this
  exact this
 ·intro k ro ts b hk hy
  have := c2 k ro ts b hk hy
  rw [Nat.zero_add] at this
  exact this
end Go.Vm
namespace Go.Vm
set_option linter.unusedVariables false
set_option linter.unusedSimpArgs false
variable {P : Program} {X X' : Cx} {FZ FZ' : Nat → Prop} {β β' : Nat → Value} {s s' sf : Objs} {w w' : World} {v : V} {fp fp' : List (Bool × Nat)} {pend L : List (T × Value)} {nm : List (Nat × Nat)}
 {ms : List Mode} {vs : List V} {as : List A} {iw : List IoW}
theorem lookN_cons {a b id n : Nat} {l : List (Nat × Nat)} (h : lookN ((a, b) :: l) id = some n) : (a = id ∧ b = n) ∨ lookN l id = some n := by
 unfold lookN at h ⊢
 rw [List.find?_cons] at h
 split at h
 ·rename_i he
  exact .inl ⟨beq_eq he, Option.some.inj h⟩
 ·exact .inr h
theorem lookN_append {id n : Nat} {l l' : List (Nat × Nat)} (h : lookN (l ++ l') id = some n) : lookN l id = some n ∨ lookN l' id = some n := by
 induction l with
 | nil => exact .inr h
 | cons a l ih =>
  obtain ⟨a, b⟩ := a
  unfold lookN at h ih ⊢
  rw [List.cons_append, List.find?_cons] at h
  rw [List.find?_cons]
  cases he : Nat.beq a id with
  | true => rw [he] at h; exact .inl h
  | false => rw [he] at h; exact ih h
theorem cellNames_spec {p id n : Nat} : ∀ (cells : List V) (c : Nat), lookN (cellNames p c cells) id = some n → ∃ i len sz, cells[i]? = some (.sl id true 0 len sz) ∧ n = nPC p + (c + i)
 | [], c, h => by cases h
 | v :: vs, c, h => by
  have next : lookN (cellNames p (c + 1) vs) id = some n → ∃ i len sz, (v :: vs)[i]? = some (.sl id true 0 len sz) ∧ n = nPC p + (c + i) := fun h => by
   obtain ⟨i, len, sz, h1, h2⟩ := cellNames_spec vs (c + 1) h
   exact ⟨i + 1, len, sz, h1, by omega⟩
  unfold cellNames at h
  split at h
  ·cases h
  ·rename_i heq
   injection heq with e1 e2
   subst e1 e2
   rcases lookN_cons h with ⟨rfl, rfl⟩ | h
   ·exact ⟨0, _, _, rfl, by omega⟩
   ·exact next h
  ·rename_i heq
   injection heq with e1 e2
   subst e1 e2
   exact next h
theorem OwnE.shape {id off len sz : Nat} {e : Bool} {t : T} (h : OwnE s (.sl id e off len sz) t s') : ∃ f rs, t = .sl f sz rs := by cases h <;> exact ⟨_, _, rfl⟩
theorem OwnLs.at {us : List V} {ts : List T} (h : OwnLs s us ts s') : ∀ {i id off len sz : Nat} {e : Bool}, us[i]? = some (V.sl id e off len sz) → ∃ f rs, ts[i]? = some (T.sl f sz rs) := by
 induction h with
 | nil => intro i id off len sz e h; simp at h
 | cons h _ ih =>
  intro i id off len sz e hi
  cases i with
  | zero =>
   simp only [List.getElem?_cons_zero, Option.some.injEq] at hi
   subst hi
   obtain ⟨f, rs, rfl⟩ := h.shape
   exact ⟨f, rs, rfl⟩
  | succ i => exact ih (by simpa using hi)
theorem BorLs.at {us : List V} {ts : List T} (h : BorLs s us ts) : ∀ {i id off len sz : Nat} {e : Bool}, us[i]? = some (V.sl id e off len sz) → ∃ f rs, ts[i]? = some (T.sl f sz rs) := by
 induction h with
 | nil => intro i id off len sz e h; simp at h
 | cons h _ ih =>
  intro i id off len sz e hi
  cases i with
  | zero =>
   simp only [List.getElem?_cons_zero, Option.some.injEq] at hi
   subst hi
   obtain ⟨rs, rfl⟩ := h.shape
   exact ⟨_, rs, rfl⟩
  | succ i => exact ih (by simpa using hi)
theorem PW.box {p : Nat} {l : List (Nat × Bool × Option O)} {tss : List (List T)} {ws : List (Nat × Nat × List Kd × List Fl)} (h : PW s p l tss ws nm s') {id : Nat} {ro : Bool} {cells : List V} (ho : (s id).o = some (.box ro cells)) :
  (s' id).o = some (.box ro cells) ∨ isBlank s' id := by
 have keepB : ∀ {s p l tss ws nm s'}, PW s p l tss ws nm s' → isBlank s id → isBlank s' id := by
  intro s p l tss ws nm s' h hb
  induction h with
  | nil => exact hb
  | rb ho hs ih => exact ih hb
  | rr ho hs ih => exact ih hb
  | @w s s1 s' p id' o cells' ts l tss ws nm ho' hn h hs ih =>
   refine ih ?_
   by_cases e : id = id'
   ·subst e
    exact ⟨cells'.map fun _ => V.no, by simp, by simpa using hn, fun v hv => by obtain ⟨_, _, rfl⟩ := List.mem_map.1 hv; rfl⟩
   ·obtain ⟨cs, c1, c2, c3⟩ := hb
    exact ⟨cs, by rw [putS_ne _ _ _ e]; exact h.box c1, c2, c3⟩
 induction h with
 | nil => exact .inl ho
 | rb _ hs ih => exact ih ho
 | rr _ hs ih => exact ih ho
 | @w s s1 s' p id' o cells' ts l tss ws nm ho' hn h hs ih =>
  by_cases e : id = id'
  ·subst e
   exact .inr (keepB hs ⟨cells'.map fun _ => V.no, by simp, by simpa using hn, fun v hv => by obtain ⟨_, _, rfl⟩ := List.mem_map.1 hv; rfl⟩)
  ·exact ih (by rw [putS_ne _ _ _ e]; exact h.box ho)
def Nam (w : World) (β : Nat → Value) (l : List (Nat × Bool × Option O)) (pos : List PO) (p id n : Nat) : Prop :=
 (∃ (k : Nat) (x : Nat × Bool × Option O), l[k]? = some x ∧ x.1 = id ∧ n = nPO (p + k)) ∨
 (∃ (k i : Nat) (x : Nat × Bool × Option O) (ro : Bool) (ts : List T) (b : Nat) (y : Value) (sz : Nat) (f : Fl) (rs : List (List T)) (len : Nat) (vr : Nat → Nat), l[k]? = some x ∧ pos[k]? = some (.box ro ts) ∧ n = nPC (p + k) + i ∧
  β x.1 = .pointer (some ⟨b, 0, none⟩) ∧ (∃ c, Row w b c ∧ c[i]? = some y) ∧ ts[i]? = some (.sl f sz rs) ∧ RepV vr β (.sl id true 0 len sz) y)
theorem Nam.cons {l : List (Nat × Bool × Option O)} {pos : List PO} {p id n : Nat} {x0 : Nat × Bool × Option O} {q0 : PO} (h : Nam w β l pos (p + 1) id n) : Nam w β (x0 :: l) (q0 :: pos) p id n := by
 rcases h with ⟨k, x, a1, a2, a3⟩ | ⟨k, i, x, ro, ts, b, y, sz, f, rs, len, vr, a1, a2, a3, a4⟩
 ·exact .inl ⟨k + 1, x, a1, a2, by rw [a3]; congr 1; omega⟩
 ·exact .inr ⟨k + 1, i, x, ro, ts, b, y, sz, f, rs, len, vr, a1, a2, by rw [a3, show p + 1 + k = p + (k + 1) by omega], a4⟩
theorem PW.names {p : Nat} {l : List (Nat × Bool × Option O)} {tss : List (List T)} {ws : List (Nat × Nat × List Kd × List Fl)} (h : PW s p l tss ws nm s') : ∀ {pos : List PO} {pend : List (T × Value)}, (∀ id ro cells, (s' id).o = some (.box ro cells) → (sf id).o = some (.box ro cells)) →
  OK X w FZ β s pend → PR sf l tss pos → ∀ {id n : Nat}, lookN nm id = some n → Nam w β l pos p id n := by
 induction h with
 | nil => intro pos pend _ hO hR id n hn; cases hn
 | @w s s1 s' p id' o cells ts l tss ws nm ho hn h hs ih =>
  intro pos pend hbox hO hR id n hlk
  cases hR with
  | w hR =>
   obtain ⟨b, c, hb, hrow, hcs, hcc, _⟩ := hO.rep id' _ ho
   have h1 := foldOwn_sem h hO (xs := c.toList) (by simpa using hcs) (fun i u x hu hx => (hcc i u x hu (by rw [← Array.getElem?_toList]; exact hx)).1)
   have h2 := h1.writeBox (h.box ho) hb (Wr.refl hrow) true (cells' := cells.map fun _ => .no) (by simp; exact hcs) (fun j v x hj hx => by
    rw [List.getElem?_map, Option.map_eq_some_iff] at hj
    obtain ⟨u, hu, rfl⟩ := hj
    exact ⟨.no, (hcc j u x hu hx).2⟩)
   rcases lookN_cons hlk with ⟨rfl, rfl⟩ | hlk
   ·exact .inl ⟨0, _, rfl, rfl, rfl⟩
   ·rcases lookN_append hlk with hlk | hlk
    ·obtain ⟨i, len, sz, hi, rfl⟩ := cellNames_spec cells 0 hlk
     obtain ⟨f, rs, hts⟩ := h.at hi
     have hil := (List.getElem?_eq_some_iff.1 hi).1
     have hy : c[i]? = some c[i] := Array.getElem?_eq_getElem (by omega)
     exact .inr ⟨0, i, _, false, ts, b, c[i], sz, f, rs, len, _, rfl, rfl, by simp, hb, ⟨c, hrow, hy⟩, hts, (hcc i _ _ hi hy).1⟩
    ·exact (ih hbox h2 hR hlk).cons
 | @rb s s' p id' o ro' cells l tss ws nm ho hs ih =>
  intro pos pend hbox hO hR id n hlk
  cases hR with
  | @box _ _ ro2 cells2 ts _ _ _ pos ho2 hn2 hB hR =>
   rcases lookN_cons hlk with ⟨rfl, rfl⟩ | hlk
   ·exact .inl ⟨0, _, rfl, rfl, rfl⟩
   ·rcases lookN_append hlk with hlk | hlk
    ·obtain ⟨b, c, hb, hrow, hcs, hcc, _⟩ := hO.rep id' _ ho
     obtain ⟨i, len, sz, hi, rfl⟩ := cellNames_spec cells 0 hlk
     have hcells : cells2 = cells := by
      rcases hs.box ho with h1 | ⟨cs, c1, c2, c3⟩
      ·have := hbox _ _ _ h1
       rw [ho2] at this
       injection this with this
       injection this
      ·have := hbox _ _ _ c1
       rw [ho2] at this
       injection this with this
       injection this with _ this
       subst this
       cases cells2 with
       | nil => simp at c2
       | cons v vs => exact absurd (c3 v (by simp)) (hB.notNo v (by simp))
     subst hcells
     obtain ⟨f, rs, hts⟩ := hB.at hi
     have hil := (List.getElem?_eq_some_iff.1 hi).1
     have hy : c[i]? = some c[i] := Array.getElem?_eq_getElem (by omega)
     exact .inr ⟨0, i, _, true, ts, b, c[i], sz, f, rs, len, _, rfl, rfl, by simp, hb, ⟨c, hrow, hy⟩, hts, (hcc i _ _ hi hy).1⟩
    ·exact (ih hbox hO hR hlk).cons
  | @rows _ _ _ _ _ _ _ _ pos ho2 hR =>
   have : False := by
    rcases hs.box ho with h1 | ⟨cs, c1, c2, c3⟩
    ·have := hbox _ _ _ h1
     rw [ho2] at this
     cases this
    ·have := hbox _ _ _ c1
     rw [ho2] at this
     cases this
   exact this.elim
 | @rr s s' p id' o f sz rs l tss ws nm ho hs ih =>
  intro pos pend hbox hO hR id n hlk
  cases hR with
  | box ho2 hn2 hB hR =>
   rcases lookN_cons hlk with ⟨rfl, rfl⟩ | hlk
   ·exact .inl ⟨0, _, rfl, rfl, rfl⟩
   ·exact (ih hbox hO hR hlk).cons
  | rows ho2 hR =>
   rcases lookN_cons hlk with ⟨rfl, rfl⟩ | hlk
   ·exact .inl ⟨0, _, rfl, rfl, rfl⟩
   ·exact (ih hbox hO hR hlk).cons
theorem Nam.rep {l : List (Nat × Bool × Option O)} {pos : List PO} {id n sz i j : Nat} {x : Value} {β2 : Nat → Value} {s2 : Objs} (h : Nam w β l pos 0 id n) (hx : RepV (vers s) β (.pt id sz i j) x)
  (hn : ∀ (k : Nat) (y : Value), (l.map fun x => β x.1)[k]? = some y → 1 ≤ (s2 (nPO k)).ver ∧ β2 (nPO k) = y)
  (hc : ∀ (k : Nat) ro ts b, pos[k]? = some (.box ro ts) → (l.map fun x => β x.1)[k]? = some (.pointer (some ⟨b, 0, none⟩)) → ∃ c, Row w b c ∧ c.size = ts.length ∧ ∀ (i : Nat) f sz rs x, ts[i]? = some (.sl f sz rs) → c[i]? = some x →
    1 ≤ (s2 (nPC k + i)).ver ∧ β2 (nPC k + i) = x) : RepV (vers s2) β2 (.pt n sz i j) x := by
 rcases h with ⟨k, x0, a1, rfl, rfl⟩ | ⟨k, i0, x0, ro, ts, b, y, sz0, f, rs, len, vr, a1, a2, rfl, a4, ⟨c, a5, a6⟩, a7, a8⟩
 ·rw [Nat.zero_add]
  obtain ⟨h1, h2⟩ := hn k _ (by rw [List.getElem?_map, a1]; rfl)
  cases hx with
  | ptb hv hb => exact .ptb h1 (h2.trans hb)
  | pts hv hb hi => exact .pts h1 (h2.trans hb) hi
 ·rw [Nat.zero_add]
  obtain ⟨c', b1, b2, b3⟩ := hc k ro ts b a2 (by rw [List.getElem?_map, a1]; exact congrArg some a4)
  obtain rfl := b1.inj a5
  obtain ⟨h1, h2⟩ := b3 i0 f sz0 rs y a7 a6
  cases hx with
  | ptb hv hb => cases a8 with
   | sl0 _ _ hb' => rw [hb] at hb'; cases hb'
   | se _ hb' => rw [hb] at hb'; cases hb'
   | sl _ hb' => rw [hb] at hb'; cases hb'
  | pts hv hb hi =>
   cases a8 with
   | sl0 _ _ hb' => rw [hb] at hb'; cases hb'
   | se _ hb' => rw [hb] at hb'; cases hb'; omega
   | sl _ hb' p1 p2 p3 p4 p5 =>
    rw [hb] at hb'
    injection hb' with hb' e2 e3
    injection hb' with hb'
    injection hb' with e4 e5 _
    subst e2 e3 e4 e5
    have := p4 rfl
    rcases p5 with p5 | ⟨p5, _⟩
    ·rw [Nat.zero_mul, Nat.add_zero] at p5
     subst p5
     exact .pts h1 h2 (by omega)
    ·omega
end Go.Vm
namespace Go.Vm
set_option linter.unusedVariables false
set_option linter.unusedSimpArgs false
variable {P : Program} {X X' : Cx} {FZ FZ' : Nat → Prop} {β β' : Nat → Value} {s s' sf : Objs} {w w' : World} {v : V} {fp fp' : List (Bool × Nat)} {pend L : List (T × Value)} {nm : List (Nat × Nat)}
 {ms : List Mode} {vs : List V} {as : List A} {iw : List IoW}
theorem FA.ptr (h : FA nm sf s ms vs as iw) : ∀ {k : Nat} {a : A}, as[k]? = some a →
  a.isData = true ∨ ∃ v, vs[k]? = some v ∧ ((∃ id sz i j, v = V.pt id sz i j ∧ a = trP nm v) ∨ ∃ f caps, v = V.fn f caps ∧ a = A.fn f (caps.map (trP nm))) := by
 induction h with
 | nil => intro k a h; simp at h
 | pt h ih =>
  intro k a hk
  cases k with
  | zero => exact .inr ⟨_, rfl, .inl ⟨_, _, _, _, rfl, by simpa using hk.symm⟩⟩
  | succ k => exact ih (by simpa using hk)
 | fn h ih =>
  intro k a hk
  cases k with
  | zero => exact .inr ⟨_, rfl, .inr ⟨_, _, rfl, by simpa using hk.symm⟩⟩
  | succ k => exact ih (by simpa using hk)
 | ioC hb h ih =>
  intro k a hk
  cases k with
  | zero => simp only [List.getElem?_cons_zero, Option.some.injEq] at hk; subst hk; exact .inl rfl
  | succ k => exact ih (by simpa using hk)
 | ioA hb h ih =>
  intro k a hk
  cases k with
  | zero => simp only [List.getElem?_cons_zero, Option.some.injEq] at hk; subst hk; exact .inl rfl
  | succ k => exact ih (by simpa using hk)
 | agB hm hb h ih =>
  intro k a hk
  cases k with
  | zero => simp only [List.getElem?_cons_zero, Option.some.injEq] at hk; subst hk; exact .inl rfl
  | succ k => exact ih (by simpa using hk)
 | agO hm hb h ih =>
  intro k a hk
  cases k with
  | zero => simp only [List.getElem?_cons_zero, Option.some.injEq] at hk; subst hk; exact .inl rfl
  | succ k => exact ih (by simpa using hk)
 | cB hm hb h ih =>
  intro k a hk
  cases k with
  | zero => simp only [List.getElem?_cons_zero, Option.some.injEq] at hk; subst hk; exact .inl rfl
  | succ k => exact ih (by simpa using hk)
 | cO hm hb h ih =>
  intro k a hk
  cases k with
  | zero => simp only [List.getElem?_cons_zero, Option.some.injEq] at hk; subst hk; exact .inl rfl
  | succ k => exact ih (by simpa using hk)
theorem FA.length (h : FA nm sf s ms vs as iw) : as.length = vs.length := by
 induction h with
 | nil => rfl
 | _ => simp [*]
theorem rep_unA0 {vr : Nat → Nat} {β : Nat → Value} {n : Nat} {a : A} {x : Value} (h : RepV vr β (unA n a) x) : RepV vr β (unA0 n a) x := by
 unfold unA0
 split
 ·have h : RepV vr β (.im (.slice none 0 0)) x := h
  cases h with
  | im => exact .nl
 ·exact h
theorem unA0_rep {vr : Nat → Nat} {β : Nat → Value} {n : Nat} {a : A} {x : Value} (h : RepV vr β (unA0 n a) x) : RepV vr β (unA n a) x := by
 unfold unA0 at h
 split at h
 ·cases h with
  | nl => exact .im trivial
 ·exact h
theorem inTm_get : ∀ (as : List A) (j k : Nat) (a : A), as[k]? = some a → inTm as j (j + k) = unA0 (nArg (j + k)) a
 | [], j, k, a, h => by simp at h
 | b :: as, j, 0, a, h => by
  simp only [List.getElem?_cons_zero, Option.some.injEq] at h
  subst h
  rw [inTm, Nat.add_zero]; exact upd_same _ _ _
 | b :: as, j, k + 1, a, h => by
  have := inTm_get as (j + 1) k a (by simpa using h)
  rw [show j + 1 + k = j + (k + 1) by omega] at this
  rw [inTm, upd_ne _ _ (by omega)]; exact this
theorem trP_rep {id sz i j q : Nat} {x : Value} {vr : Nat → Nat} (h : ∀ n, lookN nm id = some n → RepV vr β (.pt n sz i j) x) : RepV vr β (unA q (trP nm (.pt id sz i j))) x := by
 unfold trP
 dsimp only
 cases hk : lookN nm id with
 | none => exact .no
 | some n => exact h n hk
theorem unGo_get : ∀ (caps : List V) (i : Nat) (u : V), (unA.go (caps.map (trP nm)))[i]? = some u → ∃ c, caps[i]? = some c ∧ ((u = .no) ∨ ∃ id sz k j n, c = .pt id sz k j ∧ lookN nm id = some n ∧ u = .pt n sz k j)
 | [], i, u, h => by simp [unA.go] at h
 | c :: caps, 0, u, h => by
  refine ⟨c, rfl, ?_⟩
  rw [List.map_cons] at h
  cases c with
  | pt id sz k j =>
   unfold trP at h
   dsimp only at h
   cases hk : lookN nm id with
   | none => rw [hk] at h; simp only [unA.go, List.getElem?_cons_zero, Option.some.injEq] at h; exact .inl h.symm
   | some n => rw [hk] at h; simp only [unA.go, List.getElem?_cons_zero, Option.some.injEq] at h; exact .inr ⟨id, sz, k, j, n, rfl, hk, h.symm⟩
  | _ => simp only [trP, unA.go, List.getElem?_cons_zero, Option.some.injEq] at h; exact .inl h.symm
 | c :: caps, i + 1, u, h => by
  rw [List.map_cons] at h
  have : (unA.go (caps.map (trP nm)))[i]? = some u := by
   cases hc : trP nm c <;> rw [hc] at h <;> simpa [unA.go] using h
  obtain ⟨c', h1, h2⟩ := unGo_get caps i u this
  exact ⟨c', h1, h2⟩
theorem unGo_length : ∀ (caps : List A), (unA.go caps).length = caps.length
 | [] => rfl
 | c :: caps => by cases c <;> simp [unA.go, unGo_length caps]
theorem args_rep {xs : List Value} {β2 : Nat → Value} {s2 : Objs} (h : FA nm sf s' ms vs as iw) (hl : xs.length = vs.length) (hr : ∀ (i : Nat) (u : V) (x : Value), vs[i]? = some u → xs[i]? = some x → RepV (vers s) β u x)
  (hd : ∀ (k : Nat) (a : A) (x : Value), as[k]? = some a → xs[k]? = some x → a.isData = true → RepV (vers s2) β2 (unA (nArg k) a) x)
  (hp : ∀ {id n sz i j : Nat} {x : Value}, lookN nm id = some n → RepV (vers s) β (.pt id sz i j) x → RepV (vers s2) β2 (.pt n sz i j) x) :
  ∀ (j : Nat) (x : Value), xs[j]? = some x → RepV (vers s2) β2 (inTm as 0 j) x := by
 intro j x hx
 have hj := (List.getElem?_eq_some_iff.1 hx).1
 have ha : as[j]? = some (as[j]'(by rw [h.length]; omega)) := List.getElem?_eq_getElem _
 have hg := inTm_get as 0 j _ ha
 rw [Nat.zero_add] at hg
 rw [hg]
 refine rep_unA0 ?_
 rcases h.ptr ha with hdt | ⟨v, hv, ⟨id, sz, i, j', rfl, hq⟩ | ⟨f, caps, rfl, hq⟩⟩
 ·exact hd j _ x ha hx hdt
 ·rw [hq]
  exact trP_rep fun n hn => hp hn (hr j _ x hv hx)
 ·rw [hq]
  have hf := hr j _ x hv hx
  cases hf with
  | fn hcl hcr =>
   refine .fn (by rw [unGo_length]; simpa using hcl) fun i u y hu hy => ?_
   obtain ⟨c, h1, h2⟩ := unGo_get caps i u hu
   rcases h2 with rfl | ⟨id, sz, k, j', n, rfl, hn, rfl⟩
   ·exact .no
   ·exact hp hn (hcr i _ y h1 hy)
def packV : List Value → Value
 | [x] => x
 | xs => .tuple xs.toArray
inductive BoxL (w : World) (β : Nat → Value) (s : Objs) : Nat → List PO → List PO → List (T × Value) → Prop
 | nil {p} : BoxL w β s p [] [] []
 | ro {p ts q ps os l} (h : BoxL w β s (p + 1) ps os l) : BoxL w β s p (.box true ts :: ps) (q :: os) l
 | rows {p f sz rs q ps os l} (h : BoxL w β s (p + 1) ps os l) : BoxL w β s p (.rows f sz rs :: ps) (q :: os) l
 | box {p ts0 ts ps os l b} {c : Array Value} (hb : Blank β s (nPO p) b ts.length) (hr : Row w b c) (hl : c.size = ts.length) (hn : ts.length = ts0.length) (h : BoxL w β s (p + 1) ps os l) :
   BoxL w β s p (.box false ts0 :: ps) (.box false ts :: os) (ts.zip c.toList ++ l)
def ioVal (xs : List Value) (p : Nat × Nat × Nat) : Value := (xs.getD p.1 undef).cells.getD p.2.1 undef
def Res (X : Cx) (w : World) (FZ : Nat → Prop) (β : Nat → Value) (ios : List (Nat × Nat × Nat)) (xs : List Value) (pos : List PO) (out : Out) (x : Value) (w' : World) : Prop :=
 ∃ FZ' sB lb lr rvs, Wd X FZ FZ' w w' ∧ out.outs.length = ios.length ∧ OK X w' FZ' β sB (out.outs.zip (ios.map (ioVal xs)) ++ (lb ++ lr)) ∧
  BoxL w' β sB 0 pos out.pos lb ∧ ArgsL out.rets rvs lr ∧ x = packV rvs
def Callable (P : Program) (f : FuncId) : Prop := ∃ fn, P.funcs[f]? = some fn ∧ fn.body.isNone = false ∧ (fn.name == "runtime.NumGoroutine") = false
def Sound (P : Program) (ms : List Mode) (f : FuncId) (as : List A) (pos : List PO) (out : Out) : Prop :=
 Callable P f ∧ smallAll as pos = true ∧ ∀ (X : Cx) (w : World) (FZ : Nat → Prop) (β : Nat → Value) (xs : List Value), X.n0 = w.heap.size → OK X w FZ β (entry as pos) [] → xs.length = as.length →
  (∀ (j : Nat) (x : Value), xs[j]? = some x → RepV (vers (entry as pos)) β (inTm as 0 j) x) →
  Calls P f xs.toArray w fun e w' => ∃ x, e = .returned x ∧ Res X w FZ β (iosOf ms as 0) xs pos out x w'
end Go.Vm
namespace Go.Vm
set_option linter.unusedVariables false
set_option linter.unusedSimpArgs false
variable {P : Program} {X X' : Cx} {FZ FZ' : Nat → Prop} {β β' : Nat → Value} {s s' sf sB : Objs} {w w' : World} {v : V} {fp fp' : List (Bool × Nat)} {pend L : List (T × Value)} {nm : List (Nat × Nat)}
 {ms : List Mode} {vs : List V} {as : List A} {iw : List IoW} {l : List (Nat × Bool × Option O)} {tss : List (List T)} {pos os : List PO} {anyRo : Bool}
theorem BoxL.at {p : Nat} {lb : List (T × Value)} (h : BoxL w β s p pos os lb) : ∀ (k : Nat) ts0, pos[k]? = some (.box false ts0) → ∃ b, Blank β s (nPO (p + k)) b ts0.length := by
 induction h with
 | nil => intro k ts0 hk; simp at hk
 | @ro p ts q ps os l h ih =>
  intro k ts0 hk
  cases k with
  | zero => simp at hk
  | succ k =>
   obtain ⟨b, hb⟩ := ih k ts0 (by simpa using hk)
   exact ⟨b, by rw [show p + (k + 1) = p + 1 + k by omega]; exact hb⟩
 | @rows p f sz rs q ps os l h ih =>
  intro k ts0 hk
  cases k with
  | zero => simp at hk
  | succ k =>
   obtain ⟨b, hb⟩ := ih k ts0 (by simpa using hk)
   exact ⟨b, by rw [show p + (k + 1) = p + 1 + k by omega]; exact hb⟩
 | @box p ts1 ts ps os l b c hb hr hl hn h ih =>
  intro k ts0 hk
  cases k with
  | zero =>
   simp only [List.getElem?_cons_zero, Option.some.injEq, PO.box.injEq, true_and] at hk
   subst hk
   exact ⟨b, by rw [← hn]; exact hb⟩
  | succ k =>
   obtain ⟨b, hb⟩ := ih k ts0 (by simpa using hk)
   exact ⟨b, by rw [show p + (k + 1) = p + 1 + k by omega]; exact hb⟩
theorem PR.at (h : PR sf l tss pos) : ∀ (k : Nat) x, l[k]? = some x → x.2.1 = false → ∃ ts, pos[k]? = some (.box false ts) := by
 induction h with
 | nil => intro k x hk; simp at hk
 | box ho hn hb hs ih =>
  intro k x hk hf
  cases k with
  | zero => simp only [List.getElem?_cons_zero, Option.some.injEq] at hk; subst hk; cases hf
  | succ k => exact ih k x (by simpa using hk) hf
 | rows ho hs ih =>
  intro k x hk hf
  cases k with
  | zero => simp only [List.getElem?_cons_zero, Option.some.injEq] at hk; subst hk; cases hf
  | succ k => exact ih k x (by simpa using hk) hf
 | w hs ih =>
  intro k x hk hf
  cases k with
  | zero => exact ⟨_, rfl⟩
  | succ k => exact ih k x (by simpa using hk) hf
theorem isBlank.blank {id b : Nat} (h : isBlank s id) (hb : β id = .pointer (some ⟨b, 0, none⟩)) : ∃ n, Blank β s id b n := by
 obtain ⟨cells, ho, hn, hno⟩ := h
 exact ⟨cells.length, hb, cells, ho, rfl, fun j v hj => hno v (List.mem_of_getElem? hj)⟩
theorem call_back {lb : List (T × Value)} (o2 : OK X w FZ β sf pend) (h3 : PR sf l tss pos) (hblank : ∀ x ∈ l, x.2.1 = false → isBlank sf x.1)
  (hn : ∀ (k : Nat) (y : Value), (l.map fun x => β x.1)[k]? = some y → β' (nPO k) = y)
  (hc : ∀ (k : Nat) ro ts b, pos[k]? = some (.box ro ts) → (l.map fun x => β x.1)[k]? = some (.pointer (some ⟨b, 0, none⟩)) → ∃ c : Array Value, Row w b c ∧ c.size = ts.length)
  (hres : OK (inCx X w FZ β sf pend anyRo pos (l.map fun x => β x.1)) w' FZ' β' sB L) (wd : Wd (inCx X w FZ β sf pend anyRo pos (l.map fun x => β x.1)) FZ FZ' w w') (bl : BoxL w' β' sB 0 pos os lb)
  (hro : anyRo = false ∨ ∀ (k : Nat) p, L[k]? = some p → p.1.noRo = true) : OK X w' FZ' β sf L ∧ Wd X FZ FZ' w w' := by
 have hW : ∀ b, (inCx X w FZ β sf pend anyRo pos (l.map fun x => β x.1)).W b → (∃ k, Bl w β sf pend (.inr k) b) ∨ ∃ id n, (∃ x ∈ l, x.2.1 = false ∧ x.1 = id) ∧ Blank β sf id b n := by
  rintro b (h | ⟨k, ts, hk, hy⟩)
  ·exact .inl h
  ·obtain ⟨x, hx, hf⟩ := pos_of h3 k ts hk
   rw [List.getElem?_map, hx] at hy
   have hm := List.mem_of_getElem? hx
   obtain ⟨n, hb⟩ := (hblank x hm hf).blank (Option.some.inj hy)
   exact .inr ⟨x.1, n, ⟨x, hm, hf, rfl⟩, hb⟩
 have hWX : ∀ b, (inCx X w FZ β sf pend anyRo pos (l.map fun x => β x.1)).W b → X.W b ∨ X.n0 ≤ b := by
  intro b hb
  rcases hW b hb with ⟨k, hk⟩ | ⟨id, n, _, hbl⟩
  ·exact (o2.sep _ b hk).2.2
  ·exact (o2.sep _ b hbl.bl).2.2
 refine ⟨o2.back (Hd := fun id => ∃ x ∈ l, x.2.1 = false ∧ x.1 = id) rfl (fun b hb => ?_) hW hres wd ?_ ?_, ⟨wd.os, wd.tape, wd.output, wd.drawn, wd.size, fun b hb hw => wd.old b (Nat.lt_of_lt_of_le hb o2.n0) fun h => ?_, wd.row, wd.fz, fun b hb => ?_⟩⟩
 ·show bif anyRo then _ else _
  cases anyRo with
  | true => exact .inr (.inl hb)
  | false => exact hb
 ·rintro id b n ⟨x, hx, hf, rfl⟩ hbl
  obtain ⟨k, hk⟩ := List.mem_iff_getElem?.1 hx
  obtain ⟨ts, hts⟩ := h3.at k x hk hf
  have hy : (l.map fun x => β x.1)[k]? = some (.pointer (some ⟨b, 0, none⟩)) := by
   rw [List.getElem?_map, hk]; exact congrArg some hbl.1
  obtain ⟨b', hb'⟩ := bl.at k ts hts
  rw [Nat.zero_add] at hb'
  have hbb : b' = b := by
   have h1 := hb'.1
   rw [hn k _ hy] at h1
   injection h1 with h1
   injection h1 with h1
   injection h1 with h1 _ _
   exact h1.symm
  subst hbb
  obtain ⟨c, hrow, hcs⟩ := hc k false ts b' hts hy
  obtain ⟨_, cells, ho, hcl, hno⟩ := hbl
  obtain ⟨b2, c2, q1, q2, q3, _⟩ := o2.rep x.1 _ ho
  have e : b2 = b' := by
   have hβ : β x.1 = .pointer (some ⟨b', 0, none⟩) := by
    rw [List.getElem?_map, hk] at hy
    exact Option.some.inj hy
   rw [q1] at hβ
   injection hβ with h1
   injection h1 with h1
   injection h1
  subst e
  obtain rfl := q2.inj hrow
  refine ⟨nPO k, ?_⟩
  rw [show n = ts.length by omega]
  exact hb'
 ·intro k p hk
  have hp := hres.pow k p hk
  rcases hro with rfl | hno
  ·exact hp
  ·exact hp.noRo (hno k p hk)
 ·rcases hWX b h with h | h
  ·exact hw h
  ·exact Nat.lt_irrefl _ (Nat.lt_of_lt_of_le hb h)
 ·rcases wd.fz' b hb with h | h | h
  ·exact .inl h
  ·exact .inr (hWX b h)
  ·exact .inr (.inr (Nat.le_trans o2.n0 h))
end Go.Vm
namespace Go.Vm
set_option linter.unusedVariables false
set_option linter.unusedSimpArgs false
variable {P : Program} {X X' : Cx} {FZ FZ' : Nat → Prop} {β β' : Nat → Value} {s s' sf sB : Objs} {w w' : World} {v : V} {fp fp' : List (Bool × Nat)} {pend L : List (T × Value)} {nm : List (Nat × Nat)}
theorem putAll_append (out : Out) : ∀ (a b : WS) (s : Objs), putAll out (a ++ b) s = (putAll out a s).bind (putAll out b)
 | [], b, s => rfl
 | (nw, i, f) :: a, b, s => by
  rw [List.cons_append, putAll, putAll]
  cases (!nw || Nat.beq (s i).ver 0) with
  | true => exact putAll_append out a b _
  | false => rfl
theorem putAll_snoc {out : Out} {a : WS} {nw : Bool} {i : Nat} {f : Out → Option O → Option O} {s s' : Objs} (h : putAll out (a ++ [(nw, i, f)]) s = some s') :
  ∃ s1, putAll out a s = some s1 ∧ (nw = true → (s1 i).ver = 0) ∧ s' = putS s1 i true (f out (s1 i).o) := by
 rw [putAll_append] at h
 cases ha : putAll out a s with
 | none => rw [ha] at h; cases h
 | some s1 =>
  rw [ha] at h
  have h : putAll out [(nw, i, f)] s1 = some s' := h
  rw [putAll] at h
  cases hc : (!nw || Nat.beq (s1 i).ver 0) with
  | false => rw [hc] at h; cases h
  | true =>
   rw [hc] at h
   refine ⟨s1, rfl, fun hn => ?_, (Option.some.inj h).symm⟩
   rw [hn] at hc
   exact beq_eq (by simpa using hc)
theorem etaK_eq {f : Fl} {k : Kd} {t : T} (h : T.okK f k t = true) : T.etaK f k t = t := by
 cases k with
 | sl sz =>
  obtain ⟨rs, rfl⟩ := okSl_spec h
  rfl
 | int k =>
  obtain ⟨v, rfl, h2⟩ := okK_im (by simp) h
  exact congrArg T.im h2
 | bool =>
  obtain ⟨v, rfl, h2⟩ := okK_im (by simp) h
  exact congrArg T.im h2
 | str =>
  obtain ⟨v, rfl, h2⟩ := okK_im (by simp) h
  exact congrArg T.im h2
 | oth => rfl
theorem okK_unO {f : Fl} {k : Kd} {t : T} (h : T.okK f k t = true) : unO t = match k with | .sl sz => some (.rows f sz t.rws) | _ => none := by
 cases k with
 | sl sz =>
  obtain ⟨rs, rfl⟩ := okSl_spec h
  rfl
 | int k => obtain ⟨v, rfl, _⟩ := okK_im (by simp) h; rfl
 | bool => obtain ⟨v, rfl, _⟩ := okK_im (by simp) h; rfl
 | str => obtain ⟨v, rfl, _⟩ := okK_im (by simp) h; rfl
 | oth => cases t <;> cases h
theorem nKey_add (key a m : Nat) : nKey key (a + m) = nKey key a + m := by simp only [nKey]; omega
theorem go_place {f : Fl} {key k : Nat} {out : Out} {T' : Nat → T} (hT : ∀ m, (out.rets.getD k .no).ts.getD m .no = T' m) : ∀ (ks : List Kd) (ts : List T) (xs : List Value) (m : Nat) {s s' : Objs}, ts.length = ks.length → xs.length = ts.length →
  okL f ks T' m = true → (∀ i t, ts[i]? = some t → T' (m + i) = t) → putAll out (retW.go f key k ks m) s = some s' → OK X w FZ β s (pend ++ ts.zip xs) →
  ∃ β', OK X w FZ β' s' pend ∧ Ext s β s' β' ∧ ∀ (i : Nat) (v : V) (x : Value), (unL (nKey key (64 * k + m)) (etaL f ks T' m))[i]? = some v → xs[i]? = some x → RepV (vers s') β' v x := by
 intro ks ts
 induction ts generalizing ks pend with
 | nil =>
  intro xs m s s' h1 h2 hok hts hp hO
  cases ks with
  | cons k ks => cases h1
  | nil =>
   obtain rfl := Option.some.inj hp
   exact ⟨β, by simpa using hO, Ext.refl _ _, fun i v x hv => by simp [etaL, unL] at hv⟩
 | cons t ts ih =>
  intro xs m s s' h1 h2 hok hts hp hO
  cases ks with
  | nil => cases h1
  | cons kd ks =>
   cases xs with
   | nil => cases h2
   | cons x xs =>
    rw [okL, Bool.and_eq_true] at hok
    have ht : T' m = t := hts 0 t rfl
    have hkt := hok.1
    rw [ht] at hkt
    have hun := okK_unO hkt
    have hO' : OK X w FZ β s ((pend ++ [(t, x)]) ++ ts.zip xs) := by simpa using hO
    have hts' : ∀ i t', ts[i]? = some t' → T' (m + 1 + i) = t' := fun i t' h => by
     have := hts (i + 1) t' (by simpa using h)
     rw [show m + 1 + i = m + (i + 1) by omega]; exact this
    have fin : ∀ {s1}, putAll out (retW.go f key k ks (m + 1)) s = some s1 → ((unO t).isSome = true → (s1 (nKey key (64 * k + m))).ver = 0) → s' = putT (nKey key (64 * k + m)) t s1 →
      ∃ β', OK X w FZ β' s' pend ∧ Ext s β s' β' ∧ ∀ (i : Nat) (v : V) (x' : Value), (unL (nKey key (64 * k + m)) (etaL f (kd :: ks) T' m))[i]? = some v → (x :: xs)[i]? = some x' → RepV (vers s') β' v x' := by
     intro s1 hp1 hq hs
     obtain ⟨β1, o1, e1, r1⟩ := ih (pend := pend ++ [(t, x)]) ks xs (m + 1) (by simpa using h1) (by simpa using h2) hok.2 hts' hp1 hO'
     have hpl : OK X w FZ (updT β1 (nKey key (64 * k + m)) t x) (putT (nKey key (64 * k + m)) t s1) pend ∧ Ext s1 β1 (putT (nKey key (64 * k + m)) t s1) (updT β1 (nKey key (64 * k + m)) t x) ∧
       RepV (vers (putT (nKey key (64 * k + m)) t s1)) (updT β1 (nKey key (64 * k + m)) t x) (unT (nKey key (64 * k + m)) t) x := by
      cases hu : (unO t).isSome with
      | true => exact o1.placeT (by unfold nKey; omega) (hq hu)
      | false =>
       have hp : Ow w X.RO FZ t x := o1.pow pend.length (t, x) (by simp)
       have ho : OK X w FZ β1 s1 pend := by
        have := o1.take pend.length
        simpa using this
       cases t with
       | im v =>
        refine ⟨ho, Ext.refl _ _, ?_⟩
        cases hp with
        | im hf => exact .im hf
       | no => exact ⟨ho, Ext.refl _ _, .no⟩
       | sl f sz rs => cases hu
     obtain ⟨o2, e2, r2⟩ := hpl
     subst hs
     refine ⟨_, o2, e1.trans e2, fun i v x' hv hx => ?_⟩
     rw [etaL, ht, etaK_eq hkt] at hv
     cases i with
     | zero =>
      simp only [unL, List.getElem?_cons_zero, Option.some.injEq] at hv hx
      subst hv hx
      exact r2
     | succ i =>
      simp only [unL, List.getElem?_cons_succ] at hv hx
      exact (r1 i v x' (by rw [← Nat.add_assoc, nKey_add _ _ 1]; exact hv) hx).ext e2
    cases kd with
    | sl sz =>
     have hp' : putAll out (retW.go f key k ks (m + 1) ++ [(true, nKey key (64 * k + m), fun (o : Out) (_ : Option O) => some (.rows f sz (((o.rets.getD k .no).ts.getD m .no).rws)))]) s = some s' := hp
     obtain ⟨s1, a1, a2, a3⟩ := putAll_snoc hp'
     refine fin a1 (fun _ => a2 rfl) ?_
     rw [a3, putT, hun]
     simp only [hT, ht]
    | int kk => exact fin (s1 := s') hp (fun h => by rw [hun] at h; cases h) (by rw [putT, hun])
    | bool => exact fin (s1 := s') hp (fun h => by rw [hun] at h; cases h) (by rw [putT, hun])
    | str => exact fin (s1 := s') hp (fun h => by rw [hun] at h; cases h) (by rw [putT, hun])
    | oth => exact fin (s1 := s') hp (fun h => by rw [hun] at h; cases h) (by rw [putT, hun])
end Go.Vm
namespace Go.Vm
set_option linter.unusedVariables false
set_option linter.unusedSimpArgs false
variable {P : Program} {X X' : Cx} {FZ FZ' : Nat → Prop} {β β' : Nat → Value} {s s' sf sB : Objs} {w w' : World} {v : V} {fp fp' : List (Bool × Nat)} {pend L : List (T × Value)} {nm : List (Nat × Nat)}
theorem OK.placeU {t : T} {x : Value} {q : Nat} (o1 : OK X w FZ β s (pend ++ [(t, x)])) (hz : q ≠ 7) (hq : (unO t).isSome = true → (s q).ver = 0) :
  OK X w FZ (updT β q t x) (putT q t s) pend ∧ Ext s β (putT q t s) (updT β q t x) ∧ RepV (vers (putT q t s)) (updT β q t x) (unT q t) x := by
 cases hu : (unO t).isSome with
 | true => exact o1.placeT hz (hq hu)
 | false =>
  have hp : Ow w X.RO FZ t x := o1.pow pend.length (t, x) (by simp)
  have ho : OK X w FZ β s pend := by
   have := o1.take pend.length
   simpa using this
  cases t with
  | im v =>
   refine ⟨ho, Ext.refl _ _, ?_⟩
   cases hp with
   | im hf => exact .im hf
  | no => exact ⟨ho, Ext.refl _ _, .no⟩
  | sl f sz rs => cases hu
theorem rets_place {f : Fl} {key : Nat} {out : Out} {R : Nat → A} (hR : ∀ k, out.rets.getD k .no = R k) {rets : List A} {rvs : List Value} {lr : List (T × Value)} (hl : ArgsL rets rvs lr) :
  ∀ {tys : List Ty} {k : Nat} {s s' : Objs} {pend : List (T × Value)}, rets.length = tys.length → okRets f tys R k = true → (∀ i a, rets[i]? = some a → R (k + i) = a) → putAll out (retW f key tys k) s = some s' → OK X w FZ β s (pend ++ lr) →
  ∃ β', OK X w FZ β' s' pend ∧ Ext s β s' β' ∧ ∀ (i : Nat) (v : V) (x : Value), (retV f key tys R k)[i]? = some v → rvs[i]? = some x → RepV (vers s') β' v x := by
 induction hl with
 | nil =>
  intro tys k s s' pend h1 hok hR' hp hO
  cases tys with
  | cons a b => cases h1
  | nil =>
   obtain rfl := Option.some.inj hp
   exact ⟨β, by simpa using hO, Ext.refl _ _, fun i v x hv => by simp [retV] at hv⟩
 | @c t x rets rvs lr hl ih =>
  intro tys k s s' pend h1 hok hR' hp hO
  cases tys with
  | nil => cases h1
  | cons ty tys =>
   rw [okRets, Bool.and_eq_true] at hok
   have hk : R k = .c t := hR' 0 _ rfl
   have hokA := hok.1
   rw [hk] at hokA
   have hR2 : ∀ i a, rets[i]? = some a → R (k + 1 + i) = a := fun i a h => by
    rw [show k + 1 + i = k + (i + 1) by omega]; exact hR' (i + 1) a (by simpa using h)
   cases ty with
   | ag ks => cases hokA
   | tu ts => cases hokA
   | cell kd =>
    have hkt : T.okK f kd t = true := by
     cases kd with
     | oth => cases hokA
     | _ => simpa [okA, A.t] using hokA
    have hun := okK_unO hkt
    have fin : ∀ {s1}, putAll out (retW f key tys (k + 1)) s = some s1 → ((unO t).isSome = true → (s1 (nKey key (64 * k))).ver = 0) → s' = putT (nKey key (64 * k)) t s1 →
      ∃ β', OK X w FZ β' s' pend ∧ Ext s β s' β' ∧ ∀ (i : Nat) (v : V) (x' : Value), (retV f key (.cell kd :: tys) R k)[i]? = some v → (x :: rvs)[i]? = some x' → RepV (vers s') β' v x' := by
     intro s1 hp1 hq hs
     obtain ⟨β1, o1, e1, r1⟩ := ih (pend := pend ++ [(t, x)]) (by simpa using h1) hok.2 hR2 hp1 (by simpa using hO)
     obtain ⟨o2, e2, r2⟩ := o1.placeU (by unfold nKey; omega) hq
     subst hs
     refine ⟨_, o2, e1.trans e2, fun i v x' hv hx => ?_⟩
     cases i with
     | zero =>
      simp only [retV, etaA, hk, A.t, etaK_eq hkt, unA, List.getElem?_cons_zero, Option.some.injEq] at hv hx
      subst hv hx
      exact r2
     | succ i =>
      simp only [retV, List.getElem?_cons_succ] at hv hx
      exact (r1 i v x' hv hx).ext e2
    cases kd with
    | sl sz =>
     obtain ⟨s1, a1, a2, a3⟩ := putAll_snoc (show putAll out (retW f key tys (k + 1) ++ [(true, nKey key (64 * k), fun (o : Out) (_ : Option O) => some (.rows f sz ((o.rets.getD k .no).t.rws)))]) s = some s' from hp)
     refine fin a1 (fun _ => a2 rfl) ?_
     rw [a3, putT, hun]
     simp only [hR, hk, A.t]
    | int kk => exact fin (s1 := s') hp (fun h => by rw [hun] at h; cases h) (by rw [putT, hun])
    | bool => exact fin (s1 := s') hp (fun h => by rw [hun] at h; cases h) (by rw [putT, hun])
    | str => exact fin (s1 := s') hp (fun h => by rw [hun] at h; cases h) (by rw [putT, hun])
    | oth => exact fin (s1 := s') hp (fun h => by rw [hun] at h; cases h) (by rw [putT, hun])
 | @ag ts rets rvs lr cs hcl hl ih =>
  intro tys k s s' pend h1 hok hR' hp hO
  cases tys with
  | nil => cases h1
  | cons ty tys =>
   rw [okRets, Bool.and_eq_true] at hok
   have hk : R k = .ag ts := hR' 0 _ rfl
   have hokA := hok.1
   rw [hk] at hokA
   have hR2 : ∀ i a, rets[i]? = some a → R (k + 1 + i) = a := fun i a h => by
    rw [show k + 1 + i = k + (i + 1) by omega]; exact hR' (i + 1) a (by simpa using h)
   cases ty with
   | cell kd => cases kd <;> cases hokA
   | tu ts => cases hokA
   | ag ks =>
    simp only [okA, Bool.and_eq_true, A.ts] at hokA
    have hlen := beq_eq hokA.1
    have hp' : putAll out (retW f key tys (k + 1) ++ retW.go f key k ks 0) s = some s' := hp
    rw [putAll_append] at hp'
    cases hp1 : putAll out (retW f key tys (k + 1)) s with
    | none => rw [hp1] at hp'; cases hp'
    | some s1 =>
     rw [hp1] at hp'
     have hp2 : putAll out (retW.go f key k ks 0) s1 = some s' := hp'
     obtain ⟨β1, o1, e1, r1⟩ := ih (pend := pend ++ ts.zip cs.toList) (by simpa using h1) hok.2 hR2 hp1 (by simpa using hO)
     have hflat : ∀ (i : Nat) (y : Value), cs[i]? = some y → flat y := by
      intro i y hy
      have hi := (Array.getElem?_eq_some_iff.1 hy).1
      have hz : (ts.zip cs.toList)[i]? = some (ts[i]'(by omega), y) := by
       rw [List.getElem?_zip_eq_some]
       exact ⟨List.getElem?_eq_getElem (by omega), by rw [Array.getElem?_toList]; exact hy⟩
      have := o1.pow (pend.length + i) (ts[i]'(by omega), y) (by
       rw [List.getElem?_append_right (by omega), Nat.add_sub_cancel_left]
       exact hz)
      exact this.flatV
     obtain ⟨β2, o2, e2, r2⟩ := go_place (T' := fun m => ts.getD m .no) (fun m => by rw [hR, hk]; rfl) ks ts cs.toList 0 hlen (by simpa using hcl) hokA.2 (fun i t h => by simp [List.getD, h]) hp2 o1
     refine ⟨β2, o2, e1.trans e2, fun i v x' hv hx => ?_⟩
     cases i with
     | zero =>
      simp only [retV, etaA, hk, A.ts, unA, List.getElem?_cons_zero, Option.some.injEq] at hv hx
      subst hv hx
      refine .ag ?_ hflat fun i v x hv hx => r2 i v x hv (by rw [Array.getElem?_toList]; exact hx)
      rw [unL_length]
      have : ∀ (ks : List Kd) (T' : Nat → T) (m : Nat), (etaL f ks T' m).length = ks.length := by
       intro ks T'
       induction ks with
       | nil => intro m; rfl
       | cons k ks ih => intro m; simp [etaL, ih]
      rw [this]; omega
     | succ i =>
      simp only [retV, List.getElem?_cons_succ] at hv hx
      exact (r1 i v x' hv hx).ext e2
 | pt hl ih =>
  intro tys k s s' pend h1 hok hR' hp hO
  cases tys with
  | nil => cases h1
  | cons ty tys =>
   rw [okRets, Bool.and_eq_true] at hok
   have hokA := hok.1
   have hk := hR' 0 _ rfl
   rw [Nat.add_zero] at hk
   rw [hk] at hokA
   cases ty with
   | cell kd => cases kd <;> cases hokA
   | _ => cases hokA
 | fn hl ih =>
  intro tys k s s' pend h1 hok hR' hp hO
  cases tys with
  | nil => cases h1
  | cons ty tys =>
   rw [okRets, Bool.and_eq_true] at hok
   have hokA := hok.1
   have hk := hR' 0 _ rfl
   rw [Nat.add_zero] at hk
   rw [hk] at hokA
   cases ty with
   | cell kd => cases kd <;> cases hokA
   | _ => cases hokA
 | no hl ih =>
  intro tys k s s' pend h1 hok hR' hp hO
  cases tys with
  | nil => cases h1
  | cons ty tys =>
   rw [okRets, Bool.and_eq_true] at hok
   have hokA := hok.1
   have hk := hR' 0 _ rfl
   rw [Nat.add_zero] at hk
   rw [hk] at hokA
   cases ty with
   | cell kd => cases kd <;> cases hokA
   | _ => cases hokA
end Go.Vm
namespace Go.Vm
set_option linter.unusedVariables false
set_option linter.unusedSimpArgs false
variable {P : Program} {X X' : Cx} {FZ FZ' : Nat → Prop} {β β' : Nat → Value} {s s' sf sB : Objs} {w w' : World} {v : V} {fp fp' : List (Bool × Nat)} {pend L : List (T × Value)} {nm : List (Nat × Nat)}
theorem boxgo_place {key p : Nat} {out : Out} {T' : Nat → T} (hT : ∀ m, (out.pos.getD p (.box false [])).cells.getD m .no = T' m) : ∀ (ks : List Kd) (fs : List Fl) (ts : List T) (xs : List Value) (m : Nat) {s s' : Objs} {pend : List (T × Value)}, ts.length = ks.length → fs.length = ks.length → xs.length = ts.length →
  okLF ks fs T' m = true → (∀ i t, ts[i]? = some t → T' (m + i) = t) → putAll out (boxW.go key p ks fs m) s = some s' → OK X w FZ β s (pend ++ ts.zip xs) →
  ∃ β', OK X w FZ β' s' pend ∧ Ext s β s' β' ∧ ∀ (i : Nat) (v : V) (x : Value), (unL (nKey key (4096 + 64 * p + m)) (etaLF ks fs T' m))[i]? = some v → xs[i]? = some x → RepV (vers s') β' v x := by
 intro ks fs ts
 induction ts generalizing ks fs with
 | nil =>
  intro xs m s s' pend h1 h0 h2 hok hts hp hO
  cases ks with
  | cons k ks => cases h1
  | nil =>
   have : s = s' := by cases fs <;> exact Option.some.inj hp
   subst this
   exact ⟨β, by simpa using hO, Ext.refl _ _, fun i v x hv => by simp [etaLF, unL] at hv⟩
 | cons t ts ih =>
  intro xs m s s' pend h1 h0 h2 hok hts hp hO
  cases ks with
  | nil => cases h1
  | cons kd ks =>
   cases fs with
   | nil => cases h0
   | cons f fs =>
    cases xs with
    | nil => cases h2
    | cons x xs =>
     rw [okLF, Bool.and_eq_true] at hok
     have ht : T' m = t := hts 0 t rfl
     have hkt := hok.1
     rw [ht] at hkt
     have hun := okK_unO hkt
     have hts' : ∀ i t', ts[i]? = some t' → T' (m + 1 + i) = t' := fun i t' h => by
      have := hts (i + 1) t' (by simpa using h)
      rw [show m + 1 + i = m + (i + 1) by omega]; exact this
     have fin : ∀ {s1}, putAll out (boxW.go key p ks fs (m + 1)) s = some s1 → ((unO t).isSome = true → (s1 (nKey key (4096 + 64 * p + m))).ver = 0) → s' = putT (nKey key (4096 + 64 * p + m)) t s1 →
       ∃ β', OK X w FZ β' s' pend ∧ Ext s β s' β' ∧ ∀ (i : Nat) (v : V) (x' : Value), (unL (nKey key (4096 + 64 * p + m)) (etaLF (kd :: ks) (f :: fs) T' m))[i]? = some v → (x :: xs)[i]? = some x' → RepV (vers s') β' v x' := by
      intro s1 hp1 hq hs
      obtain ⟨β1, o1, e1, r1⟩ := ih (pend := pend ++ [(t, x)]) ks fs xs (m + 1) (by simpa using h1) (by simpa using h0) (by simpa using h2) hok.2 hts' hp1 (by simpa using hO)
      obtain ⟨o2, e2, r2⟩ := o1.placeU (by unfold nKey; omega) hq
      subst hs
      refine ⟨_, o2, e1.trans e2, fun i v x' hv hx => ?_⟩
      rw [etaLF, ht, etaK_eq hkt] at hv
      cases i with
      | zero =>
       simp only [unL, List.getElem?_cons_zero, Option.some.injEq] at hv hx
       subst hv hx
       exact r2
      | succ i =>
       simp only [unL, List.getElem?_cons_succ] at hv hx
       exact (r1 i v x' (by rw [← Nat.add_assoc, nKey_add _ _ 1]; exact hv) hx).ext e2
     cases kd with
     | sl sz =>
      obtain ⟨s1, a1, a2, a3⟩ := putAll_snoc (show putAll out (boxW.go key p ks fs (m + 1) ++ [(true, nKey key (4096 + 64 * p + m), fun (o : Out) (_ : Option O) => some (.rows f sz (((o.pos.getD p (.box false [])).cells.getD m .no).rws)))]) s = some s' from hp)
      refine fin a1 (fun _ => a2 rfl) ?_
      rw [a3, putT, hun]
      simp only [hT, ht]
     | int kk => exact fin (s1 := s') hp (fun h => by rw [hun] at h; cases h) (by rw [putT, hun])
     | bool => exact fin (s1 := s') hp (fun h => by rw [hun] at h; cases h) (by rw [putT, hun])
     | str => exact fin (s1 := s') hp (fun h => by rw [hun] at h; cases h) (by rw [putT, hun])
     | oth => exact fin (s1 := s') hp (fun h => by rw [hun] at h; cases h) (by rw [putT, hun])
def bwOf : Nat → List (Nat × Bool × Option O) → List PO → List (Nat × Nat × List Kd × List Fl)
 | p, (id, false, _) :: l, .box _ ts :: pos => (id, p, ts.map kdOf, ts.map flOf) :: bwOf (p + 1) l pos
 | p, _ :: l, _ :: pos => bwOf (p + 1) l pos
 | _, _, _ => []
theorem bw_eq {p : Nat} {l : List (Nat × Bool × Option O)} {tss : List (List T)} {bw : List (Nat × Nat × List Kd × List Fl)} (h : PW s p l tss bw nm s') : ∀ {pos : List PO}, PR sf l tss pos → bw = bwOf p l pos := by
 induction h with
 | nil => intro pos h; cases h; rfl
 | w ho hn h hs ih =>
  intro pos hR
  cases hR with
  | w hR => rw [bwOf, ← ih hR]
 | rb ho hs ih =>
  intro pos hR
  cases hR with
  | box _ _ _ hR => exact ih hR
  | rows _ hR => exact ih hR
 | rr ho hs ih =>
  intro pos hR
  cases hR with
  | box _ _ _ hR => exact ih hR
  | rows _ hR => exact ih hR
end Go.Vm
namespace Go.Vm
set_option linter.unusedVariables false
set_option linter.unusedSimpArgs false
variable {P : Program} {X X' : Cx} {FZ FZ' : Nat → Prop} {β β' : Nat → Value} {s s' sf sB : Objs} {w w' : World} {v : V} {fp fp' : List (Bool × Nat)} {pend L : List (T × Value)} {nm : List (Nat × Nat)}
theorem putAll_keep {out : Out} {id : Nat} : ∀ {ws : WS} {s s' : Objs}, (∀ x ∈ ws, x.2.1 = id → x.1 = true) → 1 ≤ (s id).ver → putAll out ws s = some s' → s' id = s id
 | [], s, s', _, _, h => by rw [Option.some.inj h]
 | (nw, i, f) :: ws, s, s', hw, hv, h => by
  rw [putAll] at h
  cases hc : (!nw || Nat.beq (s i).ver 0) with
  | false => rw [hc] at h; cases h
  | true =>
   rw [hc] at h
   have hne : id ≠ i := by
    rintro rfl
    have := hw (nw, id, f) (by simp) rfl
    simp only at this
    rw [this] at hc
    have := beq_eq (by simpa using hc : Nat.beq (s id).ver 0 = true)
    omega
   have h1 : putS s i true (f out (s i).o) id = s id := putS_ne _ _ _ hne
   rw [putAll_keep (fun x hx => hw x (by simp [hx])) (by rw [h1]; exact hv) h, h1]
theorem boxgo_mem {key p : Nat} : ∀ {ks : List Kd} {fs : List Fl} {m : Nat}, ∀ x ∈ boxW.go key p ks fs m, x.1 = true
 | [], _, _, x, hx => by simp [boxW.go] at hx
 | k :: ks, [], _, x, hx => by cases k <;> simp [boxW.go] at hx
 | k :: ks, f :: fs, m, x, hx => by
  cases k with
  | sl sz =>
   rcases List.mem_append.1 (show x ∈ boxW.go key p ks fs (m + 1) ++ [_] from hx) with hx | hx
   ·exact boxgo_mem x hx
   ·obtain rfl := List.mem_singleton.1 hx; rfl
  | int => exact boxgo_mem (ks := ks) (fs := fs) (m := m + 1) x hx
  | bool => exact boxgo_mem (ks := ks) (fs := fs) (m := m + 1) x hx
  | str => exact boxgo_mem (ks := ks) (fs := fs) (m := m + 1) x hx
  | oth => exact boxgo_mem (ks := ks) (fs := fs) (m := m + 1) x hx
theorem boxW_mem {key : Nat} : ∀ {bw : List (Nat × Nat × List Kd × List Fl)}, ∀ x ∈ boxW key bw, x.1 = true ∨ ∃ e ∈ bw, e.1 = x.2.1
 | [], x, hx => by simp [boxW] at hx
 | (id, p, ks, fs) :: bw, x, hx => by
  rw [boxW] at hx
  rcases List.mem_append.1 hx with hx | hx
  ·rcases boxW_mem x hx with h | ⟨e, he, h⟩
   ·exact .inl h
   ·exact .inr ⟨e, by simp [he], h⟩
  ·rcases List.mem_append.1 hx with hx | hx
   ·exact .inl (boxgo_mem x hx)
   ·obtain rfl := List.mem_singleton.1 hx
    exact .inr ⟨_, List.mem_cons_self, rfl⟩
theorem bwOf_mem : ∀ {l : List (Nat × Bool × Option O)} {p : Nat} {pos : List PO}, ∀ e ∈ bwOf p l pos, ∃ x ∈ l, x.2.1 = false ∧ x.1 = e.1
 | [], p, pos, e, he => by simp [bwOf] at he
 | x :: l, p, [], e, he => by
  obtain ⟨id, b, o⟩ := x
  cases b <;> simp [bwOf] at he
 | (id, b, o) :: l, p, q :: pos, e, he => by
  have next : e ∈ bwOf (p + 1) l pos → ∃ x ∈ (id, b, o) :: l, x.2.1 = false ∧ x.1 = e.1 := fun h => by
   obtain ⟨x, h1, h2⟩ := bwOf_mem e h
   exact ⟨x, by simp [h1], h2⟩
  cases b with
  | true => exact next he
  | false =>
   cases q with
   | rows => exact next he
   | box ro ts =>
    rw [bwOf] at he
    rcases List.mem_cons.1 he with rfl | he
    ·exact ⟨_, List.mem_cons_self, rfl, rfl⟩
    ·exact next he
end Go.Vm
namespace Go.Vm
set_option linter.unusedVariables false
set_option linter.unusedSimpArgs false
variable {P : Program} {X X' : Cx} {FZ FZ' : Nat → Prop} {β β' : Nat → Value} {s s' sf sB : Objs} {w w' : World} {v : V} {fp fp' : List (Bool × Nat)} {L : List (T × Value)} {nm : List (Nat × Nat)}
theorem etaLF_length : ∀ (ks : List Kd) (fs : List Fl) (T' : Nat → T) (m : Nat), fs.length = ks.length → (etaLF ks fs T' m).length = ks.length
 | [], fs, T', m, h => by cases fs <;> rfl
 | k :: ks, [], T', m, h => by cases h
 | k :: ks, f :: fs, T', m, h => by simp [etaLF, etaLF_length ks fs T' (m + 1) (by simpa using h)]
theorem box_place {key : Nat} {out : Out} {p : Nat} {ps os : List PO} {lb : List (T × Value)} (hb : BoxL w β' sB p ps os lb) : ∀ {l : List (Nat × Bool × Option O)} {tss : List (List T)} {s s' : Objs} {β : Nat → Value} {pend : List (T × Value)}, PR sf l tss ps →
  (∀ (k : Nat) x, l[k]? = some x → β' (nPO (p + k)) = β x.1) → (∀ x ∈ l, x.2.1 = false → isBlank s x.1) → (l.filter fun x => !x.2.1).Pairwise (fun x y => x.1 ≠ y.1) → (∀ k q, os[k]? = some q → out.pos.getD (p + k) (.rows .own 0 []) = q ∧ out.pos.getD (p + k) (.box false []) = q) →
  boxOk (bwOf p l ps) out = true → putAll out (boxW key (bwOf p l ps)) s = some s' → OK X w FZ β s (pend ++ lb) → ∃ β2, OK X w FZ β2 s' pend ∧ Ext s β s' β2 := by
 induction hb with
 | nil =>
  intro l tss s s' β pend hR _ _ _ _ _ hp hO
  have hl : l = [] := by cases hR; rfl
  subst hl
  simp only [bwOf, boxW] at hp
  obtain rfl := Option.some.inj hp
  exact ⟨β, by simpa using hO, Ext.refl _ _⟩
 | @ro p ts q ps os l0 h ih =>
  intro l tss s s' β pend hR hn hbl hpw hos hok hp hO
  cases hR with
  | box _ _ _ hR =>
   exact ih hR (fun k x hk => by rw [show p + 1 + k = p + (k + 1) by omega]; exact hn (k + 1) x (by simpa using hk)) (fun x hx => hbl x (by simp [hx])) (by rw [List.filter_cons_of_neg (by simp)] at hpw; exact hpw)
    (fun k q hk => by rw [show p + 1 + k = p + (k + 1) by omega]; exact hos (k + 1) q (by simpa using hk)) hok hp hO
 | @rows p f sz rs q ps os l0 h ih =>
  intro l tss s s' β pend hR hn hbl hpw hos hok hp hO
  cases hR with
  | rows _ hR =>
   exact ih hR (fun k x hk => by rw [show p + 1 + k = p + (k + 1) by omega]; exact hn (k + 1) x (by simpa using hk)) (fun x hx => hbl x (by simp [hx])) (by rw [List.filter_cons_of_neg (by simp)] at hpw; exact hpw)
    (fun k q hk => by rw [show p + 1 + k = p + (k + 1) by omega]; exact hos (k + 1) q (by simpa using hk)) hok hp hO
 | @box p ts0 ts ps os l0 b c hB hr hcl hlen h ih =>
  intro l tss s s' β pend hR hn hbl hpw hos hok hp hO
  cases hR with
  | @w id o _ l tss _ hR =>
   rw [List.filter_cons_of_pos (by simp)] at hpw
   obtain ⟨hne, hpw'⟩ := List.pairwise_cons.1 hpw
   rw [bwOf, boxOk, Bool.and_eq_true, Bool.and_eq_true] at hok
   rw [bwOf, boxW, putAll_append] at hp
   cases hp1 : putAll out (boxW key (bwOf (p + 1) l ps)) s with
   | none => rw [hp1] at hp; cases hp
   | some s1 =>
    rw [hp1] at hp
    have hp : putAll out (boxW.go key p (ts0.map kdOf) (ts0.map flOf) 0 ++ [_]) s1 = some s' := hp
    obtain ⟨s2, hp2, _, hs'⟩ := putAll_snoc hp
    have hlive : 1 ≤ (s id).ver := by
     obtain ⟨cells, c1, _⟩ := hbl _ List.mem_cons_self rfl
     exact hO.live id _ c1
    have hk1 : s1 id = s id := putAll_keep (fun x hx he => by
     rcases boxW_mem x hx with h | ⟨e, h1, h2⟩
     ·exact h
     ·obtain ⟨y, hy, hf, hye⟩ := bwOf_mem e h1
      exact absurd (show id = y.1 by rw [hye, h2, he]) (hne y (List.mem_filter.2 ⟨hy, by simp [hf]⟩))) hlive hp1
    have hk2 : s2 id = s1 id := putAll_keep (fun x hx _ => boxgo_mem x hx) (by rw [hk1]; exact hlive) hp2
    obtain ⟨β1, o1, e1⟩ := ih (pend := pend ++ ts.zip c.toList) hR (fun k x hk => by rw [show p + 1 + k = p + (k + 1) by omega]; exact hn (k + 1) x (by simpa using hk)) (fun x hx => hbl x (by simp [hx])) hpw'
     (fun k q hk => by rw [show p + 1 + k = p + (k + 1) by omega]; exact hos (k + 1) q (by simpa using hk)) hok.2 hp1 (by simpa using hO)
    have hflat : ∀ (i : Nat) (y : Value), c[i]? = some y → flat y := by
     intro i y hy
     have hi := (Array.getElem?_eq_some_iff.1 hy).1
     have hz : (ts.zip c.toList)[i]? = some (ts[i]'(by omega), y) := by
      rw [List.getElem?_zip_eq_some]
      exact ⟨List.getElem?_eq_getElem (by omega), by rw [Array.getElem?_toList]; exact hy⟩
     have := o1.pow (pend.length + i) (ts[i]'(by omega), y) (by
      rw [List.getElem?_append_right (by omega), Nat.add_sub_cancel_left]
      exact hz)
     exact this.flatV
    have hq := (hos 0 _ rfl).2
    rw [Nat.add_zero] at hq
    have hokLF : okLF (ts0.map kdOf) (ts0.map flOf) (fun m => ts.getD m .no) 0 = true := by
     have := hok.1.2
     rw [hq] at this
     exact this
    obtain ⟨β2, o2, e2, r2⟩ := boxgo_place (T' := fun m => ts.getD m .no) (fun m => by rw [hq]; rfl) (ts0.map kdOf) (ts0.map flOf) ts c.toList 0 (by simpa using hlen) (by simp) (by simpa using hcl) hokLF (fun i t h => by simp [List.getD, h]) hp2 o1
    obtain ⟨cells, c1, c2, c3⟩ := hbl _ List.mem_cons_self rfl
    have ho2 : (s2 id).o = some (.box false cells) := by rw [hk2, hk1]; exact c1
    have hβ : β2 id = .pointer (some ⟨b, 0, none⟩) := by
     have h1 := (e1.trans e2) id hlive
     have h2 := hn 0 _ rfl
     rw [Nat.add_zero] at h2
     rw [h1.2, ← h2]
     exact hB.1
    have o3 := o2.writeBox ho2 hβ (Wr.refl hr) true (cells' := unL (nKey key (4096 + 64 * p)) (etaLF (ts0.map kdOf) (ts0.map flOf) (fun m => ts.getD m .no) 0)) (by rw [unL_length, etaLF_length _ _ _ _ (by simp)]; simp; omega)
     (fun j v x hj hx => ⟨r2 j v x hj (by rw [Array.getElem?_toList]; exact hx), hflat j x hx⟩)
    refine ⟨β2, ?_, (e1.trans e2).trans ?_⟩
    ·rw [hs']
     simp only [hq]
     exact o3
    ·rw [hs']
     exact Ext.ver _ fun i => putS_ver _ _ _ _ _
end Go.Vm
namespace Go.Vm
set_option linter.unusedVariables false
set_option linter.unusedSimpArgs false
variable {P : Program} {X X' : Cx} {FZ FZ' : Nat → Prop} {β β' : Nat → Value} {s s' sf sB : Objs} {w w' : World} {v : V} {fp fp' : List (Bool × Nat)} {pend L : List (T × Value)} {nm : List (Nat × Nat)}
def Hdr (x y : Value) : Prop := x = y ∨ ∃ a a' : Addr, y = .slice (some a) 0 0 ∧ x = .slice (some a') 0 0
theorem Ow.rehead {RO FZ : Nat → Prop} {sz : Nat} {rs : List (List T)} {x y : Value} (h : Ow w RO FZ (.sl .own sz rs) x) (hh : Hdr x y) :
  Ow w RO FZ (.sl .own sz rs) y ∧ ∀ b, Blk w (.sl .own sz rs) y b → Blk w (.sl .own sz rs) x b := by
 rcases hh with rfl | ⟨a, a', rfl, rfl⟩
 ·exact ⟨h, fun _ h => h⟩
 ·obtain rfl : rs = [] := List.length_eq_zero_iff.1 h.len.1.symm
  refine ⟨.emp, fun b' hb' => ?_⟩
  cases hb' with
  | here h0 => omega
  | deep h0 => omega
theorem OK.rehead {sz : Nat} {rs : List (List T)} {x y : Value} (h : OK X w FZ β s (pend ++ [(.sl .own sz rs, x)])) (hh : Hdr x y) : OK X w FZ β s (pend ++ [(.sl .own sz rs, y)]) := by
 have hp : Ow w X.RO FZ (.sl .own sz rs) x := h.pow pend.length (.sl .own sz rs, x) (by simp)
 obtain ⟨q1, q2⟩ := hp.rehead hh
 refine h.move h.rep h.live (fun k p hk => ?_) id ?_ (fun u u' b hne e => absurd e hne)
 ·rcases getElem?_snoc hk with ⟨hlt, hk⟩ | ⟨_, rfl⟩
  ·exact h.pow k p (by rw [List.getElem?_append_left hlt]; exact hk)
  ·exact q1
 ·rintro (id | k) b ⟨o, ho, hb⟩
  ·exact ⟨o, ho, hb⟩
  ·rcases getElem?_snoc ho with ⟨hlt, hk⟩ | ⟨rfl, rfl⟩
   ·exact ⟨o, by show (pend ++ _)[k]? = _; rw [List.getElem?_append_left hlt]; exact hk, hb⟩
   ·exact ⟨(.sl .own sz rs, x), by show (pend ++ _)[pend.length]? = _; simp, q2 b hb⟩
theorem OK.home {q sz : Nat} {f : Fl} {rs : List (List T)} (h : OK X w FZ β s (pend ++ [(.sl f sz rs, β q)])) (hq : (s q).o = none) (hq1 : 1 ≤ (s q).ver) :
  OK X w FZ β (putS s q true (some (.rows f sz rs))) pend := by
 have h1 : OK X w FZ β (putS s q true none) (pend ++ [(.sl f sz rs, β q)]) := h.sub (fun id => by
  by_cases e : id = q
  ·subst e; exact .inl (by simp)
  ·exact .inr (by rw [putS_ne _ _ _ e])) (fun i => putS_ver _ _ _ _ _)
 have h2 := h1.placeBack (by simp) (by rw [putS_bump]; omega) (fun id x ver i j ho hx => by
  subst hx
  have hid : id ≠ x := fun e => by subst e; simp at ho
  rw [putS_ne _ _ _ hid] at ho
  have := (h.rep id _ ho).1
  rw [putS_bump]; omega) false
 rw [putS_putS] at h2
 exact h2
end Go.Vm
namespace Go.Vm
set_option linter.unusedVariables false
set_option linter.unusedSimpArgs false
variable {P : Program} {X X' : Cx} {FZ FZ' : Nat → Prop} {β β' : Nat → Value} {s s' sf sB : Objs} {w w' : World} {v : V} {fp fp' : List (Bool × Nat)} {pend L : List (T × Value)} {nm : List (Nat × Nat)}
theorem OK.homeCell {x szx i j b o n cap : Nat} {rs : List (List T)} {t : T} {y : Value} {c : Array Value} (h : OK X w FZ β s (pend ++ [(t, y)])) (hx : (s x).o = some (.rows .own szx rs)) (hb : β x = .slice (some ⟨b, o, none⟩) n cap) (hrow : Row w b c)
  (hy : c[o + i * szx + j]? = some y) : OK X w FZ β (putS s x true (some (.rows .own szx (setCell rs i j t)))) pend := by
 have hxr : Ow w X.RO FZ (.sl .own szx rs) (β x) := h.rep x _ hx
 have hpt : Ow w X.RO FZ t y := h.pow pend.length (t, y) (by simp)
 have blT : ∀ {b'}, Blk w t y b' → Bl w β s (pend ++ [(t, y)]) (.inr pend.length) b' := fun hb' => ⟨(t, y), by simp, hb'⟩
 have blX : ∀ {b'}, Blk w (.sl .own szx rs) (β x) b' → Bl w β s (pend ++ [(t, y)]) (.inl x) b' := fun hb' => ⟨_, hx, hb'⟩
 have noTX : ∀ {b'}, Blk w t y b' → ¬ Blk w (.sl .own szx rs) (β x) b' := fun h1 h2 => h.apart (.inr pend.length) (.inl x) _ (by simp) (blT h1) (blX h2)
 rw [hb] at hxr noTX blX
 have hnew : Ow w X.RO FZ (.sl .own szx (setCell rs i j t)) (.slice (some ⟨b, o, none⟩) n cap) ∧
   ∀ b', Blk w (.sl .own szx (setCell rs i j t)) (.slice (some ⟨b, o, none⟩) n cap) b' → Blk w t y b' ∨ Blk w (.sl .own szx rs) (.slice (some ⟨b, o, none⟩) n cap) b' := by
  cases hxr with
  | emp =>
   have e : setCell ([] : List (List T)) i j t = [] := by simp [setCell]
   rw [e]
   exact ⟨.emp, fun b' hb' => .inr hb'⟩
  | own h0 hr hl hbd hw hc hn hd =>
   obtain rfl := hrow.inj hr
   have cellv : ∀ {i' j' t' v'}, At (setCell rs i j t) i' j' t' → c[o + i' * szx + j']? = some v' → (i' = i ∧ j' = j ∧ t' = t ∧ v' = y) ∨ (At rs i' j' t' ∧ (i' ≠ i ∨ j' ≠ j)) := by
    intro i' j' t' v' ha hv
    rcases setCell_at ha with ⟨rfl, rfl, rfl⟩ | h2
    ·rw [hy] at hv; exact .inl ⟨rfl, rfl, rfl, (Option.some.inj hv).symm⟩
    ·exact .inr h2
   have hlen : (setCell rs i j t).length = rs.length := setCell_length _ _ _ _
   refine ⟨?_, fun b' hb' => ?_⟩
   ·have := Ow.own (RO := X.RO) (FZ := FZ) (rs := setCell rs i j t) (o := o) (cap := cap) h0 hr (by rw [hlen]; exact hl) hbd (setCell_width hw) (fun i' j' t' v' ha hv => by
     rcases cellv ha hv with ⟨rfl, rfl, rfl, rfl⟩ | ⟨h1, _⟩
     ·exact hpt
     ·exact hc _ _ _ _ h1 hv) (fun i' j' t' v' ha hv => by
     rcases cellv ha hv with ⟨rfl, rfl, rfl, rfl⟩ | ⟨h1, _⟩
     ·exact fun hbk => noTX hbk (.here h0)
     ·exact hn _ _ _ _ h1 hv) (fun i1 j1 t1 v1 i2 j2 t2 v2 ha hv ha' hv' hne b' k1 k2 => by
     rcases cellv ha hv with ⟨rfl, rfl, rfl, rfl⟩ | ⟨h1, _⟩ <;> rcases cellv ha' hv' with ⟨rfl, rfl, rfl, rfl⟩ | ⟨h2, _⟩
     ·omega
     ·exact noTX k1 (.deep h0 hr.rw h2 hv' k2)
     ·exact noTX k2 (.deep h0 hr.rw h1 hv k1)
     ·exact hd _ _ _ _ _ _ _ _ h1 hv h2 hv' hne b' k1 k2)
    rwa [hlen] at this
   ·cases hb' with
    | here _ => exact .inr (.here h0)
    | deep _ a1 a2 a3 a4 =>
     obtain rfl := a1.inj hr.rw
     rcases cellv a2 a3 with ⟨rfl, rfl, rfl, rfl⟩ | ⟨h1, _⟩
     ·exact .inl a4
     ·exact .inr (.deep h0 a1 h1 a3 a4)
 have hget : ∀ id o', (putS s x true (some (.rows .own szx (setCell rs i j t))) id).o = some o' → (id = x ∧ o' = .rows .own szx (setCell rs i j t)) ∨ (id ≠ x ∧ (s id).o = some o') := by
  intro id o' ho
  by_cases e : id = x
  ·subst e; simp at ho; exact .inl ⟨rfl, ho.symm⟩
  ·rw [putS_ne _ _ _ e] at ho; exact .inr ⟨e, ho⟩
 have hBl : ∀ u b', Bl w β (putS s x true (some (.rows .own szx (setCell rs i j t)))) pend u b' → (u = .inl x ∧ (Bl w β s (pend ++ [(t, y)]) (.inr pend.length) b' ∨ Bl w β s (pend ++ [(t, y)]) (.inl x) b')) ∨
   (u ≠ .inl x ∧ u ≠ .inr pend.length ∧ Bl w β s (pend ++ [(t, y)]) u b') := by
  rintro (id | k) b' ⟨o', ho, hbb⟩
  ·rcases hget id o' ho with ⟨rfl, rfl⟩ | ⟨hne, ho⟩
   ·have hbb : Blk w _ (β id) b' := hbb
    rw [hb] at hbb
    exact .inl ⟨rfl, (hnew.2 _ hbb).imp blT blX⟩
   ·exact .inr ⟨fun e => hne (Sum.inl.inj e), by simp, o', ho, hbb⟩
  ·have hk := (List.getElem?_eq_some_iff.1 ho).1
   exact .inr ⟨by simp, fun e => by injection e; omega, o', by show (pend ++ _)[k]? = _; rw [List.getElem?_append_left hk]; exact ho, hbb⟩
 refine ⟨fun id o' ho => ?_, fun k p hk => ?_, fun u u' b' hne h1 h2 => ?_, fun u b' h1 => ?_, h.ro, h.fz, h.n0, fun id o' ho => ?_, h.gl⟩
 ·rcases hget id o' ho with ⟨rfl, rfl⟩ | ⟨hne, ho⟩
  ·show Ow w X.RO FZ _ (β id)
   rw [hb]; exact hnew.1
  ·have hr := h.rep id o' ho
   cases o' with
   | box => exact hr.up (by simp) (putS_ver _ _ _ _) (fun _ _ => rfl) rfl
   | rows => exact hr.up (by simp) (putS_ver _ _ _ _) (fun _ _ => rfl) rfl
   | mp => exact hr.up (by simp) (putS_ver _ _ _ _) (fun _ _ => rfl) rfl
   | link x' ver i' j' =>
    refine hr.link_of (putS_ver _ _ _ _ _) rfl fun e => ?_
    by_cases ex : x' = x
    ·subst ex
     have := hr.1
     rw [putS_bump] at e
     omega
    ·exact .inr ⟨by rw [putS_ne _ _ _ ex], rfl⟩
 ·have hlt := (List.getElem?_eq_some_iff.1 hk).1
  exact h.pow k p (by rw [List.getElem?_append_left hlt]; exact hk)
 ·rcases hBl u b' h1 with ⟨rfl, p1⟩ | ⟨n1, m1, p1⟩
  ·rcases hBl u' b' h2 with ⟨rfl, _⟩ | ⟨n2, m2, p2⟩
   ·exact hne rfl
   ·rcases p1 with p1 | p1
    ·exact h.apart _ _ b' (fun e => m2 e.symm) p1 p2
    ·exact h.apart _ _ b' (fun e => n2 e.symm) p1 p2
  ·rcases hBl u' b' h2 with ⟨rfl, p2⟩ | ⟨n2, m2, p2⟩
   ·rcases p2 with p2 | p2
    ·exact h.apart _ _ b' m1 p1 p2
    ·exact h.apart _ _ b' n1 p1 p2
   ·exact h.apart u u' b' hne p1 p2
 ·rcases hBl u b' h1 with ⟨rfl, p1 | p1⟩ | ⟨_, _, p1⟩
  ·exact h.sep _ b' p1
  ·exact h.sep _ b' p1
  ·exact h.sep _ b' p1
 ·rcases hget id o' ho with ⟨rfl, rfl⟩ | ⟨hne, ho⟩
  ·rw [putS_bump]; omega
  ·exact Nat.le_trans (h.live id o' ho) (putS_ver _ _ _ _ _)
end Go.Vm
namespace Go.Vm
set_option linter.unusedVariables false
set_option linter.unusedSimpArgs false
variable {P : Program} {X X' : Cx} {FZ FZ' : Nat → Prop} {β β' : Nat → Value} {s s' sf : Objs} {w w' : World} {v : V} {fp fp' : List (Bool × Nat)} {pend L : List (T × Value)} {nm : List (Nat × Nat)}
 {ms : List Mode} {vs : List V} {as : List A} {iw : List IoW}
theorem OwnE.gone {t : T} {id : Nat} (h : OwnE s v t s') (ho : (s id).o = none) : (s' id).o = none := by
 cases h with
 | im => exact ho
 | nl => exact ho
 | @own id' off len sz e rs h1 =>
  by_cases e : id = id'
  ·subst e; simp [putS, upd]
  ·rw [putS_ne _ _ _ e]; exact ho
 | imm => exact ho
 | @link id' off len sz x i j szx e rs rws h1 hx ht =>
  by_cases e : id = id'
  ·subst e; simp [putS, upd]
  ·rw [putS_ne _ _ _ e]
   by_cases e' : id = x
   ·subst e'; rw [hx] at ho; cases ho
   ·rw [putS_ne _ _ _ e']; exact ho
 | limm => exact ho
theorem OwnLs.gone {us : List V} {ts : List T} {id : Nat} (h : OwnLs s us ts s') (ho : (s id).o = none) : (s' id).o = none := by
 induction h with
 | nil => exact ho
 | cons h _ ih => exact ih (h.gone ho)
theorem putS_none (s : Objs) (i : Nat) (b : Bool) (id : Nat) (ho : (s id).o = none) : (putS s i b none id).o = none := by
 by_cases e : id = i
 ·subst e; simp [putS, upd]
 ·rw [putS_ne _ _ _ e]; exact ho
theorem putAll_other {out : Out} {id : Nat} : ∀ {ws : WS} {s s' : Objs}, (∀ x ∈ ws, x.2.1 ≠ id) → putAll out ws s = some s' → s' id = s id
 | [], s, s', _, h => by
  simp only [putAll] at h
  obtain rfl := Option.some.inj h
  rfl
 | (nw, i, f) :: ws, s, s', hw, h => by
  simp only [putAll] at h
  cases hc : (!nw || Nat.beq (s i).ver 0) with
  | false => rw [hc] at h; cases h
  | true =>
   rw [hc, cond_true] at h
   rw [putAll_other (fun x hx => hw x (List.mem_cons_of_mem _ hx)) h, putS_ne _ _ _ (fun e => hw _ List.mem_cons_self e.symm)]
theorem putAll_ver {out : Out} : ∀ {ws : WS} {s s' : Objs}, putAll out ws s = some s' → ∀ i, (s i).ver ≤ (s' i).ver
 | [], s, s', h, i => by
  simp only [putAll] at h
  obtain rfl := Option.some.inj h
  exact Nat.le_refl _
 | (nw, k, f) :: ws, s, s', h, i => by
  simp only [putAll] at h
  cases hc : (!nw || Nat.beq (s k).ver 0) with
  | false => rw [hc] at h; cases h
  | true =>
   rw [hc, cond_true] at h
   exact Nat.le_trans (putS_ver _ _ _ _ _) (putAll_ver h i)
theorem IoE.gone {t : T} {e : IoW} {id : Nat} (h : IoE s v t e s') (ho : (s id).o = none) : (s' id).o = none ∧ ∀ sz, e ≠ .top id sz := by
 refine ⟨h.own.gone ho, fun sz he => ?_⟩
 subst he
 cases h with
 | top h1 => rw [ho] at h1; cases h1
theorem IoLs.gone {us : List V} {ts : List T} {es : List IoW} {id : Nat} (h : IoLs s us ts es s') (ho : (s id).o = none) : (s' id).o = none ∧ ∀ e ∈ es, ∀ sz, e ≠ .top id sz := by
 induction h with
 | nil => exact ⟨ho, fun e he => by cases he⟩
 | im _ ih => exact ih ho
 | cons h _ ih =>
  obtain ⟨a, b⟩ := h.gone ho
  obtain ⟨c, d⟩ := ih a
  refine ⟨c, fun e he => ?_⟩
  rcases List.mem_cons.1 he with rfl | he
  ·exact b
  ·exact d e he
theorem FA.gone {id : Nat} (h : FA nm sf s ms vs as iw) (ho : (s id).o = none) : (sf id).o = none ∧ ∀ e ∈ iw, ∀ sz, e ≠ .top id sz := by
 induction h with
 | nil => exact ⟨ho, fun e he => by cases he⟩
 | pt _ ih => exact ih ho
 | fn _ ih => exact ih ho
 | ioC hb _ ih =>
  obtain ⟨a, b⟩ := hb.gone ho
  obtain ⟨c, d⟩ := ih a
  refine ⟨c, fun e he => ?_⟩
  rcases List.mem_cons.1 he with rfl | he
  ·exact b
  ·exact d e he
 | ioA hb _ ih =>
  obtain ⟨a, b⟩ := hb.gone ho
  obtain ⟨c, d⟩ := ih a
  refine ⟨c, fun e he => ?_⟩
  rcases List.mem_append.1 he with he | he
  ·exact b e he
  ·exact d e he
 | agB _ _ _ ih => exact ih ho
 | agO _ hb _ ih => exact ih (hb.gone ho)
 | cB _ _ _ ih => exact ih ho
 | cO _ hb _ ih => exact ih (hb.gone ho)
inductive IoL (w : World) (β : Nat → Value) (sf : Objs) : List IoW → List Value → Prop
 | nil : IoL w β sf [] []
 | nul {r x xs} (h : IoL w β sf r xs) : IoL w β sf (.nil :: r) (x :: xs)
 | top {id sz r x xs} (hn : (sf id).o = none) (h1 : 1 ≤ (sf id).ver) (hh : Hdr x (β id)) (hd : ∀ e ∈ r, ∀ sz', e ≠ .top id sz') (h : IoL w β sf r xs) : IoL w β sf (.top id sz :: r) (x :: xs)
 | nest {x szx i j sz r y xs} (hv : 1 ≤ (sf x).ver) (hc : (∃ rs, (sf x).o = some (.rows .own szx rs)) → ∃ b o n cap c y0, β x = .slice (some ⟨b, o, none⟩) n cap ∧ 0 < cap ∧ Row w b c ∧ c[o + i * szx + j]? = some y0 ∧ Hdr y y0) (h : IoL w β sf r xs) :
   IoL w β sf (.nest x szx i j sz :: r) (y :: xs)
theorem hdr_of {id len sz : Nat} {rs : List (List T)} {x : Value} {RO : Nat → Prop} (hw : Im w RO (.sl .own sz rs) (β id)) (hx : RepV (vers s) β (.sl id true 0 len sz) x) : Hdr x (β id) := by
 cases hx with
 | sl0 _ hv h => exact .inl h.symm
 | se hv h => exact .inr ⟨_, _, h, rfl⟩
 | @sl _ _ _ _ b o n cap o' cap' e hv h h1 h2 h3 h4 h5 =>
  obtain ⟨e1, e2⟩ := h4 rfl
  obtain rfl : n = len := by omega
  obtain rfl : cap = cap' := by omega
  rcases h5 with h5 | ⟨h5, _⟩
  ·left; rw [h]; congr 3; omega
  ·subst h5
   obtain rfl : n = 0 := by omega
   exact .inr ⟨_, _, h, rfl⟩
theorem IoE.io {t : T} {e : IoW} {x : Value} (h : IoE s v t e s') (hO : OK X w FZ β s pend) (hx : RepV (vers s) β v x) {r : List IoW} {xs : List Value} (hr : IoL w β sf r xs)
  (hs : ∀ id, (s' id).o = none → (sf id).o = none ∧ ∀ e ∈ r, ∀ sz, e ≠ .top id sz) (hv : ∀ id, (s' id).ver ≤ (sf id).ver) : IoL w β sf (e :: r) (x :: xs) := by
 cases h with
 | nl => exact .nul hr
 | @top id len sz rs ho =>
  obtain ⟨a, b⟩ := hs id (by simp [putS, upd])
  have hw : Ow w X.RO FZ (.sl .own sz rs) (β id) := hO.rep id _ ho
  exact .top a (Nat.le_trans (by rw [putS_bump]; omega) (hv id)) (hdr_of hw.im' hx) b hr
 | @nest id len sz x' i j szx rs rws ho hx' ht =>
  obtain ⟨hat, b, o, n, cap, c, hb, hrow, hc⟩ := hO.linked ho hx' ht
  have hxr : Ow w X.RO FZ (.sl .own szx rs) (β x') := hO.rep x' _ hx'
  rw [hb] at hxr
  have h0 := Ow.pos hxr ⟨_, hat⟩
  have hi : Im w (fun _ => True) (.sl .own sz rws) (β id) := by
   rcases hxr.atCell hrow hat hc with ⟨_, h⟩ | ⟨_, h⟩ | ⟨_, h⟩
   ·exact h.im'.mono (fun _ _ => trivial) fun _ _ => rfl
   ·exact h.mono (fun _ _ => trivial) fun _ _ => rfl
   ·exact h.mono (fun _ _ => trivial) fun _ _ => rfl
  obtain ⟨c', hrow', _⟩ := (hxr.headO h0).2.1
  obtain rfl := hrow'.rw.inj hrow
  exact .nest (Nat.le_trans (hO.live _ _ hx') (Nat.le_trans ((IoE.nest (len := len) ho hx' ht).own.ver x') (hv x'))) (fun _ => ⟨b, o, n, cap, c', _, hb, h0, hrow', hc, hdr_of hi hx⟩) hr
theorem agIos_cells {x : Value} {cs : Array Value} (hxc : ∀ c, x.cells.getD c undef = cs.getD c undef) : True := trivial
theorem IoLs.io {us : List V} {ts : List T} {es : List IoW} (h : IoLs s us ts es s') : ∀ {pend : List (T × Value)} {xs : List Value} {j c : Nat} {Xf : List Value}, OK X w FZ β s pend → xs.length = us.length →
  (∀ (i : Nat) (u : V) (x : Value), us[i]? = some u → xs[i]? = some x → RepV (vers s) β u x) → (∀ (i : Nat) (x : Value), xs[i]? = some x → (Xf.getD j undef).cells.getD (c + i) undef = x) →
  ∀ {r : List IoW} {ys : List Value}, IoL w β sf r ys → (∀ id, (s' id).o = none → (sf id).o = none ∧ ∀ e ∈ r, ∀ sz, e ≠ .top id sz) → (∀ id, (s' id).ver ≤ (sf id).ver) →
  IoL w β sf (es ++ r) ((agIos j c ts).map (ioVal Xf) ++ ys) ∧ (agIos j c ts).length = es.length := by
 induction h with
 | nil =>
  intro pend xs j c Xf hO hl hr hX r ys hy _ _
  exact ⟨hy, rfl⟩
 | @im s s' v us ts es h ih =>
  intro pend xs j c Xf hO hl hr hX r ys hy h1 h2
  cases xs with
  | nil => cases hl
  | cons x xs =>
   exact ih hO (by simpa using hl) (fun i u x hu hx => hr (i + 1) u x (by simpa using hu) (by simpa using hx)) (j := j) (c := c + 1) (fun i x hx => by rw [show c + 1 + i = c + (i + 1) by omega]; exact hX (i + 1) x (by simpa using hx)) hy h1 h2
 | @cons s s1 s' v t e us ts es h hs ih =>
  intro pend xs j c Xf hO hl hr hX r ys hy h1 h2
  cases xs with
  | nil => cases hl
  | cons x xs =>
   have hO1 := own_sem hO (hr 0 _ x rfl rfl) h.own
   obtain ⟨q1, q2⟩ := ih hO1 (by simpa using hl) (fun i u x hu hx => (hr (i + 1) u x (by simpa using hu) (by simpa using hx)).ver h.own.ver) (j := j) (c := c + 1) (fun i x hx => by rw [show c + 1 + i = c + (i + 1) by omega]; exact hX (i + 1) x (by simpa using hx)) hy h1 h2
   have ht : ∃ f sz rs, t = .sl f sz rs := by cases h <;> exact ⟨_, _, _, rfl⟩
   obtain ⟨f, sz, rs, rfl⟩ := ht
   have e0 : ioVal Xf (j, c, sz) = x := hX 0 x rfl
   refine ⟨?_, by simp [agIos, q2]⟩
   rw [agIos, List.map_cons, e0]
   refine IoE.io h hO (hr 0 _ x rfl rfl) q1 (fun id hid => ?_) fun id => Nat.le_trans (hs.own.ver id) (h2 id)
   obtain ⟨a, b⟩ := hs.gone hid
   obtain ⟨a', b'⟩ := h1 id a
   refine ⟨a', fun e he => ?_⟩
   rcases List.mem_append.1 he with he | he
   ·exact b e he
   ·exact b' e he
theorem FA.ios (h : FA nm sf s ms vs as iw) : ∀ {pend : List (T × Value)} {xs : List Value} {j : Nat} {Xf : List Value}, OK X w FZ β s pend → xs.length = vs.length →
  (∀ (i : Nat) (u : V) (x : Value), vs[i]? = some u → xs[i]? = some x → RepV (vers s) β u x) → (∀ (i : Nat) (x : Value), xs[i]? = some x → Xf[j + i]? = some x) →
  IoL w β sf iw ((iosOf.go ms as j).map (ioVal Xf)) ∧ (iosOf.go ms as j).length = iw.length := by
 have nx : ∀ {xs : List Value} {x : Value} {j : Nat} {Xf : List Value}, (∀ (i : Nat) (y : Value), (x :: xs)[i]? = some y → Xf[j + i]? = some y) → ∀ (i : Nat) (y : Value), xs[i]? = some y → Xf[j + 1 + i]? = some y :=
  fun h i y hy => by rw [show ∀ j, j + 1 + i = j + (i + 1) from fun j => by omega]; exact h (i + 1) y (by simpa using hy)
 induction h with
 | @nil ms =>
  intro pend xs j Xf hO hl hr hX
  cases ms with
  | nil => exact ⟨.nil, rfl⟩
  | cons m ms => cases m <;> exact ⟨.nil, rfl⟩
 | @pt s m ms id sz i j' vs as iw h ih =>
  intro pend xs j Xf hO hl hr hX
  cases xs with
  | nil => cases hl
  | cons x xs =>
   have := ih hO (by simpa using hl) (fun i u x hu hx => hr (i + 1) u x (by simpa using hu) (by simpa using hx)) (j := j + 1) (Xf := Xf) (nx hX)
   have e : iosOf.go (m :: ms) (trP nm (.pt id sz i j') :: as) j = iosOf.go ms as (j + 1) := by
    unfold trP
    dsimp only
    split <;> cases m <;> rfl
   rw [e]; exact this
 | @fn s m ms f caps vs as iw h ih =>
  intro pend xs j Xf hO hl hr hX
  cases xs with
  | nil => cases hl
  | cons x xs =>
   have := ih hO (by simpa using hl) (fun i u x hu hx => hr (i + 1) u x (by simpa using hu) (by simpa using hx)) (j := j + 1) (Xf := Xf) (nx hX)
   have e : iosOf.go (m :: ms) (.fn f (caps.map (trP nm)) :: as) j = iosOf.go ms as (j + 1) := by cases m <;> rfl
   rw [e]; exact this
 | @ioC s s1 ms v t e vs as iw hb h ih =>
  intro pend xs j Xf hO hl hr hX
  cases xs with
  | nil => cases hl
  | cons x xs =>
   have h1 := own_sem hO (hr 0 _ x rfl rfl) hb.own
   obtain ⟨h2, h3⟩ := ih h1 (by simpa using hl) (fun i u x hu hx => (hr (i + 1) u x (by simpa using hu) (by simpa using hx)).ver hb.own.ver) (j := j + 1) (Xf := Xf) (nx hX)
   have ht : ∃ f sz rs, t = .sl f sz rs := by cases hb <;> exact ⟨_, _, _, rfl⟩
   obtain ⟨f, sz, rs, rfl⟩ := ht
   have hxs : ∀ y, x ≠ .agg y := by
    intro y e
    subst e
    have hx := hr 0 _ _ rfl rfl
    cases hb with
    | nl => cases hx
    | top => cases hx
    | nest => cases hx
   have e0 : ioVal Xf (j, 0, sz) = x := by
    have h4 := hX 0 x rfl
    rw [Nat.add_zero] at h4
    simp only [ioVal, List.getD, h4, Option.getD_some]
    cases x <;> first | rfl | exact absurd rfl (hxs _)
   refine ⟨?_, by simp [iosOf.go, h3]⟩
   rw [iosOf.go, List.map_cons, e0]
   exact hb.io hO (hr 0 _ x rfl rfl) h2 (fun id hid => h.gone hid) h.ver
 | @ioA s s1 ms us ts es vs as iw hb h ih =>
  intro pend xs j Xf hO hl hr hX
  cases xs with
  | nil => cases hl
  | cons x xs =>
   obtain ⟨cs, rfl, hcl, hcr⟩ := rep_ag (hr 0 _ x rfl rfl)
   have h1 := foldOwn_sem hb.own hO (xs := cs.toList) (by simpa using hcl.symm) hcr
   obtain ⟨h2, h3⟩ := ih h1 (by simpa using hl) (fun i u x hu hx => (hr (i + 1) u x (by simpa using hu) (by simpa using hx)).ver hb.own.ver) (j := j + 1) (Xf := Xf) (nx hX)
   have h4 := hX 0 _ rfl
   rw [Nat.add_zero] at h4
   obtain ⟨q1, q2⟩ := hb.io (sf := sf) (j := j) (c := 0) (Xf := Xf) hO (xs := cs.toList) (by simpa using hcl.symm) hcr (fun i y hy => by
    simp only [List.getD, h4, Option.getD_some, Nat.zero_add]
    rw [Array.getElem?_toList] at hy
    show (cs.getD i undef) = y
    simp [Array.getD_eq_getD_getElem?, hy]) h2 (fun id hid => h.gone hid) h.ver
   refine ⟨?_, by simp [iosOf.go, h3, q2]⟩
   rw [iosOf.go, List.map_append]
   exact q1
 | @agB s m ms us ts vs as iw hm hb h ih =>
  intro pend xs j Xf hO hl hr hX
  cases xs with
  | nil => cases hl
  | cons x xs =>
   have := ih hO (by simpa using hl) (fun i u x hu hx => hr (i + 1) u x (by simpa using hu) (by simpa using hx)) (j := j + 1) (Xf := Xf) (nx hX)
   have e : iosOf.go (m :: ms) (.ag ts :: as) j = iosOf.go ms as (j + 1) := by cases m <;> first | rfl | cases hm
   rw [e]; exact this
 | @agO s s1 m ms us ts vs as iw hm hb h ih =>
  intro pend xs j Xf hO hl hr hX
  cases xs with
  | nil => cases hl
  | cons x xs =>
   obtain ⟨cs, rfl, hcl, hcr⟩ := rep_ag (hr 0 _ x rfl rfl)
   have h1 := foldOwn_sem hb hO (xs := cs.toList) (by simpa using hcl.symm) hcr
   have := ih h1 (by simpa using hl) (fun i u x hu hx => (hr (i + 1) u x (by simpa using hu) (by simpa using hx)).ver hb.ver) (j := j + 1) (Xf := Xf) (nx hX)
   have e : iosOf.go (m :: ms) (.ag ts :: as) j = iosOf.go ms as (j + 1) := by cases m <;> first | rfl | exact absurd rfl hm
   rw [e]; exact this
 | @cB s m ms v t vs as iw hm hb h ih =>
  intro pend xs j Xf hO hl hr hX
  cases xs with
  | nil => cases hl
  | cons x xs =>
   have := ih hO (by simpa using hl) (fun i u x hu hx => hr (i + 1) u x (by simpa using hu) (by simpa using hx)) (j := j + 1) (Xf := Xf) (nx hX)
   have e : iosOf.go (m :: ms) (.c t :: as) j = iosOf.go ms as (j + 1) := by
    cases m <;> first | rfl | (cases hm)
   rw [e]; exact this
 | @cO s s1 m ms v t vs as iw hm hb h ih =>
  intro pend xs j Xf hO hl hr hX
  cases xs with
  | nil => cases hl
  | cons x xs =>
   have h1 := own_sem hO (hr 0 _ x rfl rfl) hb
   have := ih h1 (by simpa using hl) (fun i u x hu hx => (hr (i + 1) u x (by simpa using hu) (by simpa using hx)).ver hb.ver) (j := j + 1) (Xf := Xf) (nx hX)
   have e : iosOf.go (m :: ms) (.c t :: as) j = iosOf.go ms as (j + 1) := by
    cases m <;> first | rfl | exact absurd rfl hm
   rw [e]; exact this
end Go.Vm
namespace Go.Vm
set_option linter.unusedVariables false
set_option linter.unusedSimpArgs false
variable {P : Program} {X X' : Cx} {FZ FZ' : Nat → Prop} {β β' : Nat → Value} {s s' sf : Objs} {w w' : World} {v : V} {fp fp' : List (Bool × Nat)} {pend L : List (T × Value)} {nm : List (Nat × Nat)}
 {ms : List Mode} {vs : List V} {as : List A} {iw : List IoW}
theorem IoL.turn {xs : List Value} (h : IoL w β sf iw xs) (hr : ∀ x szx b o n cap, β x = .slice (some ⟨b, o, none⟩) n cap → 0 < cap → (∃ rs, (sf x).o = some (.rows .own szx rs)) → w'.heap[b]? = w.heap[b]?) : IoL w' β sf iw xs := by
 induction h with
 | nil => exact .nil
 | nul _ ih => exact .nul ih
 | top hn h1 hh hd _ ih => exact .top hn h1 hh hd ih
 | @nest x szx i j sz r y xs hv hc _ ih =>
  refine .nest hv (fun hs => ?_) ih
  obtain ⟨b, o, n, cap, c, y0, h1, h0, h2, h3, h4⟩ := hc hs
  exact ⟨b, o, n, cap, c, y0, h1, h0, h2.of_eq (hr x szx b o n cap h1 h0 hs), h3, h4⟩
theorem IoL.rebase {xs : List Value} (h : IoL w β sf iw xs) (hb : ∀ i, 1 ≤ (sf i).ver → β' i = β i) (hl : ∀ i o, (sf i).o = some o → 1 ≤ (sf i).ver) : IoL w β' sf iw xs := by
 induction h with
 | nil => exact .nil
 | nul _ ih => exact .nul ih
 | top hn h1 hh hd _ ih => exact .top hn h1 (by rw [hb _ h1]; exact hh) hd ih
 | @nest x szx i j sz r y xs hv hc _ ih =>
  refine .nest hv (fun hs => ?_) ih
  obtain ⟨rs, hrs⟩ := hs
  rw [hb x (hl _ _ hrs)]
  exact hc ⟨rs, hrs⟩
theorem ioW_keep {out : Out} : ∀ {r : List IoW} {q : Nat} {s s' : Objs}, putAll out (ioW q r) s = some s' →
  (∀ id, (∀ e ∈ r, (∀ sz, e ≠ .top id sz) ∧ ∀ szx i j sz, e ≠ .nest id szx i j sz) → s' id = s id) ∧
  (∀ x, (∀ e ∈ r, ∀ sz, e ≠ .top x sz) → ∀ szx rs, (s' x).o = some (.rows .own szx rs) → ∃ rs', (s x).o = some (.rows .own szx rs'))
 | [], q, s, s', h => by
  simp only [ioW, putAll] at h
  obtain rfl := Option.some.inj h
  exact ⟨fun _ _ => rfl, fun _ _ szx rs h => ⟨rs, h⟩⟩
 | .nil :: r, q, s, s', h => by
  rw [ioW] at h
  obtain ⟨a, b⟩ := ioW_keep h
  exact ⟨fun id hid => a id fun e he => hid e (List.mem_cons_of_mem _ he), fun x hx => b x fun e he => hx e (List.mem_cons_of_mem _ he)⟩
 | .top id sz :: r, q, s, s', h => by
  rw [ioW] at h
  obtain ⟨s1, h1, _, rfl⟩ := putAll_snoc h
  obtain ⟨a, b⟩ := ioW_keep h1
  refine ⟨fun id' hid => ?_, fun x hx szx rs ho => ?_⟩
  ·have hne : id' ≠ id := fun e => (hid _ List.mem_cons_self).1 sz (by rw [e])
   rw [putS_ne _ _ _ hne]
   exact a id' fun e he => hid e (List.mem_cons_of_mem _ he)
  ·have hne : x ≠ id := fun e => hx _ List.mem_cons_self sz (by rw [e])
   rw [putS_ne _ _ _ hne] at ho
   exact b x (fun e he => hx e (List.mem_cons_of_mem _ he)) szx rs ho
 | .nest x0 szx0 i j sz :: r, q, s, s', h => by
  rw [ioW] at h
  obtain ⟨s1, h1, _, rfl⟩ := putAll_snoc h
  obtain ⟨a, b⟩ := ioW_keep h1
  refine ⟨fun id' hid => ?_, fun x hx szx rs ho => ?_⟩
  ·have hne : id' ≠ x0 := fun e => (hid _ List.mem_cons_self).2 szx0 i j sz (by rw [e])
   rw [putS_ne _ _ _ hne]
   exact a id' fun e he => hid e (List.mem_cons_of_mem _ he)
  ·by_cases hne : x = x0
   ·subst hne
    have e1 : ∀ (o : Option O), (putS s1 x true o x).o = o := fun o => by simp
    rw [e1] at ho
    have : ∃ rs1, (s1 x).o = some (.rows .own szx rs1) := by
     split at ho
     ·rename_i szx' rs1 h2
      cases hb : Nat.beq szx0 szx' with
      | false => rw [hb] at ho; cases ho
      | true =>
       rw [hb, cond_true] at ho
       have := beq_eq hb
       subst this
       injection ho with ho
       injection ho with _ ho _
       subst ho
       exact ⟨rs1, h2⟩
     ·exact ⟨rs, ho⟩
    obtain ⟨rs1, h2⟩ := this
    exact b x (fun e he => hx e (List.mem_cons_of_mem _ he)) szx rs1 h2
   ·rw [putS_ne _ _ _ hne] at ho
    exact b x (fun e he => hx e (List.mem_cons_of_mem _ he)) szx rs ho
theorem OK.drop {t : T} {x : Value} (h : OK X w FZ β s (pend ++ [(t, x)])) : OK X w FZ β s pend := by
 have := h.take pend.length
 simpa using this
theorem OK.bump (h : OK X w FZ β s pend) (x : Nat) (o : Option O) (ho : o = none ∨ o = (s x).o) : OK X w FZ β (putS s x true o) pend :=
 h.sub (fun id => by
  by_cases e : id = x
  ·subst e
   rcases ho with rfl | rfl
   ·exact .inl (by simp)
   ·exact .inr (by simp)
  ·exact .inr (by rw [putS_ne _ _ _ e])) (fun i => putS_ver _ _ _ _ _)
theorem IoL.topF {xs : List Value} (h : IoL w β sf iw xs) : ∀ id sz, .top id sz ∈ iw → (sf id).o = none ∧ 1 ≤ (sf id).ver := by
 induction h with
 | nil => intro id sz hm; cases hm
 | nul _ ih =>
  intro id sz hm
  rcases List.mem_cons.1 hm with h | h
  ·cases h
  ·exact ih id sz h
 | top hn h1 hh hd _ ih =>
  intro id sz hm
  rcases List.mem_cons.1 hm with h | h
  ·cases h; exact ⟨hn, h1⟩
  ·exact ih id sz h
 | nest hv hc _ ih =>
  intro id sz hm
  rcases List.mem_cons.1 hm with h | h
  ·cases h
  ·exact ih id sz h
theorem IoL.nestF {xs : List Value} (h : IoL w β sf iw xs) : ∀ x szx i j sz, .nest x szx i j sz ∈ iw → 1 ≤ (sf x).ver := by
 induction h with
 | nil => intro x szx i j sz hm; cases hm
 | nul _ ih =>
  intro x szx i j sz hm
  rcases List.mem_cons.1 hm with h | h
  ·cases h
  ·exact ih x szx i j sz h
 | top hn h1 hh hd _ ih =>
  intro x szx i j sz hm
  rcases List.mem_cons.1 hm with h | h
  ·cases h
  ·exact ih x szx i j sz h
 | nest hv hc _ ih =>
  intro x szx i j sz hm
  rcases List.mem_cons.1 hm with h | h
  ·cases h; exact hv
  ·exact ih x szx i j sz h
theorem putAll_box {out : Out} {id : Nat} : ∀ {ws : WS} {s s' : Objs}, (∀ x ∈ ws, x.1 = true ∨ ∀ o c, ∃ ro cells, x.2.2 o c = some (.box ro cells)) → 1 ≤ (s id).ver → putAll out ws s = some s' →
  s' id = s id ∨ ∃ ro cells, (s' id).o = some (.box ro cells)
 | [], s, s', _, _, h => by
  simp only [putAll] at h
  obtain rfl := Option.some.inj h
  exact .inl rfl
 | (nw, i, f) :: ws, s, s', hw, hv, h => by
  simp only [putAll] at h
  cases hc : (!nw || Nat.beq (s i).ver 0) with
  | false => rw [hc] at h; cases h
  | true =>
   rw [hc, cond_true] at h
   have hw' : ∀ x ∈ ws, x.1 = true ∨ ∀ o c, ∃ ro cells, x.2.2 o c = some (.box ro cells) := fun x hx => hw x (List.mem_cons_of_mem _ hx)
   by_cases e : id = i
   ·subst e
    have hnw : nw = false := by
     cases nw with
     | false => rfl
     | true =>
      have := beq_eq (by simpa using hc : Nat.beq (s id).ver 0 = true)
      omega
    rcases hw _ List.mem_cons_self with h1 | h1
    ·rw [hnw] at h1; cases h1
    ·obtain ⟨ro, cells, h2⟩ := h1 out (s id).o
     rcases putAll_box hw' (by rw [putS_bump]; omega) h with h3 | h3
     ·right
      refine ⟨ro, cells, ?_⟩
      rw [h3]
      have h2 : f out (s id).o = some (.box ro cells) := h2
      simp [h2]
     ·exact .inr h3
   ·rcases putAll_box hw' (by rw [putS_ne _ _ _ e]; exact hv) h with h3 | h3
    ·left; rw [h3, putS_ne _ _ _ e]
    ·exact .inr h3
theorem boxW_box {key : Nat} : ∀ {bw : List (Nat × Nat × List Kd × List Fl)}, ∀ x ∈ boxW key bw, x.1 = true ∨ ∀ o c, ∃ ro cells, x.2.2 o c = some (.box ro cells)
 | [], x, hx => by simp [boxW] at hx
 | (id, p, ks, fs) :: bw, x, hx => by
  rw [boxW] at hx
  rcases List.mem_append.1 hx with hx | hx
  ·exact boxW_box x hx
  ·rcases List.mem_append.1 hx with hx | hx
   ·exact .inl (boxgo_mem x hx)
   ·obtain rfl := List.mem_singleton.1 hx
    exact .inr fun o c => ⟨_, _, rfl⟩
theorem io_place {out : Out} {xs : List Value} (h : IoL w β sf iw xs) : ∀ {q : Nat} {outs : List T} {s s' : Objs} {pend : List (T × Value)}, outs.length = xs.length → (∀ id sz, .top id sz ∈ iw → s id = sf id) →
  (∀ x szx i j sz, .nest x szx i j sz ∈ iw → ∀ rs, (s x).o = some (.rows .own szx rs) → ∃ rs', (sf x).o = some (.rows .own szx rs')) → (∀ id sz x szx i j sz', .top id sz ∈ iw → .nest x szx i j sz' ∈ iw → id ≠ x) → (∀ i t, outs[i]? = some t → out.outs.getD (q + i) .no = t) →
  ioOk q iw out = true → putAll out (ioW q iw) s = some s' → OK X w FZ β s (pend ++ outs.zip xs) → OK X w FZ β s' pend := by
 induction h with
 | nil =>
  intro q outs s s' pend hl hs hs2 hap ht hok hp hO
  simp only [ioW, putAll] at hp
  obtain rfl := Option.some.inj hp
  simpa using hO
 | @nul r x xs h ih =>
  intro q outs s s' pend hl hs hs2 hap ht hok hp hO
  cases outs with
  | nil => cases hl
  | cons t outs =>
   rw [ioOk] at hok
   rw [ioW] at hp
   exact (ih (pend := pend ++ [(t, x)]) (by simpa using hl) (fun id sz he => hs id sz (List.mem_cons_of_mem _ he)) (fun x szx i j sz he => hs2 x szx i j sz (List.mem_cons_of_mem _ he)) (fun id sz x szx i j sz' h1 h2 => hap id sz x szx i j sz' (List.mem_cons_of_mem _ h1) (List.mem_cons_of_mem _ h2))
    (fun i t hi => by rw [show q + 1 + i = q + (i + 1) by omega]; exact ht (i + 1) t (by simpa using hi)) hok hp (by simpa using hO)).drop
 | @top id sz r x xs hn h1 hh hd h ih =>
  intro q outs s s' pend hl hs hs2 hap ht hok hp hO
  cases outs with
  | nil => cases hl
  | cons t outs =>
   rw [ioOk, Bool.and_eq_true] at hok
   rw [ioW] at hp
   obtain ⟨s1, hp1, _, rfl⟩ := putAll_snoc hp
   have o1 := ih (pend := pend ++ [(t, x)]) (by simpa using hl) (fun id sz he => hs id sz (List.mem_cons_of_mem _ he)) (fun x szx i j sz he => hs2 x szx i j sz (List.mem_cons_of_mem _ he)) (fun id sz x szx i j sz' h1 h2 => hap id sz x szx i j sz' (List.mem_cons_of_mem _ h1) (List.mem_cons_of_mem _ h2))
    (fun i t hi => by rw [show q + 1 + i = q + (i + 1) by omega]; exact ht (i + 1) t (by simpa using hi)) hok.2 hp1 (by simpa using hO)
   have ht0 := ht 0 t rfl
   rw [Nat.add_zero] at ht0
   have hk := hok.1
   rw [ht0] at hk
   obtain ⟨rs, rfl⟩ := okSl_spec hk
   have hsid : s1 id = sf id := by
    rw [(ioW_keep hp1).1 id fun e he => ⟨hd e he, fun szx i j sz' e' => by
     subst e'
     exact hap id sz id szx i j sz' List.mem_cons_self (List.mem_cons_of_mem _ he) rfl⟩]
    exact hs _ _ List.mem_cons_self
   have o2 := (o1.rehead hh).home (by rw [hsid]; exact hn) (by rw [hsid]; exact h1)
   rw [ht0]
   exact o2
 | @nest x0 szx i j sz r y xs hv hc h ih =>
  intro q outs s s' pend hl hs hs2 hap ht hok hp hO
  cases outs with
  | nil => cases hl
  | cons t outs =>
   rw [ioOk, Bool.and_eq_true] at hok
   rw [ioW] at hp
   obtain ⟨s1, hp1, _, rfl⟩ := putAll_snoc hp
   have o1 := ih (pend := pend ++ [(t, y)]) (by simpa using hl) (fun id sz he => hs id sz (List.mem_cons_of_mem _ he)) (fun x szx i j sz he => hs2 x szx i j sz (List.mem_cons_of_mem _ he)) (fun id sz x szx i j sz' h1 h2 => hap id sz x szx i j sz' (List.mem_cons_of_mem _ h1) (List.mem_cons_of_mem _ h2))
    (fun i t hi => by rw [show q + 1 + i = q + (i + 1) by omega]; exact ht (i + 1) t (by simpa using hi)) hok.2 hp1 (by simpa using hO)
   have ht0 := ht 0 t rfl
   rw [Nat.add_zero] at ht0
   have hk := hok.1
   rw [ht0] at hk
   obtain ⟨rs, rfl⟩ := okSl_spec hk
   simp only [ht0]
   split
   ·rename_i szx' rs1 h2
    cases hb : Nat.beq szx szx' with
    | false => exact o1.drop.bump x0 none (.inl rfl)
    | true =>
     have := beq_eq hb
     subst this
     obtain ⟨rs2, h3⟩ := (ioW_keep hp1).2 x0 (fun e he sz' e' => by
      subst e'
      exact hap x0 sz' x0 szx i j sz (List.mem_cons_of_mem _ he) List.mem_cons_self rfl) szx rs1 h2
     obtain ⟨b, o, n, cap, c, y0, e1, _, e2, e3, e4⟩ := hc (hs2 x0 szx i j sz List.mem_cons_self rs2 h3)
     rw [cond_true, sSetCell_eq]
     exact (o1.rehead e4).homeCell h2 e1 e2 e3
   ·exact o1.drop.bump x0 _ (.inr rfl)
end Go.Vm
