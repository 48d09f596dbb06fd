/- Whatever reads as data of a type is of a kind of the print's words: numbers, bools, strings, slices, structs, put together. Generic over the program. -/
import Derived.Test.YtmfbonhdjpmbkaaWWords
import Derived.ChangeArms
import Derived.Deep.Slices
import Derived.WalkKit
import Derived.SizedLaws
import Derived.ProofKit
import Derived.OpenShut
import Derived.ShutString
import Derived.ChangeOld
namespace Go.Proofs.Ytmfbonhdjpmbkaa.Opn
open Go.RowKit Go.Proofs.YtmfbonhdjpmbkaaW.PrintWords
set_option linter.unusedVariables false

/-- Whatever reads as data of type t is of kind d. -/
def Opn {α : Type} (P : Program) (t : TypeId) (d : Kd α) (ok : α → Prop) : Prop :=
  ∀ (H : Type) (enc : TypeId × Value → H) (w : World) (base : Nat) (spare : Nat → Bool) (held : Bool) (fuel : Nat) (cs : List Value) (y : DataW H × List MemPlace),
    DataW.trod enc P w base spare held fuel t cs = some y → (∀ n ∈ y.1.weights P t, n ≤ reachBytes) → ∃ x, d.K w x cs ∧ ok x

theorem opn_int {P : Program} {t : TypeId} {k : IntKind} (ht : P.underlying t = some (.int k)) : Opn P t (Kd.int k) (fun n => (Lit.int k n).wf = true) := by
  intro H enc w base spare held fuel cs y h _
  obtain ⟨n, rfl, _, hw⟩ := DataW.trod_int ht h
  exact ⟨n, rfl, hw⟩
theorem opn_bool {P : Program} {t : TypeId} (ht : P.underlying t = some .bool) : Opn P t Kd.bool (fun _ => True) := by
  intro H enc w base spare held fuel cs y h _
  obtain ⟨b, rfl, _⟩ := DataW.trod_bool ht h
  exact ⟨b, rfl, trivial⟩
theorem opn_string {P : Program} {t : TypeId} (ht : P.underlying t = some .string) : Opn P t Kd.string (fun s => s.size ≤ reachBytes) := by
  intro H enc w base spare held fuel cs y h hw
  obtain ⟨s, rfl, rfl, _⟩ := DataW.trod_string ht h
  refine ⟨s, rfl, ?_⟩
  have := hw s.data.toList.length (by simp [DataW.weights])
  simpa using this

theorem weights_all_mem {H : Type} {P : Program} {e : TypeId} : ∀ {l : List (DataW H)} {i : Nat} {d : DataW H}, l[i]? = some d → ∀ n ∈ d.weights P e, n ∈ DataW.weightsAll P e l
  | [], i, d, h, n, hn => by simp at h
  | d0 :: l, 0, d, h, n, hn => by
    simp only [List.getElem?_cons_zero, Option.some.injEq] at h
    subst h
    simp only [DataW.weightsAll, List.mem_append]
    exact .inl hn
  | d0 :: l, i + 1, d, h, n, hn => by
    simp only [List.getElem?_cons_succ] at h
    simp only [DataW.weightsAll, List.mem_append]
    exact .inr (weights_all_mem h n hn)

theorem exists_list {α : Type} (n : Nat) (Q : Nat → α → Prop) (h : ∀ i, i < n → ∃ x, Q i x) : ∃ xs : List α, xs.length = n ∧ ∀ i x, xs[i]? = some x → Q i x := by
  induction n with
  | zero => exact ⟨[], rfl, fun i x h => by simp at h⟩
  | succ n ih =>
    obtain ⟨xs, hl, hx⟩ := ih (fun i hi => h i (by omega))
    obtain ⟨y, hy⟩ := h n (by omega)
    refine ⟨xs ++ [y], by simp [hl], fun i x hi => ?_⟩
    rcases Nat.lt_or_ge i n with hlt | hge
    · rw [List.getElem?_append_left (by omega)] at hi
      exact hx i x hi
    · have : i = n := by
        have := (List.getElem?_eq_some_iff.1 hi).1
        simp at this
        omega
      subst this
      rw [List.getElem?_append_right (by omega), hl] at hi
      simp at hi
      subst hi
      exact hy

theorem opn_slice {α : Type} {P : Program} {t e : TypeId} {d : Kd α} {ok : α → Prop} (ht : P.underlying t = some (.slice e)) (hc : P.cellsOf e = d.sz) (hd : Opn P e d ok) :
    Opn P t (Kd.slice e d) (fun xs => xs.length * P.bytesOf e ≤ reachBytes ∧ ∀ x ∈ xs, ok x) := by
  intro H enc w base spare held fuel cs y h hw
  rcases Go.Deep.open_slice ht h with ⟨rfl, rfl⟩ | ⟨a, len, cap, m, n, D, Pl, rfl, hb, hl, hm, hmm, rfl, hi⟩
  · exact ⟨[], ⟨none, 0, rfl, Nat.le_refl _, rfl, by simp, fun h => absurd h (by simp)⟩, by simp, by simp⟩
  · have hlm : len ≤ m := by rw [hmm]; split <;> omega
    have hel : ∀ i, i < len → ∃ x c, w.cells? base (a.add (i * P.cellsOf e)) (P.cellsOf e) = some c ∧ d.K w x c ∧ ok x := by
      intro i hlt
      obtain ⟨c, h1, h2⟩ := hi i (by omega)
      obtain ⟨x, hk, ho⟩ := hd H enc w base spare held n c _ h2 (fun q hq => hw q (by
        simp only [DataW.weights, ht, List.mem_cons, List.mem_append]
        refine .inr (.inl (weights_all_mem (i := i) (d := D i) ?_ q hq))
        simp [hlt]))
      exact ⟨x, c, h1, hk, ho⟩
    obtain ⟨xs, hlen, hf⟩ := exists_list len _ hel
    refine ⟨xs, ⟨some a, cap, by rw [hlen], by rw [hlen]; exact hl, by rw [hlen], by rw [hlen]; have : cap ≤ 9223372036854775807 := hm; omega, fun _ => ⟨a, rfl, fun j p hj => ?_⟩⟩, ?_, ?_⟩
    · have hjl : j < len := by
        have := (List.getElem?_eq_some_iff.1 hj).1
        omega
      obtain ⟨c, h1, h2, _⟩ := hf j p hj
      obtain ⟨_, hcl, hat⟩ := World.cells?_some h1
      refine ⟨c, by rw [hcl, hc], h2, fun i u hu => ?_⟩
      have hil : i < P.cellsOf e := by
        have := (List.getElem?_eq_some_iff.1 hu).1
        omega
      rw [← hc, ← Go.Deep.add_add, hat i hil, hu]
    · rw [hlen]
      have := hw ((len + (m - len)) * P.bytesOf e) (by simp [DataW.weights, ht])
      exact Nat.le_trans (Nat.mul_le_mul_right _ (by omega)) this
    · intro x hx
      obtain ⟨i, hi', he⟩ := List.mem_iff_getElem.1 hx
      exact (hf i x (by rw [List.getElem?_eq_getElem hi', he])).choose_spec.2.2

/-- The fields of a struct from one on. -/
def OpnF {α : Type} (P : Program) (l : List Field) (off : Nat) (d : Kd α) (ok : α → Prop) : Prop :=
  ∀ (H : Type) (enc : TypeId × Value → H) (w : World) (base : Nat) (spare : Nat → Bool) (held : Bool) (n : Nat) (cs : List Value) (ys : List (DataW H × List MemPlace)),
    (∀ (i : Nat) (f : Field), l[i]? = some f → DataW.trod enc P w base spare held n f.type ((cs.drop f.offset).take (P.cellsOf f.type)) = ys[i]?) → ys.length = l.length →
    (∀ q ∈ DataW.weightsEach P (l.map (·.type)) (ys.map (·.1)), q ≤ reachBytes) → cs.length = off + d.sz → ∃ x, d.K w x (cs.drop off) ∧ ok x

theorem opnF_one {α : Type} {P : Program} {f : Field} {off : Nat} {d : Kd α} {ok : α → Prop} (ho : f.offset = off) (hc : P.cellsOf f.type = d.sz) (hd : Opn P f.type d ok) : OpnF P [f] off d ok := by
  intro H enc w base spare held n cs ys hy hl hw hcs
  match ys, hl with
  | [y], _ =>
    have h1 := hy 0 f rfl
    rw [ho, hc, List.take_of_length_le (by rw [List.length_drop]; omega)] at h1
    exact hd H enc w base spare held n _ y h1 (fun q hq => hw q (by simp [DataW.weightsEach, hq]))

theorem opnF_cons {α β : Type} {P : Program} {f : Field} {l : List Field} {off : Nat} {a : Kd α} {b : Kd β} {ok : α → Prop} {ok' : β → Prop} (ho : f.offset = off) (hc : P.cellsOf f.type = a.sz) (ha : Opn P f.type a ok)
    (hb : OpnF P l (off + a.sz) b ok') : OpnF P (f :: l) off (Kd.pair a b) (fun x => ok x.1 ∧ ok' x.2) := by
  intro H enc w base spare held n cs ys hy hl hw hcs
  match ys, hl with
  | y :: ys, hl =>
    have hcs' : cs.length = off + (a.sz + b.sz) := hcs
    have h1 := hy 0 f rfl
    rw [ho, hc] at h1
    obtain ⟨x, hx, hok⟩ := ha H enc w base spare held n _ y h1 (fun q hq => hw q (by simp [DataW.weightsEach, hq]))
    obtain ⟨x', hx', hok'⟩ := hb H enc w base spare held n cs ys (fun i g hg => hy (i + 1) g hg) (by simpa using hl) (fun q hq => hw q (by simp [DataW.weightsEach, hq])) (by omega)
    refine ⟨(x, x'), ⟨(cs.drop off).take a.sz, cs.drop (off + a.sz), ?_, hx, hx'⟩, hok, hok'⟩
    rw [← List.drop_drop, List.take_append_drop]

theorem opn_struct {α : Type} {P : Program} {t : TypeId} {fs : Array Field} {d : Kd α} {ok : α → Prop} (ht : P.underlying t = some (.struct fs)) (hc : P.cellsOf t = d.sz) (hf : OpnF P fs.toList 0 d ok) : Opn P t d ok := by
  intro H enc w base spare held fuel cs y h hw
  obtain ⟨xs, n, _, rfl, hlen, hxl, hg⟩ := DataW.trod_struct ht h
  obtain ⟨x, hx, hok⟩ := hf H enc w base spare held n cs xs (fun i f hi => hg i f (by simpa using hi)) (by simpa using hxl) (fun q hq => hw q (by simpa [DataW.weights, ht] using hq)) (by omega)
  exact ⟨x, by simpa using hx, hok⟩

theorem opn_iso {α β : Type} {P : Program} {t : TypeId} {d : Kd α} {ok : α → Prop} (f : β → α) (g : α → β) (hg : ∀ x, f (g x) = x) (h : Opn P t d ok) : Opn P t (Kd.iso d f) (fun y => ok (f y)) := by
  intro H enc w base spare held fuel cs y hy hw
  obtain ⟨x, hx, hok⟩ := h H enc w base spare held fuel cs y hy hw
  exact ⟨g x, (by show d.K w (f (g x)) cs; rw [hg]; exact hx), (by show ok (f (g x)); rw [hg]; exact hok)⟩

theorem opn_of_eq {α : Type} {P : Program} {t : TypeId} {d d' : Kd α} {ok : α → Prop} (e : d = d') (h : Opn P t d ok) : Opn P t d' ok := e ▸ h

/-! ### Arguments -/
section
variable {H : Type} {enc : TypeId × Value → H} {P : Program} {W : World} {base : Nat} {spare : Nat → Bool} {held : Bool} {ts : List TypeId} {ds : List (DataW H)}
theorem weights_le (h : (DataW.weightsEach P ts ds).all (· ≤ reachBytes) = true) {j : Nat} {t : TypeId} {d : DataW H} (ht : ts[j]? = some t) (hd : ds[j]? = some d) : ∀ n ∈ d.weights P t, n ≤ reachBytes := by
  intro n hn
  have := List.all_eq_true.1 h _ (DataW.weights_mem_each ht hd n hn)
  simpa using this

theorem opn_slice_arg {α : Type} {t e : TypeId} {d : Kd α} {ok : List α → Prop} {r : Reach} {b : Nat} {v : Value} {y : DataW H} {ps : List MemPlace} (ht : P.underlying t = some (.slice e)) (ho : Opn P t (Kd.slice e d) ok)
    (hv : Value.okWide P W r b t v) (h : DataW.Trod enc P W base spare held t v y ps) (hw : ∀ n ∈ y.weights P t, n ≤ reachBytes) : ∃ A c xs, v = .slice A xs.length c ∧ xs.length ≤ c ∧ Kd.C d W A xs.length xs ∧ ok xs := by
  obtain ⟨a, len, cap, rfl⟩ := Go.WideShapes.okWide_slice ht hv
  obtain ⟨fuel, hf⟩ := h
  obtain ⟨xs, ⟨A, c, hcs, hl, hC⟩, hok⟩ := ho H enc W base spare held fuel _ _ hf hw
  have hcs' : [Value.slice a len cap] = [.slice A xs.length c] := hcs
  injection hcs' with hcs'
  exact ⟨A, c, xs, hcs', hl, hC, hok⟩

theorem opn_agg_arg {α : Type} {t : TypeId} {fs : Array Field} {d : Kd α} {ok : α → Prop} {r : Reach} {b : Nat} {v : Value} {y : DataW H} {ps : List MemPlace} (ht : P.underlying t = some (.struct fs)) (ho : Opn P t d ok)
    (hv : Value.okWide P W r b t v) (h : DataW.Trod enc P W base spare held t v y ps) (hw : ∀ n ∈ y.weights P t, n ≤ reachBytes) : ∃ cs x, v = .agg cs ∧ d.K W x cs.toList ∧ ok x := by
  obtain ⟨cs, rfl, _⟩ := Go.WideShapes.okWide_struct ht hv
  obtain ⟨fuel, hf⟩ := h
  obtain ⟨x, hx, hok⟩ := ho H enc W base spare held fuel _ _ hf hw
  exact ⟨cs, x, rfl, hx, hok⟩

theorem opn_int_arg {t : TypeId} {k : IntKind} {r : Reach} {b : Nat} {v : Value} {y : DataW H} {ps : List MemPlace} (ht : P.underlying t = some (.int k)) (hv : Value.okWide P W r b t v) (h : DataW.Trod enc P W base spare held t v y ps) :
    ∃ n, v = .int k n ∧ (Lit.int k n).wf = true := by
  obtain ⟨n, rfl, _, _, hw⟩ := Go.ChangeShapes.open_int ht hv h
  exact ⟨n, rfl, hw⟩
theorem opn_string_arg {t : TypeId} {r : Reach} {b : Nat} {v : Value} {y : DataW H} {ps : List MemPlace} (ht : P.underlying t = some .string) (hv : Value.okWide P W r b t v) (h : DataW.Trod enc P W base spare held t v y ps) (hw : ∀ n ∈ y.weights P t, n ≤ reachBytes) :
    ∃ s, v = .string s ∧ s.size ≤ reachBytes := by
  obtain ⟨s, rfl, rfl, _, _⟩ := Go.ChangeMaps.open_string ht hv h
  refine ⟨s, rfl, ?_⟩
  have := hw s.data.toList.length (by simp [DataW.weights])
  simpa using this
end

end Go.Proofs.Ytmfbonhdjpmbkaa.Opn
