/- strconv.Itoa and strings.Join: the library's contracts as entries of the table. Condition: the table of powers is laid. -/
import Derived.Test.YtlfkhhmpkgehbaaDoorMZ
import Derived.Shelf.Strconv.Itoa3
import Derived.Shelf.Strings.OnBuilder
import Derived.Sort.Grow
namespace Go.Vm
open Go.Sort Go.Proofs
set_option linter.unusedVariables false
set_option linter.unusedSimpArgs false
noncomputable section
def sItoa : Int → ByteArray := sld fun n => ⟨(Lib.itoa n).toArray⟩
def sIn64 : Int → Bool := sld fun n => decide (-9223372036854775808 ≤ n) && decide (n ≤ 9223372036854775807)
def strT : List T → ByteArray
 | [.im (.string s)] => s
 | _ => .empty
def isStrR : List T → Bool
 | [.im (.string _)] => true
 | _ => false
def joinL (rs : List (List T)) (sep : ByteArray) : List UInt8 := Lib.join (rs.map fun r => (strT r).data.toList) sep.data.toList
def sJoin : List (List T) → ByteArray → ByteArray := sld fun rs sep => ⟨(joinL rs sep).toArray⟩
def pJoin : List (List T) → ByteArray → Bool := sld fun rs sep => rs.all isStrR && decide (rs.length ≤ 140737488355328) && decide ((joinL rs sep).length ≤ 140737488355328)
end
theorem sItoa_eq (n : Int) : sItoa n = ⟨(Lib.itoa n).toArray⟩ := by rw [sItoa, sld_eq]
theorem sIn64_eq (n : Int) : sIn64 n = (decide (-9223372036854775808 ≤ n) && decide (n ≤ 9223372036854775807)) := by rw [sIn64, sld_eq]
theorem sJoin_eq (rs : List (List T)) (sep : ByteArray) : sJoin rs sep = ⟨(joinL rs sep).toArray⟩ := by rw [sJoin, sld_eq]
theorem pJoin_eq (rs : List (List T)) (sep : ByteArray) : pJoin rs sep = (rs.all isStrR && decide (rs.length ≤ 140737488355328) && decide ((joinL rs sep).length ≤ 140737488355328)) := by rw [pJoin, sld_eq]

/-- what a function leaves that gives one value and lays new blocks alone -/
theorem res_im {X : Cx} {w w' : World} {FZ : Nat → Prop} {β : Nat → Value} {ms : List Mode} {aa : List A} {xs : List Value} (hX : X.n0 = w.heap.size) (hO : OK X w FZ β (entry aa []) []) (hio : iosOf ms aa 0 = []) (hb : RowKit.Below w.heap.size w w') (hd : drw → w.drawn ≤ w'.drawn) {v : Value} (hf : flat v) :
  Res X w FZ β (iosOf ms aa 0) xs [] ⟨[.c (.im v)], [], []⟩ v w' := by
 refine ⟨FZ, entry aa [], [], [(.im v, v)], [v], ⟨hb.os, hb.tape, hb.output, hd, hb.size, fun b h _ => hb.block b (by omega), fun b c h => ⟨c, h.of_eq (hb.block b h.lt), rfl⟩, fun _ h => h, fun _ h => .inl h⟩, by rw [hio]; rfl, ?_, .nil, .c .nil, rfl⟩
 rw [hio]
 have h1 := (hO.world (w' := w') (fun b h => hb.block b (hO.rd_lt h)) hb.size).1
 have h2 := h1.add (t := .im v) (x := v) (.im hf) (fun u b _ h => by cases h) (fun b h => by cases h)
 simpa using h2

theorem itoa_sound {P : Program} {ρ : Go.Shelf.Ren} (L : LaysM.n171 P ρ) (hcall : Callable P (ρ.f 171)) (hw : ∀ {X : Cx} {w : World} {FZ : Nat → Prop} {β : Nat → Value} {s : Objs} {pend : List (T × Value)}, OK X w FZ β s pend → Lib.TabIs P w "internal/strconv.uint64pow10" .u64 Lib.pow10Tab) (hnd : ¬ drw)
  {ms : List Mode} {n : Int} (hn : sIn64 n = true) (hio : iosOf ms [.c (.im (.int .i64 n))] 0 = []) : Sound P ms (ρ.f 171) [.c (.im (.int .i64 n))] [] ⟨[.c (.im (.string (sItoa n)))], [], []⟩ := by
 rw [sIn64_eq, Bool.and_eq_true, decide_eq_true_eq, decide_eq_true_eq] at hn
 refine ⟨hcall, rfl, fun X w FZ β xs hX hO hl hrep => ?_⟩
 match xs, hl with
 | [x], _ =>
 have hx := hrep 0 x rfl
 have hx : RepV _ β (.im (.int .i64 n)) x := hx
 cases hx
 refine (Any.strconv_Itoa L n hn.1 hn.2 w (hw hO)).mono ?_
 rintro e w' ⟨rfl, k, os, rfl⟩
 refine ⟨_, rfl, ?_⟩
 rw [sItoa_eq]
 exact res_im (w' := grow (w.drewN k) os) (v := .string ⟨(Lib.itoa n).toArray⟩) hX hO hio ⟨rfl, rfl, rfl, by show w.heap.size ≤ (w.heap ++ os).size; rw [Array.size_append]; exact Nat.le_add_right _ _, fun b h => by show (w.heap ++ os)[b]? = w.heap[b]?; rw [Array.getElem?_append, if_pos h]⟩ (fun h => absurd h hnd) trivial

theorem isStrR_spec {r : List T} (h : isStrR r = true) : r = [.im (.string (strT r))] := by
 unfold isStrR at h
 split at h
 ·rfl
 ·cases h

theorem join_sound {P : Program} {ρ : Go.Shelf.Ren} (L : Lays.n156 P ρ) (E : Builder.Extra P ρ) (hcall : Callable P (ρ.f 156)) (hnd : ¬ drw)
  {ms : List Mode} {rs : List (List T)} {sep : ByteArray} (hp : pJoin rs sep = true) (hio : iosOf ms [.c (.sl .ro 1 rs), .c (.im (.string sep))] 0 = []) : Sound P ms (ρ.f 156) [.c (.sl .ro 1 rs), .c (.im (.string sep))] [] ⟨[.c (.im (.string (sJoin rs sep)))], [], []⟩ := by
 rw [pJoin_eq, Bool.and_eq_true, Bool.and_eq_true, decide_eq_true_eq, decide_eq_true_eq] at hp
 obtain ⟨⟨p1, p2⟩, p3⟩ := hp
 refine ⟨hcall, rfl, fun X w FZ β xs hX hO hl hrep => ?_⟩
 match xs, hl with
 | [x, y], _ =>
 have hx := hrep 0 x rfl
 have hy := hrep 1 y rfl
 have hy : RepV _ β (.im (.string sep)) y := hy
 cases hy
 have ho : (entry [.c (.sl .ro 1 rs), .c (.im (.string sep))] [] (nArg 0)).o = some (.rows .ro 1 rs) := by
  show (putS _ (nArg 0) true _ (nArg 0)).o = _
  rw [putS, upd_same]
 have hx : RepV (vers (entry [.c (.sl .ro 1 rs), .c (.im (.string sep))] [])) β (.sl (nArg 0) true 0 (sLen rs) 1) x := hx
 have him := bor_sem hO hx (.rows ho)
 rw [sLen_eq, cut_all] at him
 have fin : ∀ {w' : World}, RowKit.Below w.heap.size w w' → ∃ z, (Ending.returned (.string ⟨(joinL rs sep).toArray⟩) : Ending) = .returned z ∧ Res X w FZ β (iosOf ms [.c (.sl .ro 1 rs), .c (.im (.string sep))] 0) [x, .string sep] [] ⟨[.c (.im (.string (sJoin rs sep)))], [], []⟩ z w' := fun hb => ⟨_, rfl, by rw [sJoin_eq]; exact res_im hX hO hio hb (fun h => absurd h hnd) trivial⟩
 generalize hA : (fun b => Rd X w FZ β (entry [.c (.sl .ro 1 rs), .c (.im (.string sep))] []) [] b) = A at him
 cases him with
 | nil =>
  refine (Any.strings_Join_none L E none 0 sep w).mono ?_
  rintro e w' ⟨rfl, rfl⟩
  exact fin (RowKit.Below.refl _ _)
 | @emp _ _ a =>
  refine (Any.strings_Join_none L E (some _) 0 sep w).mono ?_
  rintro e w' ⟨rfl, rfl⟩
  exact fin (RowKit.Below.refl _ _)
 | @sl _ _ _ b o cap c hr ha hl hb hw hc =>
  have hlen : (rs.map strT).length = rs.length := by simp
  have e : (rs.map strT).map (·.data.toList) = rs.map fun r => (strT r).data.toList := by rw [List.map_map]; rfl
  have hcon := Any.strings_Join L E b o cap (rs.map strT) sep w (fun j z hz => by
   rw [List.getElem?_map, Option.map_eq_some_iff] at hz
   obtain ⟨r, hr1, rfl⟩ := hz
   have hj := (List.getElem?_eq_some_iff.1 hr1).1
   have hs := isStrR_spec (List.all_eq_true.1 p1 r (List.mem_of_getElem? hr1))
   have hv : c[o + j * 1 + 0]? = some (c[o + j * 1 + 0]'(by omega)) := Array.getElem?_eq_getElem _
   have hi := hc j 0 (.im (.string (strT r))) _ ⟨r, hr1, by rw [hs]; rfl⟩ hv
   rw [hr.cell, show o + j = o + j * 1 + 0 by omega, hv]
   generalize c[o + j * 1 + 0]'(by omega) = v at hi
   cases hi; rfl) (by obtain ⟨t, fr, hq⟩ := hr; exact (Array.getElem?_eq_some_iff.1 hq).1) (by rw [hlen]; exact p2) (by rw [hlen]; exact hl) (by rw [e]; exact p3)
  rw [hlen, e] at hcon
  refine hcon.mono ?_
  rintro e w' ⟨rfl, hb⟩
  exact fin hb
end Go.Vm
