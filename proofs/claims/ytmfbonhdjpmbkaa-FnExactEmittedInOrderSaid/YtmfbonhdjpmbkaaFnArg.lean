/- A call of a function value that stands in a place; the first place where a test says yes. Nothing of the program. -/
import Derived.Test.YtmfbonhdjpmbkaaWLast
import Derived.Test.YtmfbonhdjpmbkaaWMore
namespace Go.Proofs.Ytmfbonhdjpmbkaa.FnArg
open Go.RowKit Go.Proofs.YtmfbonhdjpmbkaaW.PrintWords Go.Proofs.YtmfbonhdjpmbkaaW.PrintLast

/-- A call of what a place holds. -/
theorem goesV_ {P : Program} {ops : Array Oper} {Q : Exit → Act → World → Prop} {rest : List Oper} {oi : Oper} {a : Act} {w : World} (N : Option Tmp) (hd : oi.dst = N) (hg : oi.guard = none) {f : FuncId} {fn : Func} {t : Tmp} {as : Array Operand} {ts : Array TypeId} (cap : Array Value)
    (hf : P.funcs[f]? = some fn) (hname : (fn.name == "runtime.NumGoroutine") = false) (hb : fn.body.isSome = true) (args : Array Value)
    (hop : oi.op = .call { callee := .value (.tmp t), args := as, argTypes := ts }) (hv : a.eval (.tmp t) = .func (.func f) #[] cap) (hargs : as.map a.eval = args)
    (h : Calls P f (args ++ cap) w fun e w' => ∃ v, e = .returned v ∧ wpList P ops Q rest (a.put N v) w') : wpList P ops Q (oi :: rest) a w := by
  refine wpList_plain hg fun K hK => ?_
  have he := enters_ hf hname hb (args ++ cap) w
  have hrun : (execOp a.eval oi).run P w = .ok (.enter f (args ++ cap)) w := by
    unfold execOp
    simp [hop, resolve, hv, Deferred.ofValue, invoke, hargs, he]
  unfold Oper.wp
  rw [hrun, Oper.upon_enter]
  refine h.mono fun e w'' hh => ?_
  obtain ⟨v, rfl, hk⟩ := hh
  subst hd
  exact hK _ _ hk

theorem gate_calleeV {P : Program} {ops : Array Oper} {rest : List Oper} {o : Oper} {a : Act} {Q : Exit → Act → World → Prop} {W : World} {t : Tmp} {as : Array Operand} {ts : Array TypeId}
    (_ho : o.op = .call { callee := .value (.tmp t), args := as, argTypes := ts }) (h : wpList P ops Q (o :: rest) a W) : wpList P ops Q (o :: rest) a W := h

/-- The first place from i on where the test says yes; -1 where there is none. -/
def idxF {α : Type} (p : α → Option Bool) : List α → Int → Option Int
  | [], _ => some (-1)
  | x :: r, i => (p x).bind fun b => if b = true then some i else idxF p r (i + 1)
theorem idxF_at {α : Type} (p : α → Option Bool) (l : List α) (i : Nat) (h : i < l.length) (z : α) : idxF p (l.drop i) (i : Int) = (p (l.getD i z)).bind fun b => if b = true then some (i : Int) else idxF p (l.drop (i + 1)) ((i : Int) + 1) := by
  rw [List.drop_eq_getElem_cons h, List.getD_eq_getElem?_getD, List.getElem?_eq_getElem h]
  rfl
theorem idxF_end {α : Type} (p : α → Option Bool) (l : List α) (i : Int) : idxF p (l.drop l.length) i = some (-1) := by
  rw [List.drop_length]
  rfl
theorem idxF_ge {α : Type} (p : α → Option Bool) : ∀ (l : List α) (i r : Int), 0 ≤ i → idxF p l i = some r → r = -1 ∨ i ≤ r ∧ r < i + l.length
  | [], i, r, h0, h => .inl (by simpa [idxF] using h.symm)
  | x :: l, i, r, h0, h => by
    simp only [idxF] at h
    obtain ⟨b, _, h⟩ := Option.bind_eq_some_iff.1 h
    cases b with
    | true =>
      simp only [if_true, Option.some.injEq] at h
      exact .inr (by simp; omega)
    | false =>
      rw [if_neg (by decide)] at h
      rcases idxF_ge p l (i + 1) r (by omega) h with h | h
      · exact .inl h
      · exact .inr (by simp; omega)
/-- Does the test say yes somewhere. -/
def anyF {α : Type} (p : α → Option Bool) (l : List α) : Option Bool := (idxF p l 0).bind fun r => some (decide (r ≥ 0))
/-- All say yes. -/
def noneF {α : Type} (p : α → Option Bool) (l : List α) : Option Bool := (anyF p l).bind fun b => some (!b)

theorem idxF_mono {α : Type} {p q : α → Option Bool} (h : ∀ x, LeO (p x) (q x)) : ∀ (l : List α) (i : Int), LeO (idxF p l i) (idxF q l i)
  | [], _ => LeO.refl _
  | x :: r, i => LeO.bind (h x) fun b => by
    cases b with
    | true => exact LeO.refl _
    | false => exact idxF_mono h r (i + 1)
theorem anyF_mono {α : Type} {p q : α → Option Bool} (h : ∀ x, LeO (p x) (q x)) (l : List α) : LeO (anyF p l) (anyF q l) := LeO.bind (idxF_mono h l 0) fun _ => LeO.refl _
theorem noneF_mono {α : Type} {p q : α → Option Bool} (h : ∀ x, LeO (p x) (q x)) (l : List α) : LeO (noneF p l) (noneF q l) := LeO.bind (anyF_mono h l) fun _ => LeO.refl _
theorem notF_mono {a b : Option Bool} (h : LeO a b) : LeO (a.bind fun x => some (!x)) (b.bind fun x => some (!x)) := LeO.bind h fun _ => LeO.refl _
end Go.Proofs.Ytmfbonhdjpmbkaa.FnArg
