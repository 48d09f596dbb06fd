/- Lists of Aggs: their size is counted, they are copied and held against each other. -/
import Derived.Test.YtmfbonhdjpmbkaaPBx0
import Derived.Test.YtmfbonhdjpmbkaaPBx1
import Derived.Test.YtmfbonhdjpmbkaaAid
namespace Go.Proofs.Ytmfbonhdjpmbkaa.PureB
open Go.RowKit Go.Proofs.Ytmfbonhdjpmbkaa.PB Go.Proofs.YtmfbonhdjpmbkaaW.PrintWords Go.Proofs.YtmfbonhdjpmbkaaW.PrintLast Go.Proofs.YtmfbonhdjpmbkaaW.PrintMore Go.Proofs.Ytmfbonhdjpmbkaa.Aid
set_option linter.unusedVariables false
theorem szAggS_no (l : List (S79)) (a : Int) (ha : 0 ≤ a ∧ a ≤ 1048576) (h0 : l.length ≤ 9223372036854775807) (h : a < l.length) : laws_szAggS.f l a = some (-1) := by
  simp only [laws_szAggS.f]
  rw [w64 (by omega), if_pos (by omega)]
theorem szAggS_yes (l : List (S79)) (a : Int) (ha : 0 ≤ a ∧ a ≤ 1048576) (h : (l.length : Int) ≤ a) : laws_szAggS.f l a = some (a - l.length) := by
  simp only [laws_szAggS.f]
  rw [w64 (by omega), if_neg (by omega)]

def conv77 (x : S79) : S77 := ⟨x.f0, x.f1, x.f2, x.f3, x.f4, x.f5⟩
theorem laws_toAggS_ev (l : List S79) (h : l.length ≤ 1048576) : Ev (fun k => laws_toAggS.f k l) (l.map conv77) := by
  have hlen : (l.map conv77).length = l.length := by simp
  have main := ev_count l.length (fun k s i => laws_toAggS.l0 k l s i) (fun i => (l.map conv77).take i ++ (List.replicate l.length z77).drop i) (l.map conv77) (by
    intro i hi hk
    refine ev_step hk (fun k => ?_)
    have hsl : ((l.map conv77).take i ++ (List.replicate l.length z77).drop i).length = l.length := by simp; omega
    have hx : (l.map conv77)[i]? = some (conv77 (rd_T79 l (i : Int))) := by
      rw [List.getElem?_map, mem_getD l i z79 hi]
      simp [rd_T79]
    simp only [laws_toAggS.l0]
    rw [if_pos (by omega), if_pos (by omega)]
    simp only [laws_toAgg.f, Option.bind_some]
    rw [if_pos (by omega), w64 (by omega), Int.toNat_natCast, ← fill_next (by simp) (by simpa using hi) hx]
    rfl) (ev_now1 (fun k => by
    simp only [laws_toAggS.l0]
    rw [if_neg (by omega)]
    simp [List.take_of_length_le]))
  refine Ev.congr (fun k => ?_) main
  simp only [laws_toAggS.f]
  rw [if_pos (by omega), if_pos (by omega)]
  simp
theorem laws_eqAggS_ev (l : List S77) (h : l.length ≤ 1048576) : Ev (fun k => laws_eqAggS.f k l l) true := by
  refine Ev.congr (fun k => ?_) (ev_count l.length (fun k _ i => laws_eqAggS.l0 k l l i) (fun _ => ()) true (by
    intro i hi hk
    refine ev_step hk (fun k => ?_)
    simp only [laws_eqAggS.l0, laws_eqAgg.f, if_true, Option.bind_some]
    rw [if_pos (by omega), if_pos (by omega), if_pos (by omega), w64 (by omega)]) (ev_now1 (fun k => by
    simp only [laws_eqAggS.l0]
    rw [if_neg (by omega)])))
  simp [laws_eqAggS.f]

end Go.Proofs.Ytmfbonhdjpmbkaa.PureB
