/- the table of InTime is sound -/
import Derived.Test.YtmfbonhdjpmbkaaVm63
namespace Go.Vm
set_option linter.unusedVariables false
set_option linter.unusedSimpArgs false

theorem mixed : Go.Proofs.Try.prog.follows .mixedOrders = true := by kernel_rfl
theorem good0 : Good Go.Proofs.Try.prog (fun _ => none) (fun _ => .own) TL0 := .nil
theorem good1 : Good Go.Proofs.Try.prog (fun _ => none) (fun _ => .own) TL1 := .cons (fun xs ps h => by
  unfold gIn at h ⊢
  split at h
  · exact b_in _ _ _
  · cases h) good0
theorem good2 : Good Go.Proofs.Try.prog (fun _ => none) (fun _ => .own) TL2 := .cons (fun xs ps h => by
  unfold gIn at h ⊢
  split at h
  · exact b_in' _ _ _
  · cases h) good1
theorem good3 : Good Go.Proofs.Try.prog (fun _ => none) (fun _ => .own) TL3 := .cons (fun xs ps h => by
  unfold gIn1 at h ⊢
  split at h
  · exact b_time _
  · cases h) good2
theorem good4 : Good Go.Proofs.Try.prog (fun _ => none) (fun _ => .own) TL4 := .cons (fun xs ps h => by
  unfold gIn1 at h ⊢
  split at h
  · exact b_key _
  · cases h) good3
theorem good5 : Good Go.Proofs.Try.prog (fun _ => none) (fun _ => .own) TL5 := .cons (fun xs ps h => by
  unfold gIn1 at h ⊢
  split at h
  · exact b_sum _
  · cases h) good4
theorem good6 : Good Go.Proofs.Try.prog (fun _ => none) (fun _ => .own) TL6 := .cons (fun xs ps h => by
  unfold gIn1 at h ⊢
  split at h
  · exact b_val _
  · cases h) good5
theorem good7 : Good Go.Proofs.Try.prog (fun _ => none) (fun _ => .own) TL7 := .cons (fun xs ps h => by
  unfold gIn1 at h ⊢
  split at h
  · exact b_val' _
  · cases h) good6
theorem good8 : Good Go.Proofs.Try.prog (fun _ => none) (fun _ => .own) TL8 := .cons (fun xs ps h => by
  unfold gIn1 at h ⊢
  split at h
  · exact b_size _
  · cases h) good7
theorem good9 : Good Go.Proofs.Try.prog (fun _ => none) (fun _ => .own) TL9 := .cons (fun xs ps h => by
  unfold gAggOk at h ⊢
  split at h
  · exact b_aggOk _ _ _ _ _ _
  · cases h) good8
theorem good10 : Good Go.Proofs.Try.prog (fun _ => none) (fun _ => .own) TL10 := .cons (fun xs ps h => by
  unfold gAggOk at h ⊢
  split at h
  · exact b_aggOk' _ _ _ _ _ _
  · cases h) good9
theorem good11 : Good Go.Proofs.Try.prog (fun _ => none) (fun _ => .own) TL11 := .cons (fun xs ps h => by
  unfold gWinEnd at h ⊢
  split at h
  · exact b_winEnd _ _
  · cases h) good10
theorem good12 : Good Go.Proofs.Try.prog (fun _ => none) (fun _ => .own) TL12 := .cons (fun xs ps h => by
  unfold gWinEnd at h ⊢
  split at h
  · exact b_winEnd' _ _
  · cases h) good11
theorem good13 : Good Go.Proofs.Try.prog (fun _ => none) (fun _ => .own) TL13 := .cons (fun xs ps h => by
  unfold gAllOk at h ⊢
  split at h
  · exact b_allOk h
  · cases h) good12
theorem good14 : Good Go.Proofs.Try.prog (fun _ => none) (fun _ => .own) TL14 := .cons (fun xs ps h => by
  unfold gLate at h ⊢
  split at h
  · exact b_late _ _ _ _ _ _ _ _
  · cases h) good13
theorem good15 : Good Go.Proofs.Try.prog (fun _ => none) (fun _ => .own) TL15 := .cons (fun xs ps h => by
  unfold gLateAt at h ⊢
  split at h
  · exact b_lateAt _ _ h
  · cases h) good14
theorem good16 : Good Go.Proofs.Try.prog (fun _ => none) (fun _ => .own) TL16 := .cons (fun xs ps h => by
  unfold gLateIn at h ⊢
  split at h
  · exact b_lateIn _ _ h
  · cases h) good15
theorem good17 : Good Go.Proofs.Try.prog (fun _ => none) (fun _ => .own) TL17 := .cons (fun xs ps h => by
  unfold gInTime at h ⊢
  split at h
  · exact b_inTime _ _ h
  · cases h) good16
theorem good18 : Good Go.Proofs.Try.prog (fun _ => none) (fun _ => .own) TL18 := .cons (fun xs ps h => by
  unfold gInTime at h ⊢
  split at h
  · exact b_inTime' _ _ h
  · cases h) good17
theorem good19 : Good Go.Proofs.Try.prog (fun _ => none) (fun _ => .own) TL19 := .cons (fun xs ps h => by
  unfold gSz at h ⊢
  split at h
  · exact b_sz h
  · cases h) good18
theorem good20 : Good Go.Proofs.Try.prog (fun _ => none) (fun _ => .own) TL20 := .cons (fun xs ps h => by
  unfold gTo at h ⊢
  split at h
  · exact b_to _ _ _ _ _ _
  · cases h) good19
theorem good21 : Good Go.Proofs.Try.prog (fun _ => none) (fun _ => .own) TL21 := .cons (fun xs ps h => by
  unfold gTos at h ⊢
  split at h
  · exact b_tos h
  · cases h) good20
theorem good22 : Good Go.Proofs.Try.prog (fun _ => none) (fun _ => .own) TL22 := .cons (fun xs ps h => by
  unfold gEq at h ⊢
  split at h
  · exact b_eq _ _ _ _ _ _ _ _ _ _ _ _
  · cases h) good21
theorem good23 : Good Go.Proofs.Try.prog (fun _ => none) (fun _ => .own) TL23 := .cons (fun xs ps h => by
  unfold gEqs at h ⊢
  split at h
  · exact b_eqs (by simp only [Bool.and_eq_true] at h; exact h.1) (by simp only [Bool.and_eq_true] at h; exact h.2)
  · cases h) good22

theorem okRow_of : ∀ {rs : List (List T)}, okKRs [.int .i64, .int .i64, .int .i64, .int .i64, .int .i64, .int .i64] rs = true → rs.all (okRow kAgg) = true
  | [], _ => rfl
  | r :: rs, h => by
    rw [okKRs, Bool.and_eq_true] at h
    rw [List.all_cons, okRow_of h.2, Bool.and_true]
    have key : ∀ (ks : List KT) (r : List T), (∀ k ∈ ks, k = KT.int .i64) → okKR ks r = true → okRow (ks.map fun _ => Kd.int .i64) r = true := by
      intro ks
      induction ks with
      | nil => intro r _ h; cases r with
        | nil => rfl
        | cons t r => cases h
      | cons k ks ih =>
        intro r hk h
        cases r with
        | nil => cases h
        | cons t r =>
          rw [okKR, Bool.and_eq_true] at h
          obtain rfl := hk k List.mem_cons_self
          rw [List.map_cons]
          show (T.okK .own (.int .i64) t && okRow _ r) = true
          rw [ih r (fun k hm => hk k (List.mem_cons_of_mem _ hm)) h.2, Bool.and_true]
          cases t with
          | im v => cases v with
            | int k n =>
              have h1 := h.1
              rw [okKT, Bool.and_eq_true, decide_eq_true_eq] at h1
              obtain ⟨rfl, _⟩ := h1
              rfl
            | _ => have h1 := h.1; unfold okKT at h1; cases h1
          | _ => have h1 := h.1; unfold okKT at h1; cases h1
    exact key _ _ (by simp) h.1

theorem law_FnExactInTime (rs : List (List T)) (h : okKRs [.int .i64, .int .i64, .int .i64, .int .i64, .int .i64, .int .i64] rs = true) (hl : rs.length ≤ reachBytes) (s : Int) (hs : (Lit.int .i64 s).wf = true) (n : Int) (hn : (Lit.int .i64 n).wf = true) :
    Sound Go.Proofs.Try.prog (modesOf ET23 8) 8 [.c (.sl .ro 6 rs), aI s, aI n] [] ⟨[.c (.im (.bool true))], [], []⟩ ∧ ([.c (.sl .ro 6 rs), aI s, aI n] : List A).all A.ro = true :=
  ⟨body_sound rfl mixed (good23.soundG mixed) (b_law s n (okRow_of h) (Nat.le_trans hl (by decide))), rfl⟩
end Go.Vm
