/- Data as trees: loops, and the cells of rows. -/
import Derived.Test.YtlfkhhmpkgehbaaDoorDa1
namespace Go.Vm
set_option linter.unusedVariables false
set_option linter.unusedSimpArgs false

/-- a fold that may end early -/
def foldE {S R α : Type} (f : S → α → R ⊕ S) : S → List α → R ⊕ S
 | s, [] => .inr s
 | s, x :: xs => match f s x with | .inl o => .inl o | .inr s' => foldE f s' xs

theorem lp0_foldI {α S : Type} {F : List T → Option LRes} (rs : List α) (d : Nat → S → List T) (f : S → α → Out ⊕ S) (I : Nat → S → Prop) (x : S → List T)
  (h : ∀ i s (hi : i < rs.length), I i s → (∀ o, f s rs[i] = .inl o → F (d i s) = some (.ret o)) ∧ (∀ s', f s rs[i] = .inr s' → F (d i s) = some (.next (d (i + 1) s')) ∧ I (i + 1) s'))
  (he : ∀ s, I rs.length s → F (d rs.length s) = some (.brk (x s))) :
  ∀ (ys : List α) (i : Nat) (s : S), i + ys.length = rs.length → rs.drop i = ys → I i s →
   (∀ o, foldE f s ys = .inl o → lp0 F (d i s) = some (.ret o)) ∧ (∀ s', foldE f s ys = .inr s' → lp0 F (d i s) = some (.brk (x s')) ∧ I rs.length s') := by
 intro ys
 induction ys with
 | nil =>
  intro i s hl _ hI
  obtain rfl : i = rs.length := by simpa using hl
  refine ⟨fun o ho => by simp [foldE] at ho, fun s' hs => ?_⟩
  simp only [foldE, Sum.inr.injEq] at hs
  subst hs
  rw [lp0_eq, he s hI]; exact ⟨rfl, hI⟩
 | cons y ys ih =>
  intro i s hl hd hI
  simp only [List.length_cons] at hl
  have hi : i < rs.length := by omega
  have hy : rs[i] = y := by
   rw [List.drop_eq_getElem_cons hi] at hd
   injection hd
  have hd' : rs.drop (i + 1) = ys := by
   rw [List.drop_eq_getElem_cons hi] at hd
   injection hd
  obtain ⟨h1, h2⟩ := h i s hi hI
  rw [hy] at h1 h2
  rw [foldE]
  cases hf : f s y with
  | inl o =>
   refine ⟨fun o' ho => ?_, fun s' hs => by cases hs⟩
   simp only [Sum.inl.injEq] at ho
   subst ho
   rw [lp0_eq, h1 o hf]; rfl
  | inr s1 =>
   obtain ⟨h3, h4⟩ := h2 s1 hf
   obtain ⟨h5, h6⟩ := ih (i + 1) s1 (by omega) hd' h4
   refine ⟨fun o ho => ?_, fun s' hs => ?_⟩
   ·rw [lp0_eq, h3]; exact h5 o ho
   ·rw [lp0_eq, h3]; exact h6 s' hs

/-- a loop over rows with a state -/
theorem lp0_fold {α S : Type} {F : List T → Option LRes} {ds0 : List T} (rs : List α) (d : Nat → S → List T) (f : S → α → Out ⊕ S) (I : Nat → S → Prop) (x : S → List T) (s0 : S) (h0 : ds0 = d 0 s0) (hI : I 0 s0)
  (h : ∀ i s (hi : i < rs.length), I i s → (∀ o, f s rs[i] = .inl o → F (d i s) = some (.ret o)) ∧ (∀ s', f s rs[i] = .inr s' → F (d i s) = some (.next (d (i + 1) s')) ∧ I (i + 1) s'))
  (he : ∀ s, I rs.length s → F (d rs.length s) = some (.brk (x s))) :
  (∃ o, foldE f s0 rs = .inl o ∧ lp0 F ds0 = some (.ret o)) ∨ (∃ s, foldE f s0 rs = .inr s ∧ I rs.length s ∧ lp0 F ds0 = some (.brk (x s))) := by
 obtain ⟨h1, h2⟩ := lp0_foldI rs d f I x h he rs 0 s0 (by simp) rfl hI
 rw [h0]
 cases hf : foldE f s0 rs with
 | inl o => exact .inl ⟨o, rfl, h1 o hf⟩
 | inr s => exact .inr ⟨s, rfl, (h2 s hf).2, (h2 s hf).1⟩

/-- a loop that never ends early -/
theorem lp0_foldl {α S : Type} {F : List T → Option LRes} {ds0 : List T} (rs : List α) (d : Nat → S → List T) (f : S → α → S) (I : Nat → S → Prop) (x : S → List T) (s0 : S) (h0 : ds0 = d 0 s0) (hI : I 0 s0)
  (h : ∀ i s (hi : i < rs.length), I i s → F (d i s) = some (.next (d (i + 1) (f s rs[i]))) ∧ I (i + 1) (f s rs[i]))
  (he : ∀ s, I rs.length s → F (d rs.length s) = some (.brk (x s))) : I rs.length (rs.foldl f s0) ∧ lp0 F ds0 = some (.brk (x (rs.foldl f s0))) := by
 have key : ∀ (ys : List α) (s : S), foldE (fun s a => (.inr (f s a) : Out ⊕ S)) s ys = .inr (ys.foldl f s) := by
  intro ys
  induction ys with
  | nil => intro s; rfl
  | cons y ys ih => intro s; exact ih _
 rcases lp0_fold rs d (fun s a => (.inr (f s a) : Out ⊕ S)) I x s0 h0 hI (fun i s hi hs => ⟨fun o ho => by (cases ho), fun s' hs' => (by
   simp only [Sum.inr.injEq] at hs'
   subst hs'
   exact h i s hi hs)⟩) he with ⟨o, h1, _⟩ | ⟨s, h1, h2, h3⟩
 ·rw [key] at h1; cases h1
 ·rw [key] at h1
  simp only [Sum.inr.injEq] at h1
  subst h1
  exact ⟨h2, h3⟩

theorem natI (n : Nat) : Int.ofNat n = (n : Int) := rfl
theorem cell_at' {rs : List (List T)} {i : Nat} (hi : i < rs.length) (j : Nat) : sCell rs (i : Int).toNat j = rs[i].getD j .no := by rw [sCell_eq]; exact cell_get hi j
theorem okc_sh' {row : List KT} {rs : List (List T)} {i : Nat} (h : shRs row rs = true) (hi : i < rs.length) : sOkC (row.map KT.kd) rs (i : Int).toNat 0 = true := okc_sh h hi
theorem slT_sl (sz : Nat) (f : Fl) (rs : List (List T)) : slT sz (.sl f sz rs) = true := by rw [slT_eq]; exact Nat.beq_refl sz
theorem sT_im (s : ByteArray) : sT (.im (.string s)) = s := by rw [sT_eq]; rfl
theorem okT_u8 (f : Fl) (n : Int) : okT f (.int .u8) (.im (.int .u8 n)) = true := by rw [okT_eq]; rfl
theorem okT_str (f : Fl) (s : ByteArray) : okT f .str (.im (.string s)) = true := by rw [okT_eq]; rfl
theorem sEq_rfl (a : Int) : sEq a a = true := by rw [sEq_eq]; simp
theorem le_0' (n : Nat) : sLe 0 (n : Int) = true := by rw [sLe_eq]; exact decide_eq_true (by omega)
theorem nowrap {n : Int} (h1 : -9223372036854775808 ≤ n) (h2 : n ≤ 9223372036854775807) : IntKind.i64.wrap n = n := wrap64 h1 h2

/-- rows that own nothing else: a row of numbers -/
def KT.flat : KT → Bool
 | .sl _ => false
 | _ => true

theorem szR_flat : ∀ {row : List KT} {r : List T} {n : Int}, row.all KT.flat = true → shR row r = true → 0 ≤ n → szR r n = n
 | [], r, n, _, h, hn => by obtain rfl := shR_nil h; unfold szR; rfl
 | k :: ks, r, n, hf, h, hn => by
  obtain ⟨t, ts, rfl, h1, h2⟩ := shR_cons h
  rw [List.all_cons, Bool.and_eq_true] at hf
  have ht : szT t n = n := by
   cases t with
   | sl f sz rs =>
    cases k with
    | sl row => have h3 := hf.1; cases h3
    | _ => unfold shT at h1; cases h1
   | im v => unfold szT; rfl
   | no => unfold szT; rfl
  rw [szR, ht, if_neg (by omega)]
  exact szR_flat hf.2 h2 hn
theorem szRs_flat : ∀ {row : List KT} {rs : List (List T)} {n : Int}, row.all KT.flat = true → shRs row rs = true → 0 ≤ n → szRs rs n = n
 | row, [], n, _, _, _ => by unfold szRs; rfl
 | row, r :: rs, n, hf, h, hn => by
  rw [shRs, Bool.and_eq_true] at h
  rw [szRs, szR_flat hf h.1 hn, if_neg (by omega)]
  exact szRs_flat hf h.2 hn

theorem sz_sub {n : Int} {rs : List (List T)} (h0 : 0 ≤ n) (h1 : n ≤ 1048576) (hl : rs.length ≤ reachBytes) : sSub .i64 n (Int.ofNat (sLen rs)) = n - rs.length := by
 have hr : reachBytes = 140737488351232 := rfl
 rw [sSub_eq, sLen_eq, natI, wrap64 (by omega) (by omega)]

theorem sz_flat {row : List KT} {rs : List (List T)} {n : Int} (hf : row.all KT.flat = true) (h : pSz row rs n = true) :
  (bif sLt (sSub .i64 n (Int.ofNat (sLen rs))) 0 then some (LRes.ret { rets := [aI (Int.negSucc 0)], outs := [], pos := [] }) else some (.ret { rets := [aI (sSub .i64 n (Int.ofNat (sLen rs)))], outs := [], pos := [] })) = some (.ret (oI (sSz rs n))) := by
 rw [pSz_eq] at h
 simp only [Bool.and_eq_true, decide_eq_true_eq] at h
 obtain ⟨⟨⟨⟨h1, h2⟩, h3⟩, h4⟩, h5⟩ := h
 rw [sz_sub h4 h5 h3, sSz_eq, szT, sLt_eq]
 by_cases hn : n < rs.length
 ·rw [if_pos hn, decide_eq_true (by omega : n - (rs.length : Int) < 0)]; rfl
 ·rw [if_neg hn, decide_eq_false (by omega : ¬ n - (rs.length : Int) < 0), szRs_flat hf h1 (by omega)]; rfl

/-- sizes, folded -/
theorem szRs_fold : ∀ (rs : List (List T)) (n : Int), foldE (fun n r => if szR r n < 0 then .inl (-1 : Int) else .inr (szR r n)) n rs = .inl (-1 : Int) ∧ szRs rs n = -1 ∨ foldE (fun n r => if szR r n < 0 then .inl (-1 : Int) else .inr (szR r n)) n rs = .inr (szRs rs n)
 | [], n => .inr (by rw [foldE]; unfold szRs; rfl)
 | r :: rs, n => by
  rw [foldE, szRs]
  by_cases h : szR r n < 0
  ·rw [if_pos h, if_pos h]; exact .inl ⟨rfl, rfl⟩
  ·rw [if_neg h, if_neg h]; exact szRs_fold rs (szR r n)

theorem szRs_out : ∀ (rs : List (List T)) (n : Int), foldE (fun n r => if szR r n < 0 then .inl (oI (-1)) else .inr (szR r n)) n rs = .inl (oI (-1)) ∧ szRs rs n = -1 ∨ foldE (fun n r => if szR r n < 0 then .inl (oI (-1)) else .inr (szR r n)) n rs = .inr (szRs rs n)
 | [], n => .inr (by rw [foldE]; unfold szRs; rfl)
 | r :: rs, n => by
  rw [foldE, szRs]
  by_cases h : szR r n < 0
  ·rw [if_pos h, if_pos h]; exact .inl ⟨rfl, rfl⟩
  ·rw [if_neg h, if_neg h]; exact szRs_out rs (szR r n)

theorem noRo_sOwn (sz : Nat) (rs : List (List T)) : sNoRo (.sl .own sz (sOwn rs)) = true := by
 rw [sNoRo_eq, sOwn_eq, T.noRo]; exact noRoRs_own rs

/-- rows filled from a list of rows, one by one -/
theorem setRow_own {rs out : List (List T)} {z : List T} {i : Nat} (hi : i < rs.length) (hz : z.length = rs[i].length) :
  sSetRow ((ownRs rs).take i ++ List.replicate (rs.length - i) z) (i : Int).toNat 0 (ownR rs[i]) = (ownRs rs).take (i + 1) ++ List.replicate (rs.length - (i + 1)) z := by
 have hi' : i < (ownRs rs).length := by rw [ownRs_length]; exact hi
 have := setRow_fill (rs := ownRs rs) (z := z) hi' (by rw [ownRs_get rs hi, ownR_map, List.length_map]; exact hz)
 rw [ownRs_get rs hi, ownRs_length] at this
 rw [sSetRow_eq]; exact this

theorem okO_len {sz : Nat} (rs : List (List T)) : sLt (Int.ofNat (sLen rs)) 4294967296 = decide (rs.length < 4294967296) := by
 rw [sLt_eq, sLen_eq, natI]
 by_cases h : rs.length < 4294967296
 ·rw [decide_eq_true h]; exact decide_eq_true (by omega)
 ·rw [decide_eq_false h]; exact decide_eq_false (by omega)

theorem shT_ro {k : KT} {f f' : Fl} {sz : Nat} {rs : List (List T)} : shT k (.sl f sz rs) = shT k (.sl f' sz rs) := by
 cases k <;> unfold shT <;> rfl

/-! ### sameness -/
open Classical in
theorem eqS_all {rs ss : List (List T)} (h : rs.length = ss.length) : ((rs.zip ss).all fun p => sEqR p.1 p.2) = decide (ownRs rs = ownRs ss) := by
 rw [Bool.eq_iff_iff, List.all_eq_true, decide_eq_true_eq]
 constructor
 ·intro ha
  refine List.ext_getElem (by rw [ownRs_length, ownRs_length]; exact h) fun i h1 h2 => ?_
  rw [ownRs_length] at h1 h2
  rw [ownRs_get rs h1, ownRs_get ss h2]
  have hm : (rs[i], ss[i]) ∈ rs.zip ss := List.mem_iff_getElem?.2 ⟨i, by rw [List.getElem?_zip_eq_some]; exact ⟨List.getElem?_eq_getElem h1, List.getElem?_eq_getElem h2⟩⟩
  have := ha _ hm
  rw [sEqR_eq, decide_eq_true_eq] at this
  exact this
 ·intro he p hp
  obtain ⟨i, hi⟩ := List.mem_iff_getElem?.1 hp
  rw [List.getElem?_zip_eq_some] at hi
  obtain ⟨h1, e1⟩ := List.getElem?_eq_some_iff.1 hi.1
  obtain ⟨h2, e2⟩ := List.getElem?_eq_some_iff.1 hi.2
  rw [sEqR_eq, decide_eq_true_eq, ← e1, ← e2, ← ownRs_get rs h1, ← ownRs_get ss h2]
  simp only [he]
theorem sEqS_len {rs ss : List (List T)} (h : rs.length ≠ ss.length) : sEqS rs ss = false := by
 rw [sEqS_eq, decide_eq_false_iff_not]
 exact fun e => h (by rw [← ownRs_length rs, ← ownRs_length ss, e])
theorem sEq_len {rs ss : List (List T)} : sEq (Int.ofNat (sLen rs)) (Int.ofNat (sLen ss)) = decide (rs.length = ss.length) := by
 rw [sEq_eq, sLen_eq, sLen_eq]
 by_cases h : rs.length = ss.length
 ·rw [h]; simp
 ·rw [decide_eq_false h]; exact decide_eq_false fun e => h (Int.ofNat.inj e)
theorem sEqR_int (k : IntKind) (a b : Int) : sEqR [.im (.int k a)] [.im (.int k b)] = sEq a b := by
 rw [Bool.eq_iff_iff, sEqR_iff, sEq_eq, decide_eq_true_eq]; simp [ownR, ownT]
theorem sEqR_sl (f f' : Fl) (sz : Nat) (a b : List (List T)) : sEqR [.sl f sz a] [.sl f' sz b] = sEqS a b := by
 rw [Bool.eq_iff_iff, sEqR_iff, sEqS_iff]; simp [ownR, ownT]
theorem sEqR_ro {a a' b b' : List T} (h : ownR a = ownR a') (h' : ownR b = ownR b') : sEqR a b = sEqR a' b' := by rw [sEqR_eq, sEqR_eq, h, h']
theorem add1i {i : Nat} (h : i < reachBytes) : sAdd .i64 (i : Int) 1 = ((i + 1 : Nat) : Int) := add1 (Nat.lt_of_lt_of_le h (by decide))

theorem noRo_ownS (sz : Nat) (rs : List (List T)) : sNoRo (.sl .own sz (ownRs rs)) = true := by
 rw [sNoRo_eq, T.noRo]; exact noRoRs_own rs

/-! ### chains -/
theorem eqChain (c d : Bool) : (bif !c then some (LRes.ret (oB false)) else some (.ret (oB d))) = some (.ret (oB (c && d))) := by cases c <;> rfl
theorem sEqR_nil : sEqR [] [] = true := sEqR_iff.2 rfl
theorem sEqR_ti (a b : Int) (as bs : List T) : sEqR (tI a :: as) (tI b :: bs) = (sEq a b && sEqR as bs) := by
 rw [Bool.eq_iff_iff, Bool.and_eq_true, sEqR_iff, sEqR_iff, sEq_eq, decide_eq_true_eq]; simp [ownR, ownT]
theorem sEqR_tb (a b : Bool) (as bs : List T) : sEqR (tB a :: as) (tB b :: bs) = (sBeq a b && sEqR as bs) := by
 rw [Bool.eq_iff_iff, Bool.and_eq_true, sEqR_iff, sEqR_iff, sBeq_eq]; simp [ownR, ownT]
theorem sEqR_ts (f f' : Fl) (sz : Nat) (a b : List (List T)) (as bs : List T) : sEqR (.sl f sz a :: as) (.sl f' sz b :: bs) = (sEqS a b && sEqR as bs) := by
 rw [Bool.eq_iff_iff, Bool.and_eq_true, sEqR_iff, sEqR_iff, sEqS_iff]; simp [ownR, ownT]
theorem le_len (rs : List (List T)) : sLe 0 (Int.ofNat (sLen rs)) = true := by rw [natI]; exact le_0' _
theorem szS_le {rs : List (List T)} {n : Int} (h : 0 ≤ n) : -1 ≤ sSz rs n ∧ sSz rs n ≤ n := by
 rw [sSz_eq]; exact ⟨(szT_le _ n h).1, (szT_le _ n h).2.1⟩
theorem szR_im {v : Value} {ts : List T} {n : Int} (h : 0 ≤ n) : szR (.im v :: ts) n = szR ts n := by
 rw [szR, show szT (.im v) n = n by unfold szT; rfl, if_neg (by omega)]
theorem szT_fl (f f' : Fl) (sz sz' : Nat) (rs : List (List T)) (n : Int) : szT (.sl f sz rs) n = szT (.sl f' sz' rs) n := by rw [szT, szT]
theorem sz_step {row : List KT} {rs : List (List T)} {n : Int} {K : Option LRes} {f : Fl} {sz : Nat} {ts : List T} (hs : shRs row rs = true) (hl : rs.length ≤ reachBytes ∧ lenRs reachBytes rs = true) (h0 : 0 ≤ n) (h1 : n ≤ 1048576)
  (hk : 0 ≤ sSz rs n → sSz rs n ≤ 1048576 → K = some (.ret (oI (szR ts (sSz rs n))))) :
  (bif pSz row rs n then bif sLt (sSz rs n) 0 then some (.ret { rets := [aI (Int.negSucc 0)], outs := [], pos := [] }) else K else none) = some (.ret (oI (szR (.sl f sz rs :: ts) n))) := by
 have hp : pSz row rs n = true := by rw [pSz_eq, hs, hl.2, decide_eq_true hl.1, decide_eq_true h0, decide_eq_true h1]; rfl
 have e : szT (.sl f sz rs) n = sSz rs n := by rw [sSz_eq]; exact szT_fl _ _ _ _ _ _
 rw [hp, cond_true, sLt_eq, szR, e]
 by_cases h : sSz rs n < 0
 ·rw [decide_eq_true h, if_pos h]; rfl
 ·rw [decide_eq_false h, if_neg h]
  have := szS_le (rs := rs) h0
  exact hk (by omega) (by omega)
theorem szR_le' {ts : List T} {n : Int} (h : 0 ≤ n) : -1 ≤ szR ts n ∧ szR ts n ≤ n := ⟨(szR_le ts n h).1, (szR_le ts n h).2.1⟩

theorem szR_fl (f f' : Fl) (sz sz' : Nat) (a : List (List T)) (ts : List T) (n : Int) : szR (.sl f sz a :: ts) n = szR (.sl f' sz' a :: ts) n := by
 rw [szR, szR, szT_fl f f' sz sz']
theorem szR_nil {n : Int} : szR [] n = n := by unfold szR; rfl
theorem szR_one {f : Fl} {sz : Nat} {a : List (List T)} {n : Int} (h : 0 ≤ n) : szR [.sl f sz a] n = sSz a n := by
 have e : szT (.sl f sz a) n = sSz a n := by rw [sSz_eq]; exact szT_fl _ _ _ _ _ _
 have := szS_le (rs := a) h
 rw [szR, e]
 split
 ·omega
 ·exact szR_nil
theorem szR_slim {f : Fl} {sz : Nat} {a : List (List T)} {vs : List Value} {n : Int} (h : 0 ≤ n) : szR (.sl f sz a :: vs.map .im) n = sSz a n := by
 have e : szT (.sl f sz a) n = sSz a n := by rw [sSz_eq]; exact szT_fl _ _ _ _ _ _
 have := szS_le (rs := a) h
 have key : ∀ (vs : List Value) (n : Int), 0 ≤ n → szR (vs.map .im) n = n := by
  intro vs
  induction vs with
  | nil => intro n _; exact szR_nil
  | cons v vs ih => intro n hn; rw [List.map_cons, szR_im hn]; exact ih n hn
 rw [szR, e]
 split
 ·omega
 ·exact key vs _ (by omega)

/-- a loop over rows that sums up their sizes -/
theorem sz_loop {row : List KT} {rs : List (List T)} {n : Int} {F : List T → Option LRes} (h : pSz row rs n = true)
  (hF : ∀ (i : Nat) (m : Int) (hi : i < rs.length), 0 ≤ m → m ≤ 1048576 → F [tI m, tI 0, tI i] = some (if szR rs[i] m < 0 then .ret (oI (-1)) else .next [tI (szR rs[i] m), tI 0, tI ((i + 1 : Nat) : Int)]))
  (hE : ∀ m : Int, F [tI m, tI 0, tI rs.length] = some (.brk [tI m, tI 0, tI rs.length])) :
  (bif sLt (sSub .i64 n (Int.ofNat (sLen rs))) 0 then some (LRes.ret { rets := [aI (Int.negSucc 0)], outs := [], pos := [] }) else Option.elim (lp0 F [tI (sSub .i64 n (Int.ofNat (sLen rs))), tI 0, tI 0]) none fun val => val.elim' (fun ds => none) (fun ds => bif okT .own (.int .i64) (tAt ds 0) && (okT .own (.int .i64) (tAt ds 1) && (okT .own (.int .i64) (tAt ds 2) && true)) then some (.ret { rets := [aI (iT (tAt ds 0))], outs := [], pos := [] }) else none) fun o => some (.ret o)) = some (.ret (oI (sSz rs n))) := by
 rw [pSz_eq] at h
 simp only [Bool.and_eq_true, decide_eq_true_eq] at h
 obtain ⟨⟨⟨⟨h1, h2⟩, h3⟩, h4⟩, h5⟩ := h
 rw [sz_sub h4 h5 h3, sSz_eq, szT, sLt_eq]
 by_cases hn : n < rs.length
 ·rw [if_pos hn, decide_eq_true (by omega : n - (rs.length : Int) < 0)]; rfl
 ·rw [if_neg hn, decide_eq_false (by omega : ¬ n - (rs.length : Int) < 0), cond_false]
  have := lp0_fold (F := F) rs (fun i m => [tI m, tI 0, tI i]) (fun n r => if szR r n < 0 then .inl (oI (-1)) else .inr (szR r n)) (fun _ m => 0 ≤ m ∧ m ≤ 1048576) (fun m => [tI m, tI 0, tI rs.length]) (n - rs.length) (ds0 := [tI (n - rs.length), tI 0, tI 0]) rfl ⟨by omega, by omega⟩
   (fun i m hi hm => by
    rw [hF i m hi hm.1 hm.2]
    refine ⟨fun o ho => ?_, fun s' hs => ?_⟩
    ·by_cases hc : szR rs[i] m < 0
     ·rw [if_pos hc] at ho ⊢; injection ho with ho; subst ho; rfl
     ·rw [if_neg hc] at ho; cases ho
    ·by_cases hc : szR rs[i] m < 0
     ·rw [if_pos hc] at hs; cases hs
     ·rw [if_neg hc] at hs ⊢; injection hs with hs; subst hs
      have := szR_le' (ts := rs[i]) hm.1
      exact ⟨rfl, by omega, by omega⟩) (fun m _ => hE m)
  rcases this with ⟨o, ho, hlp⟩ | ⟨s, hs, _, hlp⟩
  ·rcases szRs_out rs (n - rs.length) with ⟨e1, e2⟩ | e
   ·rw [e1] at ho; injection ho with ho; subst ho
    rw [hlp, e2]; rfl
   ·rw [e] at ho; cases ho
  ·rcases szRs_out rs (n - rs.length) with ⟨e1, e2⟩ | e
   ·rw [e1] at hs; cases hs
   ·rw [e] at hs; injection hs with hs; subst hs
    rw [hlp]
    simp only [Option.elim_some, LRes.elim', tAt0, tAt1, tAt2, okT_i, iT_im, Bool.and_true, cond_true]

/-- a loop that copies rows -/
theorem to_loop {row : List KT} {rs : List (List T)} {sz : Nat} {z : List T} {F : List T → Option LRes} (h : pTo row rs = true) (hz : z.length = row.length)
  (hF : ∀ (i : Nat) (out : List (List T)) (hi : i < rs.length), out.length = rs.length → F [.sl .own sz out, tI i] = some (.next [.sl .own sz (sSetRow out (i : Int).toNat 0 (ownR rs[i])), tI ((i + 1 : Nat) : Int)]))
  (hE : ∀ out, F [.sl .own sz out, tI rs.length] = some (.brk [.sl .own sz out, tI rs.length])) :
  (bif sEq (Int.ofNat (sLen rs)) (Int.ofNat (sLen rs)) && sLe 0 (Int.ofNat (sLen rs)) && sLt (Int.ofNat (sLen rs)) 4294967296 && true && true && true && true && true then Option.elim (lp0 F [.sl .own sz (sRep (sLen rs) z), tI 0]) none fun val => val.elim' (fun ds => none) (fun ds => bif okT .own (.sl sz) (tAt ds 0) && (okT .own (.int .i64) (tAt ds 1) && true) then some (.ret { rets := [.c (.sl .own sz (rT (tAt ds 0)))], outs := [], pos := [] }) else none) fun o => some (.ret o) else none) = some (LRes.ret ⟨[.c (.sl .own sz (sOwn rs))], [], []⟩) := by
 rw [pTo_eq] at h
 simp only [Bool.and_eq_true, decide_eq_true_eq] at h
 obtain ⟨⟨hs, hl⟩, hn⟩ := h
 simp only [sEq_rfl, le_len, okO_len (sz := sz), decide_eq_true (show rs.length < 4294967296 by omega), Bool.and_true, Bool.true_and, cond_true]
 let m : Nat → List (List T) := fun i => (ownRs rs).take i ++ List.replicate (rs.length - i) z
 have en : m rs.length = sOwn rs := by rw [sOwn_eq]; simp [m, ← ownRs_length rs]
 have key : lp0 F [.sl .own sz (sRep (sLen rs) z), tI 0] = some (.brk [.sl .own sz (sOwn rs), tI rs.length]) := by
  refine lp0_for0 (fun i => [.sl .own sz (m i), tI i]) rs.length (by rw [sRep_eq, sLen_eq]; simp [m]) (fun i hi => ?_) ?_
  ·rw [hF i (m i) hi (by simp only [m, List.length_append, List.length_take, List.length_replicate, ownRs_length]; omega)]
   have hr := shRs_get hs hi
   have hlen : rs[i].length = row.length := by
    have : ∀ (ks : List KT) (r : List T), shR ks r = true → r.length = ks.length := by
     intro ks
     induction ks with
     | nil => intro r h; rw [shR_nil h]; rfl
     | cons k ks ih => intro r h; obtain ⟨t, ts, rfl, _, h2⟩ := shR_cons h; simp [ih ts h2]
    exact this _ _ hr
   rw [setRow_own (out := []) hi (by rw [hlen]; exact hz)]
  ·show F [.sl .own sz (m rs.length), tI rs.length] = _
   rw [en]; exact hE _
 rw [key]
 simp only [Option.elim_some, LRes.elim', tAt0, tAt1, okT_i, okT_s, rT_sl, Bool.and_true, cond_true]

/-- a loop that compares rows -/
theorem eq_loop {rs ss : List (List T)} {F : List T → Option LRes}
  (hF : ∀ (i : Nat) (hi : i < rs.length) (hi' : i < ss.length), F [tB false, tI i] = some (bif sEqR rs[i] ss[i] then .next [tB false, tI ((i + 1 : Nat) : Int)] else .ret (oB false)))
  (hE : F [tB false, tI rs.length] = some (.brk [tB false, tI rs.length])) :
  (bif !sEq (Int.ofNat (sLen rs)) (Int.ofNat (sLen ss)) then some (LRes.ret (oB false)) else Option.elim (lp0 F [tB false, tI 0]) none fun val => val.elim' (fun ds => none) (fun ds => bif okT .own .bool (tAt ds 0) && (okT .own (.int .i64) (tAt ds 1) && true) then some (.ret (oB true)) else none) fun o => some (.ret o)) = some (.ret (oB (sEqS rs ss))) := by
 rw [sEq_len]
 by_cases hl : rs.length = ss.length
 ·rw [decide_eq_true hl]
  have hz : (rs.zip ss).length = rs.length := by rw [List.length_zip]; omega
  have := lp0_find0 (F := F) (fun i => [tB false, tI i]) (rs.zip ss).length (fun i => bif sEqR (rs.getD i []) (ss.getD i []) then none else some (oB false)) (x := [tB false, tI rs.length]) (ds0 := [tB false, tI 0]) rfl (fun i hi0 => by
   have hi : i < rs.length := by omega
   have hi' : i < ss.length := by omega
   rw [hF i hi hi', show rs.getD i [] = rs[i] by simp [List.getD, hi], show ss.getD i [] = ss[i] by simp [List.getD, hi']]
   cases sEqR rs[i] ss[i] <;> rfl) (by rw [hz]; exact hE)
  rw [this, range_all (rs.zip ss) (fun p => sEqR p.1 p.2) (oB false) _ fun i hi => by
    have h3 : i < rs.length := by omega
    have h4 : i < ss.length := by omega
    simp [List.getD, h3, h4], eqS_all hl, ← sEqS_eq]
  cases sEqS rs ss with
  | false => rfl
  | true => simp only [cond_true, Option.elim_some, LRes.elim', tAt0, tAt1, okT_i, okT_b, Bool.and_true, Bool.not_true, cond_false]
 ·rw [decide_eq_false hl, sEqS_len hl]; rfl

end Go.Vm
