/- A small machine of values over the code, and that it is sound: part 2. No condition. -/
import Derived.Test.YtlfkhhmpkgehbaaDoorM1
namespace Go.Vm
set_option linter.unusedVariables false
set_option linter.unusedSimpArgs false
variable {P : Program} {X X' : Cx} {FZ FZ' : Nat → Prop} {β β' : Nat → Value} {s s' sf sB : Objs} {w w' : World} {v : V} {fp fp' : List (Bool × Nat)} {pend L : List (T × Value)} {nm : List (Nat × Nat)}
 {ms : List Mode} {vs : List V} {as : List A} {iw : List IoW}
theorem retgo_mem {f : Fl} {key k : Nat} : ∀ {ks : List Kd} {m : Nat}, ∀ x ∈ retW.go f key k ks m, x.1 = true
 | [], m, x, hx => by simp [retW.go] at hx
 | kd :: ks, m, x, hx => by
  cases kd with
  | sl sz =>
   rw [retW.go] at hx
   rcases List.mem_append.1 hx with hx | hx
   ·exact retgo_mem x hx
   ·obtain rfl := List.mem_singleton.1 hx; rfl
  | int => exact retgo_mem (ks := ks) (m := m + 1) x hx
  | bool => exact retgo_mem (ks := ks) (m := m + 1) x hx
  | str => exact retgo_mem (ks := ks) (m := m + 1) x hx
  | oth => exact retgo_mem (ks := ks) (m := m + 1) x hx
theorem retW_mem {f : Fl} {key : Nat} : ∀ {tys : List Ty} {k : Nat}, ∀ x ∈ retW f key tys k, x.1 = true
 | [], k, x, hx => by simp [retW] at hx
 | t :: ts, k, x, hx => by
  cases t with
  | cell kd =>
   cases kd with
   | sl sz =>
    rw [retW] at hx
    rcases List.mem_append.1 hx with hx | hx
    ·exact retW_mem x hx
    ·obtain rfl := List.mem_singleton.1 hx; rfl
   | int => exact retW_mem (tys := ts) (k := k + 1) x hx
   | bool => exact retW_mem (tys := ts) (k := k + 1) x hx
   | str => exact retW_mem (tys := ts) (k := k + 1) x hx
   | oth => exact retW_mem (tys := ts) (k := k + 1) x hx
  | ag ks =>
   rw [retW] at hx
   rcases List.mem_append.1 hx with hx | hx
   ·exact retW_mem x hx
   ·exact retgo_mem x hx
  | tu => exact retW_mem (tys := ts) (k := k + 1) x hx
theorem noRoIo_at {o : Out} : ∀ {iw : List IoW} {q : Nat}, noRoIo q iw o = true → ∀ k, k < iw.length → (o.outs.getD (q + k) .no).noRo = true
 | [], q, _, k, hk => by simp at hk
 | e :: r, q, h, k, hk => by
  rw [noRoIo, sNoRo_eq, Bool.and_eq_true] at h
  cases k with
  | zero => exact h.1
  | succ k =>
   rw [show q + (k + 1) = q + 1 + k by omega]
   exact noRoIo_at h.2 k (by simpa using hk)
theorem okNoRo {f : Fl} {k : Kd} {t : T} (h : T.okK f k t = true) (hn : noRoK k t = true) : t.noRo = true := by
 cases k with
 | sl sz => simpa [noRoK, sNoRo_eq, Kd.isSl] using hn
 | int => obtain ⟨v, rfl, _⟩ := okK_im (by simp) h; rfl
 | bool => obtain ⟨v, rfl, _⟩ := okK_im (by simp) h; rfl
 | str => obtain ⟨v, rfl, _⟩ := okK_im (by simp) h; rfl
 | oth => obtain ⟨v, rfl, _⟩ := okK_im (by simp) h; rfl
theorem noRoL_at {f : Fl} {R : Nat → T} : ∀ {ks : List Kd} {m : Nat}, okL f ks R m = true → noRoL ks R m = true → ∀ i, i < ks.length → (R (m + i)).noRo = true
 | [], m, _, _, i, hi => by simp at hi
 | k :: ks, m, h1, h2, i, hi => by
  rw [okL, Bool.and_eq_true] at h1
  rw [noRoL, Bool.and_eq_true] at h2
  cases i with
  | zero => exact okNoRo h1.1 h2.1
  | succ i =>
   rw [show m + (i + 1) = m + 1 + i by omega]
   exact noRoL_at h1.2 h2.2 i (by simpa using hi)
theorem noRoLF_at {R : Nat → T} : ∀ {ks : List Kd} {fs : List Fl} {m : Nat}, fs.length = ks.length → okLF ks fs R m = true → noRoL ks R m = true → ∀ i, i < ks.length → (R (m + i)).noRo = true
 | [], fs, m, _, _, _, i, hi => by simp at hi
 | k :: ks, [], m, hl, h1, h2, i, hi => by simp at hl
 | k :: ks, f :: fs, m, hl, h1, h2, i, hi => by
  rw [okLF, Bool.and_eq_true] at h1
  rw [noRoL, Bool.and_eq_true] at h2
  cases i with
  | zero => exact okNoRo h1.1 h2.1
  | succ i =>
   rw [show m + (i + 1) = m + 1 + i by omega]
   exact noRoLF_at (by simpa using hl) h1.2 h2.2 i (by simpa using hi)
theorem BoxL.noRo {out : Out} {p : Nat} {ps os : List PO} {lb : List (T × Value)} (hb : BoxL w β sB p ps os lb) : ∀ {l : List (Nat × Bool × Option O)} {tss : List (List T)}, PR sf l tss ps →
  (∀ k q, os[k]? = some q → out.pos.getD (p + k) (.rows .own 0 []) = q ∧ out.pos.getD (p + k) (.box false []) = q) →
  boxOk (bwOf p l ps) out = true → noRoBox (bwOf p l ps) out = true → ∀ x ∈ lb, x.1.noRo = true := by
 induction hb with
 | nil => intro l tss _ _ _ _ x hx; cases hx
 | @ro p ts q ps os l0 h ih =>
  intro l tss hR hos hok hn
  cases hR with
  | box _ _ _ hR =>
   exact ih hR (fun k q hk => by rw [show p + 1 + k = p + (k + 1) by omega]; exact hos (k + 1) q (by simpa using hk)) hok hn
 | @rows p f sz rs q ps os l0 h ih =>
  intro l tss hR hos hok hn
  cases hR with
  | rows _ hR =>
   exact ih hR (fun k q hk => by rw [show p + 1 + k = p + (k + 1) by omega]; exact hos (k + 1) q (by simpa using hk)) hok hn
 | @box p ts0 ts ps os l0 b c hB hr hcl hlen h ih =>
  intro l tss hR hos hok hn
  cases hR with
  | @w id o _ l tss _ hR =>
   rw [bwOf, boxOk, Bool.and_eq_true, Bool.and_eq_true] at hok
   rw [bwOf, noRoBox, Bool.and_eq_true] at hn
   intro x hx
   rcases List.mem_append.1 hx with hx | hx
   ·have hq := (hos 0 _ rfl).2
    rw [Nat.add_zero] at hq
    have h1 := hok.1.2
    have h2 := hn.1
    rw [hq] at h1 h2
    obtain ⟨k, hk⟩ := List.mem_iff_getElem?.1 hx
    rw [List.getElem?_zip_eq_some] at hk
    have hkl := (List.getElem?_eq_some_iff.1 hk.1).1
    have := noRoLF_at (R := fun m => ts.getD m .no) (ks := ts0.map kdOf) (fs := ts0.map flOf) (m := 0) (by simp) h1 h2 k (by simpa using by omega)
    simpa [List.getD, hk.1] using this
   ·exact ih hR (fun k q hk => by rw [show p + 1 + k = p + (k + 1) by omega]; exact hos (k + 1) q (by simpa using hk)) hok.2 hn.2 x hx
theorem ArgsL.noRo {f : Fl} {R : Nat → A} {rets : List A} {rvs : List Value} {lr : List (T × Value)} (h : ArgsL rets rvs lr) : ∀ {tys : List Ty} {k : Nat}, rets.length = tys.length → (∀ i a, rets[i]? = some a → R (k + i) = a) →
  okRets f tys R k = true → noRoRets tys R k = true → ∀ x ∈ lr, x.1.noRo = true := by
 have nx : ∀ {a : A} {as : List A} {k : Nat}, (∀ i b, (a :: as)[i]? = some b → R (k + i) = b) → ∀ i b, as[i]? = some b → R (k + 1 + i) = b :=
  fun h i b hb => by rw [show ∀ k, k + 1 + i = k + (i + 1) from fun k => by omega]; exact h (i + 1) b (by simpa using hb)
 have tl : ∀ {t : Ty} {ts : List Ty} {k : Nat}, okRets f (t :: ts) R k = true → noRoRets (t :: ts) R k = true → okRets f ts R (k + 1) = true ∧ noRoRets ts R (k + 1) = true := by
  intro t ts k h1 h2
  rw [okRets, Bool.and_eq_true] at h1
  cases t with
  | cell kd => rw [noRoRets, Bool.and_eq_true] at h2; exact ⟨h1.2, h2.2⟩
  | ag ks => rw [noRoRets, Bool.and_eq_true] at h2; exact ⟨h1.2, h2.2⟩
  | tu => cases h2
 induction h with
 | nil => intro tys k _ _ _ _ x hx; cases hx
 | @c t x as xs l h ih =>
  intro tys k hl hR h1 h2
  cases tys with
  | nil => cases hl
  | cons ty tys =>
   obtain ⟨q1, q2⟩ := tl h1 h2
   have h0 := hR 0 _ rfl
   rw [Nat.add_zero] at h0
   intro y hy
   rcases List.mem_cons.1 hy with rfl | hy
   ·rw [okRets, Bool.and_eq_true] at h1
    cases ty with
    | cell kd =>
     rw [noRoRets, Bool.and_eq_true] at h2
     have a1 := h1.1
     have a2 := h2.1
     rw [h0] at a1 a2
     cases kd <;> first | (cases a1; done) | (simp only [okA, A.t, Bool.and_eq_true] at a1; exact okNoRo a1.2 a2)
    | ag ks =>
     have a1 := h1.1
     rw [h0] at a1
     simp [okA] at a1
    | tu => cases h2
   ·exact ih (by simpa using hl) (nx hR) q1 q2 y hy
 | @ag ts as xs l cs hcl h ih =>
  intro tys k hl hR h1 h2
  cases tys with
  | nil => cases hl
  | cons ty tys =>
   obtain ⟨q1, q2⟩ := tl h1 h2
   have h0 := hR 0 _ rfl
   rw [Nat.add_zero] at h0
   intro y hy
   rcases List.mem_append.1 hy with hy | hy
   ·rw [okRets, Bool.and_eq_true] at h1
    cases ty with
    | cell kd =>
     have a1 := h1.1
     rw [h0] at a1
     cases kd <;> simp [okA] at a1
    | ag ks =>
     rw [noRoRets, Bool.and_eq_true] at h2
     have a1 := h1.1
     have a2 := h2.1
     rw [h0] at a1 a2
     simp only [okA, A.ts, Bool.and_eq_true] at a1 a2
     have hlen := beq_eq a1.1
     obtain ⟨i, hi⟩ := List.mem_iff_getElem?.1 hy
     rw [List.getElem?_zip_eq_some] at hi
     have hil := (List.getElem?_eq_some_iff.1 hi.1).1
     have := noRoL_at a1.2 a2 i (by omega)
     simpa [List.getD, hi.1] using this
    | tu => cases h2
   ·exact ih (by simpa using hl) (nx hR) q1 q2 y hy
 | @pt id sz i j x as xs l h ih =>
  intro tys k hl hR h1 h2
  cases tys with
  | nil => cases hl
  | cons ty tys => obtain ⟨q1, q2⟩ := tl h1 h2; exact ih (by simpa using hl) (nx hR) q1 q2
 | @fn f caps x as xs l h ih =>
  intro tys k hl hR h1 h2
  cases tys with
  | nil => cases hl
  | cons ty tys => obtain ⟨q1, q2⟩ := tl h1 h2; exact ih (by simpa using hl) (nx hR) q1 q2
 | @no x as xs l h ih =>
  intro tys k hl hR h1 h2
  cases tys with
  | nil => cases hl
  | cons ty tys => obtain ⟨q1, q2⟩ := tl h1 h2; exact ih (by simpa using hl) (nx hR) q1 q2
theorem ArgsL.length {rets : List A} {rvs : List Value} {lr : List (T × Value)} (h : ArgsL rets rvs lr) : rvs.length = rets.length := by
 induction h with
 | nil => rfl
 | c _ ih => simp [ih]
 | ag _ _ ih => simp [ih]
 | pt _ ih => simp [ih]
 | fn _ ih => simp [ih]
 | no _ ih => simp [ih]
end Go.Vm
namespace Go.Vm
set_option linter.unusedVariables false
set_option linter.unusedSimpArgs false
variable {P : Program} {X X' : Cx} {FZ FZ' : Nat → Prop} {β β' : Nat → Value} {s s' sf sB : Objs} {w w' : World} {v : V} {fp fp' : List (Bool × Nat)} {pend L : List (T × Value)} {nm : List (Nat × Nat)}
 {ms : List Mode} {vs : List V} {as : List A} {iw : List IoW}
theorem zip_noRo {ts : List T} {xs : List Value} (h : ∀ (k : Nat), k < ts.length → (ts.getD k .no).noRo = true) : ∀ x ∈ ts.zip xs, x.1.noRo = true := by
 intro x hx
 obtain ⟨k, hk⟩ := List.mem_iff_getElem?.1 hx
 rw [List.getElem?_zip_eq_some] at hk
 have := h k (List.getElem?_eq_some_iff.1 hk.1).1
 simpa [List.getD, hk.1] using this
theorem ioApart_spec {l : List IoW} (h : ioApart l = true) : ∀ id sz x szx i j sz', .top id sz ∈ l → .nest x szx i j sz' ∈ l → id ≠ x := by
 intro id sz x szx i j sz' h1 h2 e
 subst e
 have := List.all_eq_true.1 h _ h2
 simp only [Bool.not_eq_true', List.any_eq_false] at this
 have := this _ h1
 simp [isTop] at this
theorem PR.live {l : List (Nat × Bool × Option O)} {tss : List (List T)} {pos : List PO} (h : PR sf l tss pos) (hl : ∀ id o, (sf id).o = some o → 1 ≤ (sf id).ver) :
  (∀ x ∈ l, x.2.1 = false → 1 ≤ (sf x.1).ver) → ∀ x ∈ l, 1 ≤ (sf x.1).ver := by
 induction h with
 | nil => intro _ x hx; cases hx
 | box ho hn hb _ ih =>
  intro hb x hx
  rcases List.mem_cons.1 hx with rfl | hx
  ·exact hl _ _ ho
  ·exact ih (fun y hy => hb y (List.mem_cons_of_mem _ hy)) x hx
 | rows ho _ ih =>
  intro hb x hx
  rcases List.mem_cons.1 hx with rfl | hx
  ·exact hl _ _ ho
  ·exact ih (fun y hy => hb y (List.mem_cons_of_mem _ hy)) x hx
 | w _ ih =>
  intro hb x hx
  rcases List.mem_cons.1 hx with rfl | hx
  ·exact hb _ List.mem_cons_self rfl
  ·exact ih (fun y hy => hb y (List.mem_cons_of_mem _ hy)) x hx
theorem retV_length {f : Fl} {key : Nat} {R : Nat → A} : ∀ (tys : List Ty) (k : Nat), (retV f key tys R k).length = tys.length
 | [], _ => rfl
 | t :: ts, k => by rw [retV, List.length_cons, retV_length ts (k + 1), List.length_cons]
theorem call_sound {E : Env} {key : Nat} {rt : Ty} {f : FuncId} {xs : List Value} {r : V × Objs × List (Bool × Nat)} (hE : E.P = P) (hO : OK X w FZ β s []) (hl : xs.length = vs.length)
  (hr : ∀ (i : Nat) (u : V) (x : Value), vs[i]? = some u → xs[i]? = some x → RepV (vers s) β u x)
  (hS : ∀ as pos, (E.G f as pos).1 = true → Sound P ms f as pos (E.G f as pos).2) (h : (callH E key rt f ms vs).run s fp = some r) :
  Callable P f ∧ Calls P f xs.toArray w fun e w' => ∃ x, e = .returned x ∧ Post X FZ β s w r.1 r.2.1 x w' := by
 unfold callH at h
 obtain ⟨fp1, h⟩ := gather_run _ h
 generalize hlst : topOf ((ptIds ms vs).map fun x => (x.1, x.2, (s x.1).o)) = l at h
 obtain ⟨tss, bw, nm, s1, fp2, h1, h⟩ := foldPW_run _ h
 obtain ⟨as, iw, sf, fp3, h2, h⟩ := foldArgs_run _ _ h
 obtain ⟨pos, fp4, h3, h⟩ := foldPR_run _ h
 obtain ⟨hap, h⟩ := chk_run h
 obtain ⟨hG, h⟩ := chk_run h
 obtain ⟨hcall, hsm, hC⟩ := hS as pos hG
 refine ⟨hcall, ?_⟩
 generalize hout : (E.G f as pos).2 = out at h hC
 simp only [H.run] at h
 have hok : (ioOk 0 iw out && boxOk bw out && okRets (E.flag f) (retTys rt) (fun k => out.rets.getD k .no) 0 && numOk rt out &&
   (!(ms.any Mode.isBor || l.any fun x => x.2.1) || (noRoIo 0 iw out && noRoBox bw out && noRoRets (retTys rt) (fun k => out.rets.getD k .no) 0))) = true := by
  cases hb : (ioOk 0 iw out && boxOk bw out && okRets (E.flag f) (retTys rt) (fun k => out.rets.getD k .no) 0 && numOk rt out &&
   (!(ms.any Mode.isBor || l.any fun x => x.2.1) || (noRoIo 0 iw out && noRoBox bw out && noRoRets (retTys rt) (fun k => out.rets.getD k .no) 0))) with
  | true => rfl
  | false => rw [hb] at h; cases h
 rw [hok, cond_true] at h
 cases hput : putAll out (retW (E.flag f) key (retTys rt) 0 ++ (boxW key bw ++ ioW 0 iw)) sf with
 | none => rw [hput] at h; cases h
 | some s2 =>
 rw [hput] at h
 have hr2 := (Option.some.inj h).symm
 clear h
 obtain rfl : bw = bwOf 0 l pos := bw_eq h1 h3
 simp only [Bool.and_eq_true] at hok
 obtain ⟨⟨⟨⟨okIo, okBx⟩, okRt⟩, okNum⟩, okRo⟩ := hok
 -- into the call
 obtain ⟨lw, o1, _, v1, _, _, _, hpw⟩ := h1.sem hO
 obtain ⟨pend, β0, o2, oin, hrep, hnPO, hnPC, hblank, hver⟩ := call_in hO hl hr h1 h2 h3 hsm
 have hargs := args_rep h2 hl hr hrep (fun {id n sz i j x} hn hx => (h1.names (fun _ _ _ ho => h2.box ho) hO h3 hn).rep hx hnPO hnPC)
 obtain ⟨hios, hiolen⟩ := h2.ios (j := 0) (Xf := xs) o1 hl (fun i u x hu hx => (hr i u x hu hx).ver v1) (fun i x hx => by rw [Nat.zero_add]; exact hx)
 refine (hC _ w FZ β0 xs rfl oin (by rw [h2.length]; exact hl) hargs).mono ?_
 rintro e w' ⟨x, rfl, FZ', sB, lb, lr, rvs, wd, hol, okB, bl, aL, rfl⟩
 refine ⟨_, rfl, ?_⟩
 have hol : out.outs.length = iw.length := hol.trans hiolen
 have hos : ∀ k q, out.pos[k]? = some q → out.pos.getD (0 + k) (.rows .own 0 []) = q ∧ out.pos.getD (0 + k) (.box false []) = q := fun k q hk => by simp [List.getD, hk]
 have hnum : out.rets.length = (retTys rt).length := by
  unfold numOk at okNum
  rw [Bool.and_eq_true] at okNum
  exact beq_eq okNum.1
 have hRi : ∀ i a, out.rets[i]? = some a → (fun k => out.rets.getD k A.no) (0 + i) = a := fun i a ha => by simp [List.getD, ha]
 have hro : (ms.any Mode.isBor || l.any fun x => x.2.1) = false ∨ ∀ (k : Nat) p, (out.outs.zip ((iosOf ms as 0).map (ioVal xs)) ++ (lb ++ lr))[k]? = some p → p.1.noRo = true := by
  cases hany : (ms.any Mode.isBor || l.any fun x => x.2.1) with
  | false => exact .inl rfl
  | true =>
   rw [hany] at okRo
   simp only [Bool.not_true, Bool.false_or, Bool.and_eq_true] at okRo
   obtain ⟨⟨n1, n2⟩, n3⟩ := okRo
   right
   intro k p hk
   have hm := List.mem_of_getElem? hk
   rcases List.mem_append.1 hm with hm | hm
   ·refine zip_noRo (fun k hk => ?_) p hm
    have := noRoIo_at n1 k (by omega)
    rwa [Nat.zero_add] at this
   ·rcases List.mem_append.1 hm with hm | hm
    ·exact bl.noRo h3 hos okBx n2 p hm
    ·exact aL.noRo hnum hRi okRt n3 p hm
 obtain ⟨ob, wdX⟩ := call_back o2 h3 hblank (fun k y hy => (hnPO k y hy).2) (fun k ro ts b hk hy => by
  obtain ⟨c, c1, c2, _⟩ := hnPC k ro ts b hk hy
  exact ⟨c, c1, c2⟩) okB wd bl hro
 -- behind it
 rw [putAll_append] at hput
 cases hpa : putAll out (retW (E.flag f) key (retTys rt) 0) sf with
 | none => rw [hpa] at hput; cases hput
 | some sa =>
 rw [hpa] at hput
 have hput : putAll out (boxW key (bwOf 0 l pos) ++ ioW 0 iw) sa = some s2 := hput
 rw [putAll_append] at hput
 cases hpb : putAll out (boxW key (bwOf 0 l pos)) sa with
 | none => rw [hpb] at hput; cases hput
 | some sb =>
 rw [hpb] at hput
 have hput : putAll out (ioW 0 iw) sb = some s2 := hput
 obtain ⟨β1, o3, e3, r3⟩ := rets_place (R := fun k => out.rets.getD k A.no) (fun _ => rfl) aL (tys := retTys rt) (k := 0) hnum okRt hRi hpa (pend := out.outs.zip ((iosOf ms as 0).map (ioVal xs)) ++ lb) (by simpa using ob)
 have keepA : ∀ id, 1 ≤ (sf id).ver → sa id = sf id := fun id hid => putAll_keep (fun x hx _ => retW_mem x hx) hid hpa
 have liveF : ∀ {id o}, (sf id).o = some o → 1 ≤ (sf id).ver := fun ho => ob.live _ _ ho
 have liveL : ∀ x ∈ l, 1 ≤ (sf x.1).ver := h3.live (fun id o ho => liveF ho) fun x hx hf => by
  obtain ⟨cells, c1, _⟩ := hblank x hx hf
  exact liveF c1
 have blankA : ∀ x ∈ l, x.2.1 = false → isBlank sa x.1 := fun x hx hf => by
  obtain ⟨cells, c1, c2, c3⟩ := hblank x hx hf
  exact ⟨cells, by rw [keepA _ (liveF c1)]; exact c1, c2, c3⟩
 obtain ⟨β2, o4, e4⟩ := box_place bl h3 (fun k x hk => by
   rw [Nat.zero_add]
   have h5 : (l.map fun x => β x.1)[k]? = some (β x.1) := by rw [List.getElem?_map, hk]; rfl
   rw [(hnPO k _ h5).2]
   exact ((e3 x.1 (liveL x (List.mem_of_getElem? hk))).2).symm) blankA hpw hos okBx hpb o3
 have keepB : ∀ id, 1 ≤ (sf id).ver → sb id = sf id ∨ ∃ ro cells, (sb id).o = some (.box ro cells) := fun id hid => by
  have h6 := keepA id hid
  rcases putAll_box (fun x hx => boxW_box x hx) (by rw [h6]; exact hid) hpb with h7 | h7
  ·exact .inl (h7.trans h6)
  ·exact .inr h7
 have hbt : ∀ i, 1 ≤ (sf i).ver → β2 i = β i := fun i hi => ((e3.trans e4) i hi).2
 have hios2 := (hios.turn (w' := w') (fun x szx b o n cap hb h0 hs => by
  obtain ⟨rs, hs⟩ := hs
  have hbl : Bl w β sf pend (.inl x) b := ⟨_, hs, by show Blk w _ (β x) b; rw [hb]; exact .here h0⟩
  refine wd.old b (o2.blk_lt hbl) ?_
  rintro (⟨k, hk⟩ | ⟨k, ts, hk, hy⟩)
  ·exact o2.apart _ _ b (by simp) hbl hk
  ·obtain ⟨y, hy1, hy2⟩ := pos_of h3 k ts hk
   rw [List.getElem?_map, hy1] at hy
   obtain ⟨m, hblk⟩ := (hblank y (List.mem_of_getElem? hy1) hy2).blank (Option.some.inj hy)
   refine o2.apart (.inl x) (.inl y.1) b (fun e => ?_) hbl hblk.bl
   injection e with e
   subst e
   obtain ⟨cells, c1, _⟩ := hblank y (List.mem_of_getElem? hy1) hy2
   rw [hs] at c1
   cases c1)).rebase hbt (fun i o ho => liveF ho)
 have o5 := io_place hios2 (q := 0) (outs := out.outs) (by rw [List.length_map]; exact hol.trans hiolen.symm) (fun id sz hm => by
   obtain ⟨a1, a2⟩ := hios.topF id sz hm
   rw [← keepA id a2]
   exact putAll_keep (fun x hx he => by
    rcases boxW_mem x hx with h8 | ⟨e, he1, he2⟩
    ·exact h8
    ·obtain ⟨y, hy, hyf, hye⟩ := bwOf_mem e he1
     obtain ⟨cells, c1, _⟩ := hblank y hy hyf
     rw [hye, he2, he, a1] at c1
     cases c1) (by rw [keepA id a2]; exact a2) hpb)
  (fun x szx i j sz hm rs ho => by
   rcases keepB x (hios.nestF x szx i j sz hm) with h9 | ⟨ro, cells, h9⟩
   ·rw [h9] at ho; exact ⟨rs, ho⟩
   ·rw [h9] at ho; cases ho)
  (ioApart_spec hap) (fun i t hi => by simp [List.getD, hi]) okIo hput (pend := []) (by rw [List.nil_append]; exact o4)
 have v5 := putAll_ver hput
 have eF : Ext sf β s2 β2 := (e3.trans e4).trans (Ext.ver β2 v5)
 have rr : ∀ (i : Nat) (v : V) (x : Value), (retV (E.flag f) key (retTys rt) (fun k => out.rets.getD k A.no) 0)[i]? = some v → rvs[i]? = some x → RepV (vers s2) β2 v x :=
  fun i v x hv hx => (r3 i v x hv hx).ext (e4.trans (Ext.ver β2 v5))
 have hrl : rvs.length = (retTys rt).length := aL.length.trans hnum
 subst hr2
 refine ⟨β2, FZ', o5, fun i hi => eF i (Nat.le_trans hi (hver i)) |>.imp id id, ?_, wdX⟩
 have single : ∀ t, retTys t = [t] → rt = t → RepV (vers s2) β2 (unA (nKey key 0) (etaA (E.flag f) t (out.rets.getD 0 .no))) (packV rvs) := by
  intro t ht he
  subst he
  rw [ht] at hrl
  match rvs, hrl with
  | [x], _ => exact rr 0 _ x (by rw [ht]; rfl) rfl
 cases rt with
 | cell k => exact single _ rfl rfl
 | ag ks => exact single _ rfl rfl
 | tu ts =>
  have hne : ts.length ≠ 1 := by
   unfold numOk at okNum
   rw [Bool.and_eq_true] at okNum
   have h10 : (!Nat.beq ts.length 1) = true := okNum.2
   intro e
   rw [e] at h10
   cases h10
  have hp : packV rvs = .tuple rvs.toArray := by
   have : rvs.length ≠ 1 := by rw [hrl]; exact hne
   match rvs, this with
   | [], _ => rfl
   | [x], h => exact absurd rfl h
   | x :: y :: r, _ => rfl
  rw [hp]
  refine .tu (by rw [retV_length, List.size_toArray]; exact hrl.symm) fun i v x hv hx => rr i v x hv (by simpa using hx)
end Go.Vm
namespace Go.Vm
set_option linter.unusedVariables false
set_option linter.unusedSimpArgs false
def Fr (s s' : Objs) : Prop := ∀ i, (s i).ver ≤ (s' i).ver ∧ ((s' i).ver = (s i).ver → (s' i).o = (s i).o)
theorem Fr.refl (s : Objs) : Fr s s := fun _ => ⟨Nat.le_refl _, fun _ => rfl⟩
theorem Fr.trans {s1 s2 s3 : Objs} (h : Fr s1 s2) (h' : Fr s2 s3) : Fr s1 s3 := fun i =>
 ⟨Nat.le_trans (h i).1 (h' i).1, fun e => by
  have h1 := (h i).1
  have h2 := (h' i).1
  rw [(h' i).2 (by omega), (h i).2 (by omega)]⟩
theorem Fr.put (s : Objs) (i : Nat) (o : Option O) : Fr s (putS s i true o) := fun j => by
 by_cases e : j = i
 ·subst e
  rw [putS_bump]
  exact ⟨by omega, fun h => by omega⟩
 ·rw [putS_ne _ _ _ e]
  exact ⟨Nat.le_refl _, fun _ => rfl⟩
theorem putAll_fr {out : Out} : ∀ {ws : WS} {s s' : Objs}, putAll out ws s = some s' → Fr s s'
 | [], s, s', h => by
  simp only [putAll] at h
  obtain rfl := Option.some.inj h
  exact Fr.refl _
 | (nw, i, f) :: ws, s, s', h => by
  simp only [putAll] at h
  cases hc : (!nw || Nat.beq (s i).ver 0) with
  | false => rw [hc] at h; cases h
  | true =>
   rw [hc, cond_true] at h
   exact (Fr.put _ _ _).trans (putAll_fr h)
inductive Bumps {α : Type} : H α → Prop
 | ret (a : α) : Bumps (.ret a)
 | fail : Bumps .fail
 | get {i k} (h : ∀ v o, Bumps (k v o)) : Bumps (.get i k)
 | put {i o k} (h : Bumps k) : Bumps (.put i true o k)
 | new {i o k} (h : Bumps k) : Bumps (.new i o k)
 | chk {b k} (h : Bumps k) : Bumps (.chk b k)
 | call (o : Out) (ws : WS) (ok : Out → Bool) (k : Out → α) : Bumps (.call o ws ok k)
theorem Bumps.fr {α : Type} {p : H α} (hp : Bumps p) : ∀ {s : Objs} {fp : List (Bool × Nat)} {r : α × Objs × List (Bool × Nat)}, p.run s fp = some r → Fr s r.2.1 := by
 induction hp with
 | ret a => intro s fp r h; obtain rfl := ret_run h; exact Fr.refl _
 | fail => intro s fp r h; cases h
 | get _ ih => intro s fp r h; exact ih _ _ h
 | put _ ih => intro s fp r h; exact (Fr.put _ _ _).trans (ih h)
 | @new i o k _ ih =>
  intro s fp r h
  simp only [H.run] at h
  cases hq : Nat.beq (s i).ver 0 with
  | false => rw [hq] at h; cases h
  | true => rw [hq, cond_true] at h; exact (Fr.put _ _ _).trans (ih h)
 | chk _ ih => intro s fp r h; exact ih (chk_run h).2
 | call o ws ok k =>
  intro s fp r h
  simp only [H.run] at h
  cases hb : ok o with
  | false => rw [hb] at h; cases h
  | true =>
   rw [hb, cond_true] at h
   cases hp : putAll o ws s with
   | none => rw [hp] at h; cases h
   | some s1 =>
    rw [hp] at h
    obtain rfl := Option.some.inj h
    exact putAll_fr hp
theorem putAll_local {out : Out} : ∀ {ws : WS} {s s' : Objs}, putAll out ws s = some s' → (∀ i, (∀ x ∈ ws, x.2.1 ≠ i) → s' i = s i) ∧
  ∀ t : Objs, (∀ x ∈ ws, t x.2.1 = s x.2.1) → ∃ t', putAll out ws t = some t' ∧ (∀ x ∈ ws, t' x.2.1 = s' x.2.1) ∧ ∀ i, (∀ x ∈ ws, x.2.1 ≠ i) → t' i = t i
 | [], s, s', h => by
  simp only [putAll] at h
  obtain rfl := Option.some.inj h
  exact ⟨fun _ _ => rfl, fun t _ => ⟨t, rfl, fun x hx => by simp at hx, fun _ _ => rfl⟩⟩
 | (nw, i, f) :: ws, s, s', h => by
  simp only [putAll] at h
  cases hc : (!nw || Nat.beq (s i).ver 0) with
  | false => rw [hc] at h; cases h
  | true =>
   rw [hc, cond_true] at h
   obtain ⟨a, b⟩ := putAll_local h
   refine ⟨fun j hj => ?_, fun t ht => ?_⟩
   ·rw [a j fun x hx => hj x (List.mem_cons_of_mem _ hx), putS_ne _ _ _ fun e => hj _ List.mem_cons_self e.symm]
   ·have hti : t i = s i := ht _ List.mem_cons_self
    have hput : ∀ j, t j = s j ∨ j = i → putS t i true (f out (t i).o) j = putS s i true (f out (s i).o) j := by
     intro j hj
     by_cases e : j = i
     ·subst e; simp [putS, upd, hti]
     ·rw [putS_ne _ _ _ e, putS_ne _ _ _ e]; exact hj.resolve_right e
    obtain ⟨t', c1, c2, c3⟩ := b (putS t i true (f out (t i).o)) fun x hx => hput _ (.inl (ht x (List.mem_cons_of_mem _ hx)))
    refine ⟨t', ?_, fun x hx => ?_, fun j hj => ?_⟩
    ·simp only [putAll]
     rw [hti, hc, cond_true, ← hti]
     exact c1
    ·by_cases hm : ∃ y ∈ ws, y.2.1 = x.2.1
     ·obtain ⟨y, hy, e⟩ := hm
      rw [← e]; exact c2 y hy
     ·have hm : ∀ y ∈ ws, y.2.1 ≠ x.2.1 := fun y hy e => hm ⟨y, hy, e⟩
      rw [c3 _ hm, a _ hm]
      rcases List.mem_cons.1 hx with rfl | hx
      ·exact hput _ (.inr rfl)
      ·exact absurd rfl (hm x hx)
    ·rw [c3 j fun x hx => hj x (List.mem_cons_of_mem _ hx), putS_ne _ _ _ fun e => hj _ List.mem_cons_self e.symm]
theorem run_local {α : Type} (p : H α) : ∀ {s : Objs} {fp0 : List (Bool × Nat)} {r : α × Objs × List (Bool × Nat)}, p.run s fp0 = some r →
  ∃ δ, r.2.2 = δ ++ fp0 ∧ (∀ i, (true, i) ∉ δ → r.2.1 i = s i) ∧
  ∀ (t : Objs) (fp1 : List (Bool × Nat)), (∀ x ∈ δ, t x.2 = s x.2) → ∃ t', p.run t fp1 = some (r.1, t', δ ++ fp1) ∧ (∀ i, (true, i) ∈ δ → t' i = r.2.1 i) ∧ ∀ i, (true, i) ∉ δ → t' i = t i := by
 induction p with
 | ret a =>
  intro s fp0 r h
  obtain rfl := ret_run h
  exact ⟨[], rfl, fun _ _ => rfl, fun t fp1 _ => ⟨t, rfl, fun i hi => by simp at hi, fun _ _ => rfl⟩⟩
 | fail => intro s fp0 r h; cases h
 | get i k ih =>
  intro s fp0 r h
  simp only [H.run] at h
  obtain ⟨δ, h1, h2, h3⟩ := ih _ _ h
  refine ⟨δ ++ [(false, i)], by rw [h1]; simp, fun j hj => h2 j fun hm => hj (by simp [hm]), fun t fp1 ht => ?_⟩
  have hti : t i = s i := ht (false, i) (by simp)
  obtain ⟨t', c1, c2, c3⟩ := h3 t ((false, i) :: fp1) fun x hx => ht x (by simp [hx])
  refine ⟨t', ?_, fun j hj => c2 j (by simpa using hj), fun j hj => c3 j fun hm => hj (by simp [hm])⟩
  simp only [H.run]
  rw [hti, c1]; simp
 | put i b o k ih =>
  intro s fp0 r h
  simp only [H.run] at h
  obtain ⟨δ, h1, h2, h3⟩ := ih h
  refine ⟨δ ++ [(true, i)], by rw [h1]; simp, fun j hj => ?_, fun t fp1 ht => ?_⟩
  ·rw [h2 j fun hm => hj (by simp [hm]), putS_ne _ _ _ fun e => hj (by simp [e])]
  ·have hti : t i = s i := ht (true, i) (by simp)
   have hput : ∀ j, t j = s j ∨ j = i → putS t i b o j = putS s i b o j := by
    intro j hj
    by_cases e : j = i
    ·subst e; simp [putS, upd, hti]
    ·rw [putS_ne _ _ _ e, putS_ne _ _ _ e]; exact hj.resolve_right e
   obtain ⟨t', c1, c2, c3⟩ := h3 (putS t i b o) ((true, i) :: fp1) fun x hx => hput _ (.inl (ht x (by simp [hx])))
   refine ⟨t', ?_, fun j hj => ?_, fun j hj => ?_⟩
   ·simp only [H.run]; rw [c1]; simp
   ·by_cases hm : (true, j) ∈ δ
    ·exact c2 j hm
    ·have hj : j = i := by simpa [hm] using hj
     subst hj
     rw [c3 j hm, h2 j hm]; exact hput _ (.inr rfl)
   ·rw [c3 j fun hm => hj (by simp [hm]), putS_ne _ _ _ fun e => hj (by simp [e])]
 | new i o k ih =>
  intro s fp0 r h
  simp only [H.run] at h
  cases hq : Nat.beq (s i).ver 0 with
  | false => rw [hq] at h; cases h
  | true =>
   rw [hq, cond_true] at h
   obtain ⟨δ, h1, h2, h3⟩ := ih h
   refine ⟨δ ++ [(true, i)], by rw [h1]; simp, fun j hj => ?_, fun t fp1 ht => ?_⟩
   ·rw [h2 j fun hm => hj (by simp [hm]), putS_ne _ _ _ fun e => hj (by simp [e])]
   ·have hti : t i = s i := ht (true, i) (by simp)
    have hput : ∀ j, t j = s j ∨ j = i → putS t i true (some o) j = putS s i true (some o) j := by
     intro j hj
     by_cases e : j = i
     ·subst e; simp [putS, upd, hti]
     ·rw [putS_ne _ _ _ e, putS_ne _ _ _ e]; exact hj.resolve_right e
    obtain ⟨t', c1, c2, c3⟩ := h3 (putS t i true (some o)) ((true, i) :: fp1) fun x hx => hput _ (.inl (ht x (by simp [hx])))
    refine ⟨t', ?_, fun j hj => ?_, fun j hj => ?_⟩
    ·simp only [H.run]; rw [hti, hq, cond_true, c1]; simp
    ·by_cases hm : (true, j) ∈ δ
     ·exact c2 j hm
     ·have hj : j = i := by simpa [hm] using hj
      subst hj
      rw [c3 j hm, h2 j hm]; exact hput _ (.inr rfl)
    ·rw [c3 j fun hm => hj (by simp [hm]), putS_ne _ _ _ fun e => hj (by simp [e])]
 | chk b k ih =>
  intro s fp0 r h
  obtain ⟨hb, h⟩ := chk_run h
  subst hb
  obtain ⟨δ, h1, h2, h3⟩ := ih h
  exact ⟨δ, h1, h2, fun t fp1 ht => h3 t fp1 ht⟩
 | call o ws ok k =>
  intro s fp0 r h
  simp only [H.run] at h
  cases hb : ok o with
  | false => rw [hb] at h; cases h
  | true =>
   rw [hb, cond_true] at h
   cases hp : putAll o ws s with
   | none => rw [hp] at h; cases h
   | some s1 =>
    rw [hp] at h
    obtain rfl := Option.some.inj h
    obtain ⟨a, b⟩ := putAll_local hp
    have mem : ∀ j, (true, j) ∈ ws.map (fun w => (true, w.2.1)) ↔ ∃ x ∈ ws, x.2.1 = j := fun j => by simp
    refine ⟨ws.map fun w => (true, w.2.1), rfl, fun j hj => a j fun x hx e => hj ((mem j).2 ⟨x, hx, e⟩), fun t fp1 ht => ?_⟩
    obtain ⟨t', c1, c2, c3⟩ := b t fun x hx => ht (true, x.2.1) ((mem _).2 ⟨x, hx, rfl⟩)
    refine ⟨t', ?_, fun j hj => ?_, fun j hj => c3 j fun x hx e => hj ((mem j).2 ⟨x, hx, e⟩)⟩
    ·simp only [H.run]
     rw [hb, cond_true, c1]; rfl
    ·obtain ⟨x, hx, rfl⟩ := (mem j).1 hj
     exact c2 x hx
theorem fpApart_spec {a b : List (Bool × Nat)} (h : fpApart a b = true) {x y : Bool × Nat} (hx : x ∈ a) (hy : y ∈ b) (e : x.2 = y.2) : x.1 = false ∧ y.1 = false := by
 have := List.all_eq_true.1 (List.all_eq_true.1 h x hx) y hy
 rw [e] at this
 simpa using this
theorem run_swap {α β : Type} {p : H α} {q : H β} {s : Objs} {r1 : α × Objs × List (Bool × Nat)} {r2 : β × Objs × List (Bool × Nat)} (hp : p.run s [] = some r1) (hq : q.run r1.2.1 [] = some r2) (ha : fpApart r1.2.2 r2.2.2 = true) :
  ∃ t, q.run s [] = some (r2.1, t, r2.2.2) ∧ p.run t [] = some (r1.1, r2.2.1, r1.2.2) := by
 obtain ⟨δp, p1, p2, p3⟩ := run_local p hp
 obtain ⟨δq, q1, q2, q3⟩ := run_local q hq
 rw [List.append_nil] at p1 q1
 rw [p1, q1] at ha
 obtain ⟨t, t1, t2, t3⟩ := q3 s [] fun y hy => by
  rw [p2 y.2 fun hm => by
   have := (fpApart_spec ha hm hy rfl).1
   cases this]
 rw [List.append_nil, ← q1] at t1
 refine ⟨t, t1, ?_⟩
 obtain ⟨u, u1, u2, u3⟩ := p3 t [] fun x hx => t3 x.2 fun hm => by
  have := (fpApart_spec ha hx hm rfl).2
  cases this
 rw [List.append_nil, ← p1] at u1
 have : u = r2.2.1 := by
  funext i
  by_cases hi : (true, i) ∈ δp
  ·rw [u2 i hi, q2 i fun hm => by
    have := (fpApart_spec ha hi hm rfl).1
    cases this]
  ·rw [u3 i hi]
   by_cases hj : (true, i) ∈ δq
   ·exact t2 i hj
   ·rw [t3 i hj, q2 i hj, p2 i hi]
 rw [u1, this]
end Go.Vm
namespace Go.Vm
set_option linter.unusedVariables false
set_option linter.unusedSimpArgs false
variable {P : Program}
theorem Bumps.bif {α : Type} {p q : H α} (c : Bool) (h : Bumps p) (h' : Bumps q) : Bumps (bif c then p else q) := by cases c <;> assumption
theorem Bumps.bor {α : Type} {k : T → H α} (v : V) (h : ∀ t, Bumps (k t)) : Bumps (bor v k) := by
 cases v with
 | im v => exact h _
 | nl sz => exact h _
 | sl id e off len sz =>
  refine .get fun ver o => ?_
  try dsimp only
  split
  ·exact .chk (h _)
  ·refine .get fun ver o => ?_
   try dsimp only
   split
   ·exact .chk (h _)
   ·exact .fail
  ·exact .fail
 | pt => exact .fail
 | ag => exact .fail
 | tu => exact .fail
 | fn => exact .fail
 | mp => exact .fail
 | no => exact .fail
theorem Bumps.own {α : Type} {k : T → H α} (v : V) (h : ∀ t, Bumps (k t)) : Bumps (own v k) := by
 cases v with
 | im v => exact h _
 | nl sz => exact h _
 | sl id e off len sz =>
  refine .get fun ver o => ?_
  try dsimp only
  split
  ·refine .chk ?_
   split
   ·exact .put (h _)
   ·exact h _
  ·refine .get fun ver o => ?_
   try dsimp only
   split
   ·exact .chk (.put (.put (h _)))
   ·exact .chk (h _)
   ·exact .fail
  ·exact .fail
 | pt => exact .fail
 | ag => exact .fail
 | tu => exact .fail
 | fn => exact .fail
 | mp => exact .fail
 | no => exact .fail
theorem Bumps.foldL {α : Type} (m : Mode) : ∀ (vs : List V) {k : List T → H α}, (∀ ts, Bumps (k ts)) → Bumps (foldL m vs k)
 | [], k, h => h _
 | v :: vs, k, h => by
  have h2 : ∀ t, Bumps (Vm.foldL m vs fun ts => k (t :: ts)) := fun t => Bumps.foldL m vs fun ts => h _
  show Bumps (foldM m v fun t => Vm.foldL m vs fun ts => k (t :: ts))
  cases m <;> first | exact Bumps.bor v h2 | exact Bumps.own v h2 | exact .fail
theorem Bumps.rdCells {id ver i : Nat} {rs : List (List T)} : ∀ (ks : List Kd) (j n : Nat) {k : List V → H V}, (∀ vs, Bumps (k vs)) → Bumps (rdCells id ver i rs ks j n k)
 | [], j, n, k, h => h _
 | kd :: ks, j, n, k, h => by
  cases kd with
  | sl sz => exact .new (Bumps.rdCells ks _ _ fun vs => h _)
  | int => exact Bumps.rdCells ks _ _ fun vs => h _
  | bool => exact Bumps.rdCells ks _ _ fun vs => h _
  | str => exact Bumps.rdCells ks _ _ fun vs => h _
  | oth => exact .fail
theorem Bumps.rdFlat {i : Nat} {rs : List (List T)} : ∀ (ks : List Kd) (j : Nat) {k : List V → H V}, (∀ vs, Bumps (k vs)) → Bumps (rdFlat i rs ks j k)
 | [], j, k, h => h _
 | kd :: ks, j, k, h => by
  cases kd with
  | int => exact Bumps.rdFlat ks _ fun vs => h _
  | bool => exact Bumps.rdFlat ks _ fun vs => h _
  | str => exact Bumps.rdFlat ks _ fun vs => h _
  | sl => exact .fail
  | oth => exact .fail
theorem Bumps.load (key : Nat) (t : TypeId) (v : V) : Bumps (loadH P key t v) := by
 unfold loadH
 split
 ·refine .get fun ver o => ?_
  try dsimp only
  split
  ·exact .chk (.ret _)
  ·exact .chk (.chk (Bumps.rdCells _ _ _ fun vs => .ret _))
  ·refine .get fun ver o => ?_
   try dsimp only
   split
   ·exact .chk (Bumps.rdFlat _ _ fun vs => .ret _)
   ·exact .fail
  ·exact .fail
 ·exact .fail
theorem Bumps.store (t : TypeId) (p x : V) : Bumps (storeH P t p x) := by
 unfold storeH
 split
 ·refine .get fun ver o => ?_
  try dsimp only
  split
  ·exact .chk (.put (.ret _))
  ·refine .chk (Bumps.foldL _ _ fun ts => .get fun ver o => ?_)
   try dsimp only
   split
   ·exact .chk (.put (.ret _))
   ·exact .fail
  ·exact .fail
 ·exact .fail
theorem Bumps.clear (ts : Array TypeId) (x : V) : Bumps (clearH P ts x) := by
 unfold clearH
 split
 ·refine .get fun ver o => ?_
  try dsimp only
  split
  ·exact .chk (.put (.ret _))
  ·exact .fail
 ·exact .fail
theorem Bumps.makeMap (key : Nat) (t : TypeId) : Bumps (makeMapH P key t) := by
 unfold makeMapH
 split
 ·exact .new (.ret _)
 ·exact .fail
theorem Bumps.lookup (t : TypeId) (m k : V) (ok : Bool) : Bumps (lookupH P t m k ok) := by
 unfold lookupH
 split
 ·split
  ·refine .get fun ver o => ?_
   split
   ·exact .chk (.ret _)
   ·exact .fail
  ·exact .fail
 ·exact .fail
theorem Bumps.update (t : TypeId) (m k x : V) : Bumps (updateH P t m k x) := by
 unfold updateH
 split
 ·split
  ·refine .get fun ver o => ?_
   split
   ·exact .chk (.put (.ret _))
   ·exact .fail
  ·exact .fail
 ·exact .fail
theorem Bumps.src {α : Type} {fl : Bool} {x : V} {k : List (List T) → H α} (h : ∀ rs, Bumps (k rs)) : Bumps (srcH fl x k) := by
 unfold srcH
 split
 ·exact h _
 ·cases fl with
  | true =>
   simp only [cond_true]
   refine Bumps.bor _ fun t => ?_
   split
   ·exact .chk (h _)
   ·exact .fail
  | false =>
   simp only [cond_false]
   refine Bumps.own _ fun t => ?_
   split
   ·exact h _
   ·exact h _
   ·exact .fail
theorem Bumps.append (key : Nat) (ts : Array TypeId) (a x : V) : Bumps (appendH P key ts a x) := by
 unfold appendH
 split
 ·refine .chk (Bumps.src fun ys => Bumps.own _ fun t => ?_)
  split
  ·exact .chk (.new (.ret _))
  ·exact .fail
 ·exact .fail
theorem Bumps.appendAny (key : Nat) (ts : Array TypeId) (a x : V) : Bumps (appendAny P key ts a x) := by
 unfold Vm.appendAny
 split
 ·unfold appendNH
  split
  ·exact .chk (.new (.ret _))
  ·exact .fail
 ·exact Bumps.append _ _ _ _
theorem Bumps.idx {α : Type} {v : V} {k : Int → H α} (h : ∀ n, Bumps (k n)) : Bumps (idxK v k) := by
 unfold idxK
 split
 ·exact h _
 ·exact .fail
theorem Bumps.opt {α : Type} {v : Option V} {d : Int} {k : Int → H α} (h : ∀ n, Bumps (k n)) : Bumps (optK v d k) := by
 unfold optK
 split
 ·exact h _
 ·exact Bumps.idx h
theorem Bumps.makeSlice (key : Nat) (t : TypeId) (l c : V) : Bumps (makeSliceH P key t l c) := by
 unfold makeSliceH
 split
 ·exact Bumps.idx fun l => Bumps.idx fun c => .chk (.new (.ret _))
 ·exact .fail
theorem Bumps.buildGo {n : Nat} {ks : List Kd} : ∀ (ps : List (Nat × V)) (rs : List (List T)) {k : List (List T) → H V}, (∀ rs, Bumps (k rs)) → Bumps (buildSliceGo n ks ps rs k)
 | [], rs, k, h => h _
 | (i, v) :: ps, rs, k, h => .chk (Bumps.foldL _ _ fun ts => Bumps.buildGo ps _ h)
theorem Bumps.buildSlice (key : Nat) (t : TypeId) (n : Nat) (ps : List (Nat × V)) : Bumps (buildSliceH P key t n ps) := by
 unfold buildSliceH
 split
 ·exact .chk (Bumps.buildGo _ _ fun rs => .new (.ret _))
 ·exact .fail
theorem Bumps.build (t : TypeId) (ps : List (Nat × V)) : Bumps (buildV P t ps) := by
 unfold buildV
 split
 ·refine .chk ?_
  split
  ·exact .ret _
  ·exact .fail
 ·refine .chk ?_
  split
  ·exact .ret _
  ·exact .fail
 ·exact .fail
theorem Bumps.bin (tb : Bool) (op : BinOp) (x y : V) : Bumps (binV tb op x y) := by
 unfold binV
 split
 ·split
  ·exact .chk (.ret _)
  ·exact .chk (.ret _)
  ·refine .chk ?_
   split <;> first | exact .ret _ | exact .chk (.ret _) | exact .fail
 ·split <;> first | exact .ret _ | exact .chk (.ret _) | exact .fail
 ·split <;> first | exact .ret _ | exact .chk (.ret _) | exact .fail
 ·exact .fail
theorem Bumps.eqAg (t : TypeId) (fs : List Field) (op : BinOp) (xs ys : List V) : Bumps (eqAgV P t fs op xs ys) := by
 unfold eqAgV
 refine .chk ?_
 split <;> first | exact .ret _ | exact .fail
theorem Bumps.un (op : UnOp) (x : V) : Bumps (unV op x) := by
 unfold unV
 split <;> first | exact .ret _ | exact .fail
theorem Bumps.conv (key : Nat) (s d : TypeId) (x : V) : Bumps (convH P key s d x) := by
 unfold convH
 refine .chk ?_
 split
 ·exact .ret _
 ·exact .ret _
 ·exact .chk (.new (.ret _))
 ·split
  ·exact .chk (Bumps.bor _ fun t => .chk (.ret _))
  ·exact .fail
 ·exact .fail
theorem Bumps.cut (n : Nat) (lo hi mx : Option V) (x : V) : Bumps (cutV n lo hi mx x) := by
 unfold cutV
 split
 ·exact Bumps.opt fun l => Bumps.opt fun h => .chk (.ret _)
 ·refine Bumps.opt fun l => ?_
  split
  ·exact .chk (.ret _)
  ·exact Bumps.idx fun h => .chk (.ret _)
 ·exact Bumps.opt fun l => Bumps.opt fun h => .chk (.ret _)
 ·exact .fail
theorem Bumps.indexAddr (t : TypeId) (x i : V) : Bumps (indexAddrH P t x i) := by
 unfold indexAddrH
 split <;> first | exact Bumps.idx fun i => .chk (.ret _) | exact .fail
theorem Bumps.cut0 (key n : Nat) (lo : Option V) (hi mx x : V) : Bumps (cut0H key n lo hi mx x) := by
 unfold cut0H
 exact Bumps.opt fun l => Bumps.idx fun h => Bumps.idx fun m => .chk (.new (.ret _))
theorem Bumps.cutH (key n : Nat) (u : Bool) (lo hi mx : Option V) (x : V) : Bumps (cutH key n u lo hi mx x) := by
 unfold Vm.cutH
 split
 ·exact Bumps.bif _ (Bumps.cut0 _ _ _ _ _ _) .fail
 ·exact Bumps.bif _ (Bumps.cut _ _ _ _ _) .fail
theorem Bumps.index (t : TypeId) (x i : V) : Bumps (indexV P t x i) := by
 unfold indexV
 split <;> first | exact Bumps.idx fun i => .chk (.ret _) | exact .fail
theorem Bumps.gather {α : Type} : ∀ (l : List (Nat × Bool)) {k : List (Nat × Bool × Option O) → H α}, (∀ l, Bumps (k l)) → Bumps (gather l k)
 | [], k, h => h _
 | (id, ro) :: r, k, h => .get fun _ o => Bumps.gather r fun l => h _
theorem Bumps.foldPW {α : Type} : ∀ (l : List (Nat × Bool × Option O)) (p : Nat) {k : List (List T) → List (Nat × Nat × List Kd × List Fl) → List (Nat × Nat) → H α}, (∀ a b c, Bumps (k a b c)) → Bumps (foldPW p l k)
 | [], p, k, h => h _ _ _
 | (id, false, _) :: r, p, k, h => by
  refine .get fun ver o => ?_
  try dsimp only
  split
  ·exact .chk (Bumps.foldL _ _ fun ts => .put (Bumps.foldPW r _ fun a b c => h _ _ _))
  ·exact .fail
 | (id, true, _) :: r, p, k, h => by
  refine .get fun ver o => ?_
  try dsimp only
  split
  ·exact Bumps.foldPW r _ fun a b c => h _ _ _
  ·exact Bumps.foldPW r _ fun a b c => h _ _ _
  ·exact .fail
theorem Bumps.foldPR {α : Type} : ∀ (l : List (Nat × Bool × Option O)) (tss : List (List T)) {k : List PO → H α}, (∀ a, Bumps (k a)) → Bumps (foldPR l tss k)
 | [], tss, k, h => by cases tss <;> exact h _
 | (id, true, _) :: r, _ :: tss, k, h => by
  refine Bumps.foldPR r tss fun pos => .get fun ver o => ?_
  try dsimp only
  split
  ·exact .chk (Bumps.foldL _ _ fun ts => h _)
  ·exact h _
  ·exact .fail
 | (_, false, _) :: r, ts :: tss, k, h => Bumps.foldPR r tss fun pos => h _
 | (_, true, _) :: _, [], k, h => .fail
 | (_, false, _) :: _, [], k, h => .fail
theorem Bumps.foldIo {α : Type} {v : V} {k : T → IoW → H α} (h : ∀ a b, Bumps (k a b)) : Bumps (foldIo v k) := by
 unfold Vm.foldIo
 split
 ·exact h _ _
 ·refine .get fun ver o => ?_
  try dsimp only
  split
  ·exact .chk (.put (h _ _))
  ·refine .get fun ver o => ?_
   try dsimp only
   split
   ·exact .chk (.put (.put (h _ _)))
   ·exact .fail
  ·exact .fail
 ·exact .fail
theorem Bumps.foldIoL {α : Type} : ∀ (vs : List V) {k : List T → List IoW → H α}, (∀ a b, Bumps (k a b)) → Bumps (foldIoL vs k)
 | [], k, h => h _ _
 | v :: vs, k, h => by
  have h2 : ∀ t w, Bumps (Vm.foldIoL vs fun ts ws => k (t :: ts) (w :: ws)) := fun t w => Bumps.foldIoL vs fun ts ws => h _ _
  have h3 : Bumps (Vm.foldIo v fun t w => Vm.foldIoL vs fun ts ws => k (t :: ts) (w :: ws)) := Bumps.foldIo h2
  cases v <;> first | exact Bumps.foldIoL vs fun ts ws => h _ _ | exact h3
theorem Bumps.foldArgs {α : Type} {nm : List (Nat × Nat)} : ∀ (vs : List V) (ms : List Mode) {k : List A → List IoW → H α}, (∀ a b, Bumps (k a b)) → Bumps (foldArgs nm ms vs k)
 | [], ms, k, h => by cases ms <;> exact h _ _
 | v :: vs, [], k, h => .fail
 | v :: vs, m :: ms, k, h => by
  have ih : ∀ {k : List A → List IoW → H α}, (∀ a b, Bumps (k a b)) → Bumps (Vm.foldArgs nm ms vs k) := fun h => Bumps.foldArgs vs ms h
  have io : Bumps (Vm.foldIo v fun t e => Vm.foldArgs nm ms vs fun as ws => k (.c t :: as) (e :: ws)) := Bumps.foldIo fun t e => ih fun a b => h _ _
  have gen : Bumps (bif Mode.isBor m then Vm.foldArgs nm ms vs fun as ws => Vm.bor v fun t => k (.c t :: as) ws else Vm.own v fun t => Vm.foldArgs nm ms vs fun as ws => k (.c t :: as) ws) := by
   exact Bumps.bif _ (ih fun a b => Bumps.bor _ fun t => h _ _) (Bumps.own _ fun t => ih fun a b => h _ _)
  cases v with
  | pt id sz i j => exact ih fun a b => h _ _
  | fn f caps => exact ih fun a b => h _ _
  | ag us =>
   have gen2 : Bumps (bif Mode.isBor m then Vm.foldArgs nm ms vs fun as ws => Vm.foldL .bor us fun ts => k (.ag ts :: as) ws else Vm.foldL .own us fun ts => Vm.foldArgs nm ms vs fun as ws => k (.ag ts :: as) ws) := by
    exact Bumps.bif _ (ih fun a b => Bumps.foldL _ _ fun ts => h _ _) (Bumps.foldL _ _ fun ts => ih fun a b => h _ _)
   cases m <;> first | exact Bumps.foldIoL us fun ts es => ih fun a b => h _ _ | exact gen2
  | _ => cases m <;> first | exact io | exact gen
theorem Bumps.callH {E : Env} {key : Nat} {rt : Ty} {f : FuncId} {ms : List Mode} {vs : List V} : Bumps (callH E key rt f ms vs) :=
 Bumps.gather _ fun l => Bumps.foldPW _ _ fun tss bw nm => Bumps.foldArgs _ _ fun as iw => Bumps.foldPR _ _ fun pos => .chk (.chk (.call _ _ _ _))
theorem Bumps.stepH (E : Env) (key : Nat) (o : Oper) (ρ : Operand → V) : Bumps (stepH E key o ρ) := by
 unfold Vm.stepH
 dsimp only
 split
 case h_1 => exact .ret _
 all_goals try first | exact .ret _ | exact .fail | exact Bumps.load _ _ _ | exact Bumps.store _ _ _ | exact Bumps.build _ _ | exact Bumps.buildSlice _ _ _ _ | exact Bumps.un _ _ | exact Bumps.conv _ _ _ _ | exact Bumps.makeSlice _ _ _ _ | exact Bumps.indexAddr _ _ _ | exact Bumps.index _ _ _ | exact .chk (.new (.ret _)) | exact Bumps.makeMap _ _ | exact Bumps.lookup _ _ _ _ | exact Bumps.update _ _ _ _
 all_goals try exact Bumps.bif _ (.ret _) .fail
 all_goals split
 all_goals try first | exact .ret _ | exact .fail | exact .chk (.ret _) | exact Bumps.bin _ _ _ _ | exact Bumps.cut _ _ _ _ _ | exact Bumps.bif _ (Bumps.appendAny _ _ _ _) .fail | exact Bumps.bif _ (Bumps.clear _ _) .fail | exact Bumps.cutH _ _ _ _ _ _ _
 all_goals try refine .chk ?_
 all_goals split
 all_goals first | exact .ret _ | exact .fail | exact Bumps.callH
end Go.Vm
namespace Go.Vm
set_option linter.unusedVariables false
set_option linter.unusedSimpArgs false
variable {P : Program} {X : Cx} {FZ FZ' : Nat → Prop} {β β' : Nat → Value} {w w' : World} {E : Env} {rid : Nat} {ops : Array Oper}
theorem stepH_congr {key : Nat} {o : Oper} {ρ ρ' : Operand → V} (h : ∀ x, (∀ t, x = .tmp t → x ∈ o.op.operands) → ρ x = ρ' x) : stepH E key o ρ = stepH E key o ρ' := by
 obtain ⟨dst, op, type, pos, after, guard⟩ := o
 have hm : ∀ x ∈ op.operands, ρ x = ρ' x := fun x hx => h x fun t e => hx
 have hd : ∀ (as : Array Operand) (i : Nat), (∀ x ∈ as, x ∈ op.operands) → ρ (as.getD i (.func 0)) = ρ' (as.getD i (.func 0)) := by
  intro as i ha
  by_cases hi : i < as.size
  ·have : as.getD i (.func 0) = as[i] := by simp [Array.getD, hi]
   rw [this]
   exact hm _ (ha _ (Array.getElem_mem hi))
  ·have : as.getD i (.func 0) = .func 0 := by simp [Array.getD, hi]
   rw [this]
   exact h _ fun t e => by cases e
 have hl : ∀ (l : List Operand), (∀ x ∈ l, x ∈ op.operands) → l.map ρ = l.map ρ' := fun l hl => List.map_congr_left fun x hx => hm x (hl x hx)
 clear h
 cases op <;> simp only [Op.operands] at hm hd hl <;> simp only [stepH]
 case move x => rw [hm x (by simp)]
 case assign x => rw [hm x (by simp)]
 case pick c a b => rw [hm c (by simp), hm a (by simp), hm b (by simp)]
 case box t x => rw [hm x (by simp)]
 case build t ps =>
  congr 1
  exact List.map_congr_left fun p hp => by rw [hm p.2 (by simp; exact ⟨p.1, by simpa using hp⟩)]
 case buildSlice t n ps =>
  congr 1
  exact List.map_congr_left fun p hp => by rw [hm p.2 (by simp; exact ⟨p.1, by simpa using hp⟩)]
 case load t a => rw [hm a (by simp)]
 case store t a x => rw [hm a (by simp), hm x (by simp)]
 case nilCheck x => rw [hm x (by simp)]
 case binOp op t x y c => rw [hm x (by simp), hm y (by simp)]
 case unOp op t x => rw [hm x (by simp)]
 case convert s d x => rw [hm x (by simp)]
 case makeFunc f first caps =>
  cases f <;> simp only
  rw [hl caps.toList fun x hx => by simp; exact .inr (by simpa using hx)]
 case makeSlice t l c => rw [hm l (by simp), hm c (by simp)]
 case slice t x lo hi mx =>
  have e1 : lo.map ρ = lo.map ρ' := by
   cases lo with
   | none => rfl
   | some y => exact congrArg some (hm y (by simp))
  have e2 : hi.map ρ = hi.map ρ' := by
   cases hi with
   | none => rfl
   | some y => exact congrArg some (hm y (by simp))
  have e3 : mx.map ρ = mx.map ρ' := by
   cases mx with
   | none => rfl
   | some y => exact congrArg some (hm y (by simp))
  rw [hm x (by simp), e1, e2, e3]
 case fieldAddr s x f => rw [hm x (by simp)]
 case field s x f => rw [hm x (by simp)]
 case indexAddr t x i => rw [hm x (by simp), hm i (by simp)]
 case index t x i => rw [hm x (by simp), hm i (by simp)]
 case makeMap t r => cases r <;> rfl
 case lookup t m k ok => rw [hm m (by simp), hm k (by simp)]
 case mapUpdate t m k x => rw [hm m (by simp), hm k (by simp), hm x (by simp)]
 case insert t m k x => rw [hm m (by simp), hm k (by simp), hm x (by simp)]
 case extract t i => rw [hm t (by simp)]
 case call c =>
  have ha : ∀ x ∈ c.args, x ∈ c.operands := fun x hx => by unfold Call.operands; exact Array.mem_append.2 (.inr hx)
  have e0 := hd c.args 0 ha
  have e1 := hd c.args 1 ha
  have e2 := hl c.args.toList fun x hx => ha x (by simpa using hx)
  cases hc : c.callee with
  | builtin b => cases b <;> simp only [e0, e1, e2]
  | value g =>
   have : ρ g = ρ' g := hm g (by simp [Call.operands, hc])
   simp only [e2, this]
  | invoke r n => rfl
structure Inv (X : Cx) (w : World) (FZ : Nat → Prop) (β : Nat → Value) (N : Nat) (σ : St) (a : Act) : Prop where
 ok : OK X w FZ β σ.objs []
 tm : ∀ t, RepV (vers σ.objs) β (σ.tm t) (a.eval (.tmp t))
 sz : N ≤ a.tmps.size
 df : a.defers = []
theorem Inv.ev {N : Nat} {σ : St} {a : Act} (h : Inv X w FZ β N σ a) (x : Operand) : RepV (vers σ.objs) β (σ.ev x) (a.eval x) := by
 cases x with
 | tmp t => exact h.tm t
 | const v => exact rep_constV v
 | global g => exact .no
 | func f => exact .fn rfl fun i v x hv => by simp at hv
theorem eval_put {a : Act} {d : Nat} {x : Value} (hd : d < a.tmps.size) (t : Nat) : (a.put (some d) x).eval (.tmp t) = if t = d then x else a.eval (.tmp t) := by
 show ((a.tmps.setIfInBounds d x).getD t undef) = if t = d then x else a.tmps.getD t undef
 by_cases e : t = d
 ·subst e; simp [Array.getD, hd]
 ·rw [if_neg e]
  simp only [Array.getD_eq_getD_getElem?, Array.getElem?_setIfInBounds_ne (fun h => e h.symm)]
theorem Inv.put {N : Nat} {σ : St} {a : Act} {objs' : Objs} {dst : Option Tmp} {v : V} {x : Value} (h : Inv X w FZ β N σ a) (hd : ∀ d, dst = some d → d < N) (hO : OK X w' FZ' β' objs' []) (he : Ext σ.objs β objs' β')
  (hv : RepV (vers objs') β' v x) : Inv X w' FZ' β' N (({ σ with objs := objs' } : St).put dst v) (a.put dst x) := by
 cases dst with
 | none => exact ⟨hO, fun t => (h.tm t).ext he, h.sz, h.df⟩
 | some d =>
  refine ⟨hO, fun t => ?_, by show N ≤ (a.tmps.setIfInBounds d x).size; simpa using h.sz, h.df⟩
  have hlt := Nat.lt_of_lt_of_le (hd d rfl) h.sz
  rw [eval_put hlt]
  show RepV (vers objs') β' (upd σ.tm d v t) _
  by_cases e : t = d
  ·subst e; rw [if_pos rfl, upd_same]; exact hv
  ·rw [if_neg e, upd_ne _ _ e]; exact (h.tm t).ext he
theorem St.put_objs (σ : St) (x : Option Tmp) (v : V) : (σ.put x v).objs = σ.objs := by cases x <;> rfl
def SoundG (P : Program) (E : Env) : Prop := ∀ f as pos, (E.G f as pos).1 = true → Sound P (modesOf E f) f as pos (E.G f as pos).2
theorem Runs.of_call {c : Call} {o : Oper} {a : Act} {f : FuncId} {g : Operand} {xs : Array Value} {Q : Value → World → Prop} (hop : o.op = .call c) (hcal : c.callee = .value g) (hg : a.eval g = .func (.func f) #[] xs) (hc : Callable P f)
  (h : Calls P f ((c.args.map a.eval).toList ++ xs.toList).toArray w fun e w' => ∃ x, e = .returned x ∧ Q x w') : Runs P ((execOp a.eval o).run P w) Q := by
 obtain ⟨fn, h1, h2, h3⟩ := hc
 refine .enter (f := f) (args := ((c.args.map a.eval).toList ++ xs.toList).toArray) (w' := w) ?_ h
 unfold execOp
 dsimp only
 rw [hop]
 simp only [resolve, hcal, Sem.run_bind, hg, Deferred.ofValue, Sem.run_pure, Result.andThen_ok, invoke, callFunc, run_program, h1, h3, h2]
 simp
theorem preNil_length : ∀ (ms : List Mode) (vs : List V), (preNil ms vs).length = vs.length
 | [], [] => rfl
 | [], v :: vs => by simp [preNil]
 | m :: ms, [] => by simp [preNil]
 | m :: ms, v :: vs => by
  unfold preNil
  split
  ·rename_i h1 h2
   cases h1; cases h2
   simp [preNil_length]
  ·rename_i h1 h2
   cases h1; cases h2
   simp [preNil_length]
  ·rename_i h1 h2
   exact (h2 _ _ _ _ rfl rfl).elim
theorem preNil_rep {vr : Nat → Nat} : ∀ (ms : List Mode) (vs : List V) (xs : List Value), (∀ (i : Nat) (u : V) (x : Value), vs[i]? = some u → xs[i]? = some x → RepV vr β u x) →
  ∀ (i : Nat) (u : V) (x : Value), (preNil ms vs)[i]? = some u → xs[i]? = some x → RepV vr β u x
 | [], [], xs, h => h
 | [], v :: vs, xs, h => by simp only [preNil]; exact h
 | m :: ms, [], xs, h => by simp only [preNil]; exact h
 | m :: ms, v :: vs, [], h => fun i u x _ hx => by simp at hx
 | m :: ms, v :: vs, y :: xs, h => by
  have tl := preNil_rep ms vs xs fun i u x hu hx => h (i + 1) u x (by simpa using hu) (by simpa using hx)
  intro i u x hu hx
  unfold preNil at hu
  split at hu
  ·rename_i h1 h2
   cases h1; cases h2
   cases i with
   | zero =>
    simp only [List.getElem?_cons_zero, Option.some.injEq] at hu hx
    subst hu hx
    have := h 0 _ _ rfl rfl
    cases this with
    | nl => exact .im trivial
   | succ i => exact tl i u x (by simpa using hu) (by simpa using hx)
  ·rename_i h1 h2
   cases h1; cases h2
   cases i with
   | zero =>
    simp only [List.getElem?_cons_zero, Option.some.injEq] at hu hx
    subst hu hx
    exact h 0 _ _ rfl rfl
   | succ i => exact tl i u x (by simpa using hu) (by simpa using hx)
  ·rename_i h1 h2
   exact (h2 _ _ _ _ rfl rfl).elim
theorem op_sound {key : Nat} {o : Oper} {σ : St} {a : Act} {N : Nat} {r : V × Objs × List (Bool × Nat)} {fp : List (Bool × Nat)} (hP : E.P = P) (hS : SoundG P E) (hi : Inv X w FZ β N σ a) (hd : ∀ d, o.dst = some d → d < N)
  (h : (stepH E key o σ.ev).run σ.objs fp = some r) {next : Act → World → Prop} {K : Exit → Act → World → Prop}
  (k : ∀ β' FZ' w' a', Inv X w' FZ' β' N (({ σ with objs := r.2.1 } : St).put o.dst r.1) a' → Ext σ.objs β (({ σ with objs := r.2.1 } : St).put o.dst r.1).objs β' → Wd X FZ FZ' w w' → next a' w') : o.wp P a w next K := by
 refine Runs.wp (step_sound hP hi.ok hi.ev (fun c g f caps hop hcal hg hrun => ?_) h) fun x w' q => ?_
 ·have hgv := hi.ev g
  rw [hg] at hgv
  generalize hgx : a.eval g = gx at hgv
  cases hgv with
  | @fn _ _ xs hcl hcr =>
   have hlen : ((c.args.map a.eval).toList ++ xs.toList).length = (c.args.toList.map σ.ev ++ caps).length := by simp [hcl]
   obtain ⟨hc, hcalls⟩ := call_sound (xs := (c.args.map a.eval).toList ++ xs.toList) hP hi.ok (by rw [preNil_length]; exact hlen) (preNil_rep _ _ _ fun i u x hu hx => by
    rw [List.getElem?_append] at hu hx
    have e1 : ((c.args.map a.eval).toList).length = (c.args.toList.map σ.ev).length := by simp
    rw [e1] at hx
    split at hu
    ·rename_i hlt
     rw [if_pos hlt] at hx
     simp only [Array.toList_map, List.getElem?_map, Option.map_eq_some_iff] at hu hx
     obtain ⟨y, hy, rfl⟩ := hu
     obtain ⟨y', hy', rfl⟩ := hx
     rw [hy] at hy'
     obtain rfl := Option.some.inj hy'
     exact hi.ev y
    ·rename_i hlt
     rw [if_neg hlt] at hx
     exact hcr _ u x hu (by rw [Array.getElem?_toList] at hx; exact hx)) (fun as pos hG => hS f as pos hG) hrun
   exact Runs.of_call hop hcal hgx hc hcalls
 ·obtain ⟨β', FZ', q1, q2, q3, q4⟩ := q
  exact k β' FZ' w' _ (hi.put hd q1 q2 q3) (by rw [St.put_objs]; exact q2) q4
end Go.Vm
namespace Go.Vm
set_option linter.unusedVariables false
set_option linter.unusedSimpArgs false
variable {P : Program} {X : Cx} {FZ FZ' : Nat → Prop} {β β' : Nat → Value} {w w' : World} {E : Env} {rid : Nat} {ops : Array Oper}
noncomputable def stepS (E : Env) (rid i : Nat) (o : Oper) (σ : St) : Option (St × List (Bool × Nat)) :=
 ((stepH E (keyOf rid i) o σ.ev).run σ.objs []).map fun r => (({ σ with objs := r.2.1 } : St).put o.dst r.1, r.2.2)
noncomputable def opRun (E : Env) (rid : Nat) (ops : Array Oper) (i : Nat) (σ : St) : Option (St × List (Bool × Nat)) :=
 match ops[i]? with
 | none => none
 | some o => match o.guard with
  | none => stepS E rid i o σ
  | some (j, want) => match (ops[j]?).bind (·.dst) with
   | none => none
   | some d => match σ.tm d with
    | .im (.bool b) => if b = want then stepS E rid i o σ else some (σ.put o.dst (.tu []), [])
    | .tu [] => some (σ.put o.dst (.tu []), [])
    | _ => none
theorem upd_self {α : Type} (f : Nat → α) (i : Nat) : upd f i (f i) = f := by
 funext n
 by_cases e : n = i
 ·subst e; exact upd_same _ _ _
 ·exact upd_ne _ _ e
theorem stepK_run {β : Type} {i : Nat} {o : Oper} {σ : St} {rec : Rec} {K : St → Rec → Option β} {r : β} (h : stepK E rid i o σ rec K = some r) :
  ∃ σ' fp, stepS E rid i o σ = some (σ', fp) ∧ K σ' ((i, fp) :: rec) = some r := by
 unfold stepK at h
 rw [H.runK_eq] at h
 cases hr : (stepH E (keyOf rid i) o σ.ev).run σ.objs [] with
 | none => rw [hr] at h; cases h
 | some x =>
  rw [hr] at h
  simp only [Option.bind_some, V.force_eq] at h
  exact ⟨_, _, by rw [stepS, hr]; rfl, h⟩
inductive Chain (E : Env) (rid : Nat) (ops : Array Oper) (F : Nat → List (Bool × Nat)) : List Nat → St → St → Prop
 | nil {σ : St} : Chain E rid ops F [] σ σ
 | cons {i : Nat} {l : List Nat} {σ σ1 σ' : St} (h : opRun E rid ops i σ = some (σ1, F i)) (hs : Chain E rid ops F l σ1 σ') : Chain E rid ops F (i :: l) σ σ'
theorem recOf_cons (i : Nat) (fp : List (Bool × Nat)) (rec : Rec) : recOf ((i, fp) :: rec) i = fp := by simp [recOf]
theorem recOf_ne {i j : Nat} (fp : List (Bool × Nat)) (rec : Rec) (h : j ≠ i) : recOf ((i, fp) :: rec) j = recOf rec j := by
 have : Nat.beq i j = false := by
  cases hb : Nat.beq i j with
  | false => rfl
  | true => exact absurd (beq_eq hb).symm h
 simp [recOf, List.find?, this]
theorem runOps_chain {β : Type} : ∀ (l : List (Nat × Oper)) {σ : St} {rec : Rec} {k : St → Rec → Option β} {r : β}, (∀ x ∈ l, ops[x.1]? = some x.2) → (l.map (·.1)).Nodup → runOps E rid ops l σ rec k = some r →
  ∃ σ' rec', (∀ F : Nat → List (Bool × Nat), (∀ i ∈ l.map (·.1), F i = recOf rec' i) → Chain E rid ops F (l.map (·.1)) σ σ') ∧ (∀ j, j ∉ l.map (·.1) → recOf rec' j = recOf rec j) ∧ k σ' rec' = some r
 | [], σ, rec, k, r, _, _, h => ⟨σ, rec, fun F _ => .nil, fun _ _ => rfl, h⟩
 | (i, o) :: l, σ, rec, k, r, hl, hn, h => by
  have hi : ops[i]? = some o := hl _ List.mem_cons_self
  rw [List.map_cons, List.nodup_cons] at hn
  have go : ∀ {σ1 : St} {fp : List (Bool × Nat)}, opRun E rid ops i σ = some (σ1, fp) → runOps E rid ops l σ1 ((i, fp) :: rec) k = some r →
    ∃ σ' rec', (∀ F : Nat → List (Bool × Nat), (∀ j ∈ ((i, o) :: l).map (·.1), F j = recOf rec' j) → Chain E rid ops F (((i, o) :: l).map (·.1)) σ σ') ∧ (∀ j, j ∉ ((i, o) :: l).map (·.1) → recOf rec' j = recOf rec j) ∧ k σ' rec' = some r := by
   intro σ1 fp h1 h2
   obtain ⟨σ', rec', c1, c2, c3⟩ := runOps_chain l (fun x hx => hl x (List.mem_cons_of_mem _ hx)) hn.2 h2
   refine ⟨σ', rec', fun F hF => ?_, fun j hj => ?_, c3⟩
   ·refine .cons (σ1 := σ1) ?_ (c1 F fun j hj => hF j (List.mem_cons_of_mem _ hj))
    rw [hF i (by simp), c2 i hn.1, recOf_cons]
    exact h1
   ·rw [List.map_cons, List.mem_cons] at hj
    rw [c2 j fun hm => hj (.inr hm), recOf_ne _ _ fun e => hj (.inl e)]
  unfold runOps at h
  split at h
  ·rename_i hg
   obtain ⟨σ1, fp, h1, h2⟩ := stepK_run h
   exact go (by rw [opRun, hi]; simp only [hg]; exact h1) h2
  ·rename_i j want hg
   split at h
   ·cases h
   ·rename_i d hd
    split at h
    ·rename_i b hb
     have can : ({ σ with tm := upd σ.tm d (.im (.bool b)) } : St) = σ := by rw [← hb, upd_self]
     have hop : opRun E rid ops i σ = if b = want then stepS E rid i o σ else some (σ.put o.dst (.tu []), []) := by
      rw [opRun, hi]; simp only [hg, hd, hb]
     cases b <;> cases want <;> simp only [cond_true, cond_false, can] at h
     ·obtain ⟨σ1, fp, h1, h2⟩ := stepK_run h
      exact go (by rw [hop, if_pos rfl]; exact h1) h2
     ·exact go (by rw [hop, if_neg (by simp)]) h
     ·exact go (by rw [hop, if_neg (by simp)]) h
     ·obtain ⟨σ1, fp, h1, h2⟩ := stepK_run h
      exact go (by rw [hop, if_pos rfl]; exact h1) h2
    ·rename_i hb
     have hop : opRun E rid ops i σ = some (σ.put o.dst (.tu []), []) := by
      rw [opRun, hi]; simp only [hg, hd, hb]
     exact go hop h
    ·cases h
theorem skipRep {vr : Nat → Nat} {β : Nat → Value} : RepV vr β (.tu []) undef := .tu (xs := #[]) rfl (fun i v x hv _ => by simp at hv)
theorem opRun_sound {i N : Nat} {σ σ1 : St} {fp : List (Bool × Nat)} {a : Act} (hP : E.P = P) (hS : SoundG P E) (hi : Inv X w FZ β N σ a) (hd : ∀ (i : Nat) (o : Oper) d, ops[i]? = some o → o.dst = some d → d < N)
  (h : opRun E rid ops i σ = some (σ1, fp)) {Q : Exit → Act → World → Prop} {K : Act → World → Prop} (k : ∀ β' FZ' w' a', Inv X w' FZ' β' N σ1 a' → Ext σ.objs β σ1.objs β' → Wd X FZ FZ' w w' → K a' w') : wpOp P ops Q i K a w := by
 unfold wpOp
 unfold opRun at h
 split at h
 ·cases h
 ·rename_i o ho
  simp only [ho]
  have hd' : ∀ d, o.dst = some d → d < N := fun d => hd i o d ho
  have step : stepS E rid i o σ = some (σ1, fp) → o.wp P a w K Q := by
   intro hs
   unfold stepS at hs
   rw [Option.map_eq_some_iff] at hs
   obtain ⟨r, hr, he⟩ := hs
   injection he with he _
   subst he
   exact op_sound hP hS hi hd' hr k
  split at h
  ·rename_i hg
   rw [if_pos (by simp [Region.wanted, hg])]
   exact .inl (step h)
  ·rename_i j want hg
   split at h
   ·cases h
   ·rename_i d hdj
    split at h
    ·rename_i b hb
     have hev := hi.tm d
     rw [hb] at hev
     have hev := rep_im hev
     have hy : yielded ops a.tmps j = some b := by
      unfold yielded
      rw [hdj]
      have hev : a.tmps.getD d undef = .bool b := hev
      by_cases hlt : d < a.tmps.size
      ·have : a.tmps[d]? = some (.bool b) := by
        rw [Array.getElem?_eq_getElem hlt]
        simp only [Array.getD, hlt, dif_pos] at hev
        exact congrArg some hev
       simp [this]
      ·simp [Array.getD, hlt, undef] at hev
     have hw : Region.wanted o (yielded ops a.tmps) = (b == want) := by
      simp only [Region.wanted, hg, hy]
      cases b <;> cases want <;> rfl
     by_cases hbw : b = want
     ·rw [if_pos hbw] at h
      rw [hw, hbw, if_pos (by simp)]
      exact .inl (step h)
     ·rw [if_neg hbw] at h
      have hne : (b == want) = false := by simpa using hbw
      rw [hw, hne, if_neg (by simp)]
      injection h with h
      injection h with h _
      subst h
      exact k β FZ w _ (hi.put hd' hi.ok (Ext.refl _ _) skipRep) (by rw [St.put_objs]; exact Ext.refl _ _) (Wd.refl _ _ _)
    ·rename_i hb
     have hev := hi.tm d
     rw [hb] at hev
     have hev : RepV (vers σ.objs) β (.tu []) (a.tmps.getD d undef) := hev
     have hun : a.tmps.getD d undef = .tuple #[] := by
      generalize a.tmps.getD d undef = y at hev
      cases hev with
      | @tu _ xs hl _ =>
       have : xs = #[] := Array.eq_empty_of_size_eq_zero hl.symm
       rw [this]
     have hy : yielded ops a.tmps j = none := by
      unfold yielded
      rw [hdj]
      by_cases hlt : d < a.tmps.size
      ·have : a.tmps[d]? = some (.tuple #[]) := by
        rw [Array.getElem?_eq_getElem hlt]
        simp only [Array.getD, hlt, dif_pos] at hun
        exact congrArg some hun
       simp [this]
      ·have : a.tmps[d]? = none := Array.getElem?_eq_none (Nat.le_of_not_lt hlt)
       simp [this]
     have hw : Region.wanted o (yielded ops a.tmps) = false := by
      simp only [Region.wanted, hg, hy]
      cases want <;> rfl
     rw [hw, if_neg (by simp)]
     injection h with h
     injection h with h _
     subst h
     exact k β FZ w _ (hi.put hd' hi.ok (Ext.refl _ _) skipRep) (by rw [St.put_objs]; exact Ext.refl _ _) (Wd.refl _ _ _)
    ·cases h
theorem chain_ops {F : Nat → List (Bool × Nat)} {l : List Nat} {N : Nat} {σ σ' : St} (hP : E.P = P) (hS : SoundG P E) (hd : ∀ (i : Nat) (o : Oper) d, ops[i]? = some o → o.dst = some d → d < N) (hc : Chain E rid ops F l σ σ') {Q : Exit → Act → World → Prop} :
  ∀ {w : World} {FZ : Nat → Prop} {β : Nat → Value} {a : Act}, Inv X w FZ β N σ a → (∀ β' FZ' w' a', Inv X w' FZ' β' N σ' a' → Ext σ.objs β σ'.objs β' → Wd X FZ FZ' w w' → Q .normal a' w') → wpOps P ops Q l a w := by
 induction hc with
 | nil => intro w FZ β a hi k; exact k β FZ w a hi (Ext.refl _ _) (Wd.refl _ _ _)
 | cons h _ ih =>
  intro w FZ β a hi k
  rw [wpOps_cons]
  exact opRun_sound hP hS hi hd h fun β' FZ' w' a' hi' xe wd => ih hi' fun β2 FZ2 w2 a2 hi2 xe2 wd2 => k β2 FZ2 w2 a2 hi2 (xe.trans xe2) (wd.trans wd2)
theorem St.put_comm (σ : St) {x y : Option Tmp} (v u : V) (h : ∀ d, x = some d → y ≠ some d) : (σ.put x v).put y u = (σ.put y u).put x v := by
 cases x with
 | none => rfl
 | some d =>
  cases y with
  | none => rfl
  | some e =>
   have hne : d ≠ e := fun he => h d rfl (he ▸ rfl)
   simp only [St.put]
   congr 1
   funext n
   by_cases e1 : n = d
   ·subst e1
    rw [upd_ne _ _ hne, upd_same, upd_same]
   ·by_cases e2 : n = e
    ·subst e2
     rw [upd_same, upd_ne _ _ e1, upd_same]
    ·rw [upd_ne _ _ e2, upd_ne _ _ e1, upd_ne _ _ e1, upd_ne _ _ e2]
theorem St.put_tm (σ : St) (x : Option Tmp) (v : V) {t : Nat} (h : x ≠ some t) : (σ.put x v).tm t = σ.tm t := by
 cases x with
 | none => rfl
 | some d => exact upd_ne _ _ fun e => h (by rw [e])
def looks (ops : Array Oper) (o : Oper) (t : Nat) : Prop := t ∈ (match o.guard with | some (j, _) => ((ops[j]?).bind (·.dst)).toList | none => []) ++ o.op.operands.toList.filterMap fun | .tmp t => some t | _ => none
theorem opRun_spec {i : Nat} {σ σ1 : St} {fp : List (Bool × Nat)} (h : opRun E rid ops i σ = some (σ1, fp)) :
  ∃ o, ops[i]? = some o ∧ ((∃ r, (stepH E (keyOf rid i) o σ.ev).run σ.objs [] = some r ∧ σ1 = ({ σ with objs := r.2.1 } : St).put o.dst r.1 ∧ fp = r.2.2 ∧
   ∀ τ : St, (∀ t, looks ops o t → τ.tm t = σ.tm t) → ∀ q, (stepH E (keyOf rid i) o σ.ev).run τ.objs [] = some q → opRun E rid ops i τ = some (({ τ with objs := q.2.1 } : St).put o.dst q.1, q.2.2)) ∨
   (σ1 = σ.put o.dst (.tu []) ∧ fp = [] ∧ ∀ τ : St, (∀ t, looks ops o t → τ.tm t = σ.tm t) → opRun E rid ops i τ = some (τ.put o.dst (.tu []), []))) := by
 unfold opRun at h
 split at h
 ·cases h
 ·rename_i o ho
  refine ⟨o, ho, ?_⟩
  have cong : ∀ τ : St, (∀ t, looks ops o t → τ.tm t = σ.tm t) → stepH E (keyOf rid i) o τ.ev = stepH E (keyOf rid i) o σ.ev := by
   intro τ ht
   refine stepH_congr fun x hx => ?_
   cases x with
   | tmp t =>
    refine ht t ?_
    unfold looks
    refine List.mem_append_right _ (List.mem_filterMap.2 ⟨.tmp t, by simpa using hx t rfl, rfl⟩)
   | const v => rfl
   | global g => rfl
   | func f => rfl
  split at h
  ·rename_i hg
   unfold stepS at h
   rw [Option.map_eq_some_iff] at h
   obtain ⟨r, hr, he⟩ := h
   injection he with he1 he2
   refine .inl ⟨r, hr, he1.symm, he2.symm, fun τ ht q hq => ?_⟩
   rw [opRun, ho]
   simp only [hg, stepS]
   rw [cong τ ht, hq]; rfl
  ·rename_i j want hg
   split at h
   ·cases h
   ·rename_i d hd
    split at h
    ·rename_i b hb
     have hl : looks ops o d := by
      unfold looks
      rw [hg]
      exact List.mem_append_left _ (by simp [hd])
     by_cases hbw : b = want
     ·rw [if_pos hbw] at h
      unfold stepS at h
      rw [Option.map_eq_some_iff] at h
      obtain ⟨r, hr, he⟩ := h
      injection he with he1 he2
      refine .inl ⟨r, hr, he1.symm, he2.symm, fun τ ht q hq => ?_⟩
      rw [opRun, ho]
      simp only [hg, hd, ht d hl, hb]
      rw [if_pos hbw, stepS, cong τ ht, hq]; rfl
     ·rw [if_neg hbw] at h
      injection h with h
      injection h with h1 h2
      refine .inr ⟨h1.symm, h2.symm, fun τ ht => ?_⟩
      rw [opRun, ho]
      simp only [hg, hd, ht d hl, hb]
      rw [if_neg hbw]
    ·rename_i hb
     have hl : looks ops o d := by
      unfold looks
      rw [hg]
      exact List.mem_append_left _ (by simp [hd])
     injection h with h
     injection h with h1 h2
     refine .inr ⟨h1.symm, h2.symm, fun τ ht => ?_⟩
     rw [opRun, ho]
     simp only [hg, hd, ht d hl, hb]
    ·cases h
theorem pairOk_spec {oi oj : Oper} {fi fj : List (Bool × Nat)} (h : pairOk ops oi oj fi fj = true) :
  (∀ d, oi.dst = some d → oj.dst ≠ some d ∧ ¬ looks ops oj d) ∧ (∀ d, oj.dst = some d → oi.dst ≠ some d ∧ ¬ looks ops oi d) ∧ fpApart fi fj = true := by
 have key : ∀ {x y : Oper}, (x.dst.toList.all fun d => !(tmpsOf ops y).any (Nat.beq d)) = true → ∀ d, x.dst = some d → y.dst ≠ some d ∧ ¬ looks ops y d := by
  intro x y h d hd
  rw [hd] at h
  simp only [Option.toList_some, List.all_cons, List.all_nil, Bool.and_true, Bool.not_eq_true', List.any_eq_false] at h
  have hn : d ∉ tmpsOf ops y := fun hm => by
   have := h d hm
   simp at this
  constructor
  ·intro e
   exact hn (by simp [tmpsOf, e])
  ·intro hl
   refine hn ?_
   unfold tmpsOf
   unfold looks at hl
   rw [List.append_assoc]
   exact List.mem_append_right _ hl
 simp only [pairOk, Bool.and_eq_true] at h
 exact ⟨key h.1.1, key h.1.2, h.2⟩
theorem opRun_swap {i j : Nat} {oi oj : Oper} {σ σ1 σ2 : St} {fi fj : List (Bool × Nat)} (hi : ops[i]? = some oi) (hj : ops[j]? = some oj) (h1 : opRun E rid ops j σ = some (σ1, fj)) (h2 : opRun E rid ops i σ1 = some (σ2, fi))
  (hp : pairOk ops oj oi fj fi = true) : ∃ τ, opRun E rid ops i σ = some (τ, fi) ∧ opRun E rid ops j τ = some (σ2, fj) := by
 obtain ⟨p1, p2, p3⟩ := pairOk_spec hp
 obtain ⟨oj', hj', a⟩ := opRun_spec h1
 obtain ⟨oi', hi', b⟩ := opRun_spec h2
 rw [hj] at hj'; obtain rfl := Option.some.inj hj'
 rw [hi] at hi'; obtain rfl := Option.some.inj hi'
 have hdj : ∀ {v : V} {o : Objs} {t : Nat}, looks ops oi t → (({ σ with objs := o } : St).put oj.dst v).tm t = σ.tm t := by
  intro v o t hl
  exact St.put_tm _ _ _ fun e => (p1 t e).2 hl
 have hdi : ∀ {v : V} {o : Objs} {t : Nat}, looks ops oj t → (({ σ with objs := o } : St).put oi.dst v).tm t = σ.tm t := by
  intro v o t hl
  exact St.put_tm _ _ _ fun e => (p2 t e).2 hl
 have hcomm : ∀ (o : Objs) (v u : V), (({ σ with objs := o } : St).put oj.dst v).put oi.dst u = (({ σ with objs := o } : St).put oi.dst u).put oj.dst v :=
  fun o v u => St.put_comm _ _ _ fun d e => (p1 d e).1
 have hobj : ∀ (τ : St) (x : Option Tmp) (v : V) (o : Objs), ({ τ.put x v with objs := o } : St) = ({ τ with objs := o } : St).put x v := by
  intro τ x v o; cases x <;> rfl
 rcases a with ⟨r, hr, rfl, rfl, ha⟩ | ⟨rfl, rfl, ha⟩ <;> rcases b with ⟨q, hq, rfl, rfl, hb⟩ | ⟨rfl, rfl, hb⟩
 ·-- both run
  rw [St.put_objs] at hq
  obtain ⟨t, t1, t2⟩ := run_swap hr hq p3
  have hbi := hb σ (fun t hl => (hdj hl).symm) _ t1
  refine ⟨_, hbi, ?_⟩
  have := ha (({ σ with objs := t } : St).put oi.dst q.1) (fun t hl => hdi hl) (r.1, q.2.1, r.2.2) (by rw [St.put_objs]; exact t2)
  rw [this, hobj, hobj, hcomm]
 ·have hbi := hb σ (fun t hl => (hdj hl).symm)
  refine ⟨_, hbi, ?_⟩
  have := ha (σ.put oi.dst (.tu [])) (fun t hl => hdi (o := σ.objs) hl) r (by rw [St.put_objs]; exact hr)
  rw [this, hobj, hcomm]
 ·rw [St.put_objs] at hq
  have hbi := hb σ (fun t hl => (hdj (o := σ.objs) hl).symm) q hq
  refine ⟨_, hbi, ?_⟩
  have := ha (({ σ with objs := q.2.1 } : St).put oi.dst q.1) (fun t hl => hdi hl)
  rw [this, hobj, hcomm]
 ·have hbi := hb σ (fun t hl => (hdj (o := σ.objs) hl).symm)
  refine ⟨_, hbi, ?_⟩
  have := ha (σ.put oi.dst (.tu [])) (fun t hl => hdi (o := σ.objs) hl)
  rw [this]
  exact congrArg (fun x => some (x, _)) (hcomm σ.objs (.tu []) (.tu [])).symm
theorem chain_front {F : Nat → List (Bool × Nat)} {i : Nat} {oi : Oper} (hi : ops[i]? = some oi) : ∀ (l1 : List Nat) {l2 : List Nat} {σ σ' : St}, Chain E rid ops F (l1 ++ i :: l2) σ σ' →
  (∀ j ∈ l1, ∀ oj, ops[j]? = some oj → pairOk ops oj oi (F j) (F i) = true) → ∃ τ, opRun E rid ops i σ = some (τ, F i) ∧ Chain E rid ops F (l1 ++ l2) τ σ'
 | [], l2, σ, σ', h, _ => by
  cases h with
  | cons h hs => exact ⟨_, h, hs⟩
 | j :: l1, l2, σ, σ', h, hp => by
  cases h with
  | cons h hs =>
   obtain ⟨τ, t1, t2⟩ := chain_front hi l1 hs fun k hk => hp k (List.mem_cons_of_mem _ hk)
   obtain ⟨oj, hj, _⟩ := opRun_spec h
   obtain ⟨τ', u1, u2⟩ := opRun_swap hi hj h t1 (hp j List.mem_cons_self oj hj)
   exact ⟨τ', u1, .cons u2 t2⟩
end Go.Vm
namespace Go.Vm
set_option linter.unusedVariables false
set_option linter.unusedSimpArgs false
variable {P : Program} {X : Cx} {FZ FZ' : Nat → Prop} {β β' : Nat → Value} {w w' : World} {E : Env} {rid : Nat} {ops : Array Oper}
theorem bindsA_eq (e : Edge) : Region.binds .any e = bindsA e := by
 unfold Region.binds bindsA
 cases e.ground <;> rfl
theorem ancs_snoc (l : List Oper) (o : Oper) : ancs (l ++ [o]) = ancs l ++ [(aftL o).flatMap fun e => e.on :: (ancs l).getD e.on []] := by
 simp [ancs, List.foldl_append]
theorem ancs_length (l : List Oper) : (ancs l).length = l.length := by
 have : ∀ (n : Nat) (l : List Oper), l.length = n → (ancs l).length = n := by
  intro n
  induction n with
  | zero => intro l h; obtain rfl := List.length_eq_zero_iff.1 h; rfl
  | succ n ih =>
   intro l h
   have hne : l ≠ [] := fun e => by subst e; cases h
   rw [← List.dropLast_concat_getLast hne, ancs_snoc, List.length_append, ih l.dropLast (by simp [h])]
   rfl
 exact this _ l rfl
theorem flatMap_congr' {α β : Type} {f g : α → List β} : ∀ (l : List α), (∀ x ∈ l, f x = g x) → l.flatMap f = l.flatMap g
 | [], _ => rfl
 | x :: l, h => by rw [List.flatMap_cons, List.flatMap_cons, h x (by simp), flatMap_congr' l fun y hy => h y (by simp [hy])]
theorem ancs_get (l : List Oper) : ∀ (k : Nat) (o : Oper), l[k]? = some o → (∀ e ∈ aftL o, e.on < k) → (ancs l).getD k [] = (aftL o).flatMap fun e => e.on :: (ancs l).getD e.on [] := by
 have : ∀ (n : Nat) (l : List Oper), l.length = n → ∀ (k : Nat) (o : Oper), l[k]? = some o → (∀ e ∈ aftL o, e.on < k) → (ancs l).getD k [] = (aftL o).flatMap fun e => e.on :: (ancs l).getD e.on [] := by
  intro n
  induction n with
  | zero => intro l h k o hk; obtain rfl := List.length_eq_zero_iff.1 h; simp at hk
  | succ n ih =>
   intro l h k o hk he
   have hne : l ≠ [] := fun e => by subst e; cases h
   have hl := List.dropLast_concat_getLast hne
   have hlen : l.dropLast.length = n := by simp [h]
   have key : ∀ j, j < n → (ancs l).getD j [] = (ancs l.dropLast).getD j [] := by
    intro j hj
    rw [← hl, ancs_snoc, List.getD_eq_getElem?_getD, List.getD_eq_getElem?_getD, List.getElem?_append_left (by rw [ancs_length, hlen]; exact hj), List.dropLast_concat]
   have hkl := (List.getElem?_eq_some_iff.1 hk).1
   by_cases hkn : k < n
   ·have hk2 : l.dropLast[k]? = some o := by
     rw [← hl, List.getElem?_append_left (by omega)] at hk
     exact hk
    rw [key k hkn, ih l.dropLast hlen k o hk2 he]
    refine flatMap_congr' _ fun e hm => ?_
    rw [key e.on (Nat.lt_trans (he e hm) hkn)]
   ·have hkn : k = n := by omega
    subst hkn
    have ho : l.getLast hne = o := by
     rw [← hl, List.getElem?_append_right (by omega), hlen, Nat.sub_self] at hk
     simpa using hk
    have h1 : (ancs l).getD k [] = (aftL o).flatMap fun e => e.on :: (ancs l.dropLast).getD e.on [] := by
     rw [← hl, ancs_snoc, List.getD_eq_getElem?_getD, List.getElem?_append_right (by rw [ancs_length]; omega), ancs_length, hlen, Nat.sub_self, List.dropLast_concat, ho]
     rfl
    rw [h1]
    refine flatMap_congr' _ fun e hm => ?_
    rw [key e.on (he e hm)]
 exact this _ l rfl
structure Drw (ops : Array Oper) (F : Nat → List (Bool × Nat)) : Prop where
 low : ∀ (i : Nat) (o : Oper), ops[i]? = some o → ∀ e ∈ aftL o, e.on < i ∧ Region.binds .any e = true
 pair : ∀ (i j : Nat) (oi oj : Oper), ops[i]? = some oi → ops[j]? = some oj → i < j → i ∈ (ancs ops.toList).getD j [] ∨ pairOk ops oi oj (F i) (F j) = true
theorem mem_zipIdx' {α : Type} {xs : List α} {i : Nat} {x : α} (h : xs[i]? = some x) : (x, i) ∈ xs.zipIdx := by
 rw [List.mem_zipIdx_iff_getElem?]; exact h
theorem ancM_sound (ops : List Oper) : ∀ k i, ((ancM ops).getD k 0).testBit i = true → i ∈ (ancs ops).getD k [] := by
 have inner : ∀ (acc : List (List Nat)) (acc' : List Nat), (∀ k i, (acc'.getD k 0).testBit i = true → i ∈ acc.getD k []) → ∀ (es : List Edge) (m i : Nat),
   (es.foldl (fun m e => (m ||| 1 <<< e.on) ||| acc'.getD e.on 0) m).testBit i = true → m.testBit i = true ∨ i ∈ es.flatMap fun e => e.on :: acc.getD e.on [] := by
  intro acc acc' H es
  induction es with
  | nil => intro m i h; exact .inl h
  | cons e es ih =>
   intro m i h
   rw [List.foldl_cons] at h
   rcases ih _ i h with h | h
   ·rw [Nat.testBit_or, Nat.testBit_or, Bool.or_eq_true, Bool.or_eq_true] at h
    rcases h with (h | h) | h
    ·exact .inl h
    ·right
     rw [Nat.one_shiftLeft, Nat.testBit_two_pow] at h
     have : e.on = i := of_decide_eq_true h
     subst this
     simp
    ·right
     rw [List.flatMap_cons]
     exact List.mem_append_left _ (List.mem_cons_of_mem _ (H _ _ h))
   ·right
    rw [List.flatMap_cons]
    exact List.mem_append_right _ h
 have key : ∀ (os : List Oper) (acc : List (List Nat)) (acc' : List Nat), acc.length = acc'.length → (∀ k i, (acc'.getD k 0).testBit i = true → i ∈ acc.getD k []) → ∀ k i,
   ((os.foldl (fun acc o => acc ++ [(aftL o).foldl (fun m e => (m ||| 1 <<< e.on) ||| acc.getD e.on 0) 0]) acc').getD k 0).testBit i = true →
   i ∈ (os.foldl (fun acc o => acc ++ [((aftL o).flatMap fun e => e.on :: acc.getD e.on [])]) acc).getD k [] := by
  intro os
  induction os with
  | nil => intro acc acc' _ H; exact H
  | cons o os ih =>
   intro acc acc' hl H
   rw [List.foldl_cons, List.foldl_cons]
   refine ih _ _ (by simp [hl]) fun k i h => ?_
   rw [List.getD_eq_getElem?_getD] at h ⊢
   rcases Nat.lt_trichotomy k acc.length with hk | hk | hk
   ·rw [List.getElem?_append_left (by omega)] at h ⊢
    rw [← List.getD_eq_getElem?_getD] at h ⊢
    exact H k i h
   ·subst hk
    rw [List.getElem?_append_right (Nat.le_refl _), Nat.sub_self]
    rw [hl, List.getElem?_append_right (Nat.le_refl _), Nat.sub_self] at h
    simp only [List.getElem?_cons_zero, Option.getD_some] at h ⊢
    rcases inner acc acc' H _ _ _ h with h | h
    ·simp at h
    ·exact h
   ·rw [List.getElem?_eq_none (by simp; omega)] at h
    simp at h
 exact key ops [] [] rfl (fun k i h => by simp at h)
theorem drawPairs_spec {am : List Nat} {ok : Oper → Nat → Oper → Nat → Bool} (h : drawPairs ops am ok = true) {i j : Nat} {oi oj : Oper} (hi : ops[i]? = some oi) (hj : ops[j]? = some oj) (hlt : i < j) :
  (am.getD j 0).testBit i = true ∨ ok oi i oj j = true := by
 unfold drawPairs at h
 dsimp only at h
 have h1 := List.all_eq_true.1 h (oj, j) (mem_zipIdx' (by simpa using hj))
 have h2 := List.all_eq_true.1 h1 (oi, i) (mem_zipIdx' (by simpa using hi))
 have hb : Nat.blt i j = true := by simpa [Nat.blt_eq] using hlt
 simp only [hb, Bool.not_true, Bool.false_or, Bool.or_eq_true] at h2
 exact h2
theorem drawOk_spec {rec : Rec} (h : drawOk ops rec = true) : Drw ops (recOf rec) := by
 unfold drawOk at h
 rw [Bool.and_eq_true] at h
 obtain ⟨hs, hd⟩ := h
 unfold drawStatic at hs
 rw [Bool.and_eq_true] at hs
 refine ⟨fun i o ho e he => ?_, fun i j oi oj hi hj hlt => ?_⟩
 ·have h1 := List.all_eq_true.1 hs.1 (o, i) (mem_zipIdx' (by simpa using ho))
  have h2 := List.all_eq_true.1 h1 e he
  exact ⟨by simpa [Nat.blt_eq] using h2, (bindsA_eq e).symm ▸ (List.mem_filter.1 he).2⟩
 ·rcases drawPairs_spec hs.2 hi hj hlt with h1 | h1
  ·exact .inl (ancM_sound _ _ _ h1)
  ·rw [Bool.or_eq_true] at hd
   have hf : ((ancM ops.toList).getD j 0).testBit i = true ∨ fpApart (recOf rec i) (recOf rec j) = true := by
    rcases hd with hd | hd
    ·right
     have key : ∀ k, ∀ x ∈ recOf rec k, x.1 = false := by
      intro k x hx
      unfold recOf at hx
      cases hf : rec.find? (fun x => Nat.beq x.1 k) with
      | none => rw [hf] at hx; simp at hx
      | some y =>
       rw [hf] at hx
       have hy := List.mem_of_find?_eq_some hf
       have h2 := List.all_eq_true.1 (List.all_eq_true.1 hd y hy) x (by simpa using hx)
       simpa using h2
     unfold fpApart
     refine List.all_eq_true.2 fun x hx => List.all_eq_true.2 fun y hy => ?_
     rw [key i x hx, key j y hy]; simp
    ·exact drawPairs_spec hd hi hj hlt
   rcases hf with hf | hf
   ·exact .inl (ancM_sound _ _ _ hf)
   ·right
    unfold pairOk
    rw [h1, hf]; rfl
theorem anc_listed {F : Nat → List (Bool × Nat)} (hD : Drw ops F) {L : Nat → Prop} (hc : ∀ (k : Nat) (o : Oper), ops[k]? = some o → L k → ∀ e ∈ aftL o, L e.on) :
  ∀ (k : Nat) (o : Oper), ops[k]? = some o → (∀ e ∈ aftL o, L e.on) → ∀ x ∈ (ancs ops.toList).getD k [], L x := by
 intro k
 induction k using Nat.strongRecOn with
 | _ k ih =>
  intro o ho hl x hx
  rw [ancs_get ops.toList k o (by simpa using ho) fun e he => (hD.low k o ho e he).1] at hx
  obtain ⟨e, he, hx⟩ := List.mem_flatMap.1 hx
  rcases List.mem_cons.1 hx with rfl | hx
  ·exact hl e he
  ·have hlt := (hD.low k o ho e he).1
   have hks := (Array.getElem?_eq_some_iff.1 ho).1
   exact ih e.on hlt ops[e.on] (Array.getElem?_eq_getElem (by omega)) (hc e.on _ (Array.getElem?_eq_getElem (by omega)) (hl e he)) x hx
theorem any_sound {F : Nat → List (Bool × Nat)} {N : Nat} {σ' : St} {Q : Exit → Act → World → Prop} (hP : E.P = P) (hS : SoundG P E) (hd : ∀ (i : Nat) (o : Oper) d, ops[i]? = some o → o.dst = some d → d < N) (hD : Drw ops F) :
  ∀ (fuel : Nat) (listed : Array Bool) (l : List Nat) (σ : St) {w : World} {FZ : Nat → Prop} {β : Nat → Value} {a : Act}, l = (List.range ops.size).filter (fun i => !listed.getD i true) → listed.size = ops.size →
   (∀ (k : Nat) (o : Oper), ops[k]? = some o → listed.getD k false = true → ∀ e ∈ aftL o, listed.getD e.on false = true) → l.length ≤ fuel →
   Chain E rid ops F l σ σ' → Inv X w FZ β N σ a → (∀ β' FZ' w' a', Inv X w' FZ' β' N σ' a' → Ext σ.objs β σ'.objs β' → Wd X FZ FZ' w w' → Q .normal a' w') → wpAny P .any ops Q fuel listed a w := by
 have listedOf : ∀ {listed : Array Bool} {i : Nat}, listed.size = ops.size → i < ops.size → (listed.getD i true = false ∨ listed.getD i false = true) := by
  intro listed i hs hi
  have : i < listed.size := by omega
  simp only [Array.getD, this, dif_pos]
  cases listed[i] <;> simp
 intro fuel
 induction fuel with
 | zero =>
  intro listed l σ w FZ β a hl hs hc hlen hch hi k
  have hl0 : l = [] := List.length_eq_zero_iff.1 (by omega)
  subst hl0
  cases hch
  refine ⟨?_, k β FZ w a hi (Ext.refl _ _) (Wd.refl _ _ _)⟩
  refine List.eq_nil_iff_forall_not_mem.2 fun j hj => ?_
  obtain ⟨h0, o, ho, _⟩ := mem_ready.1 hj
  have : j ∈ (List.range ops.size).filter (fun i => !listed.getD i true) := List.mem_filter.2 ⟨List.mem_range.2 (Array.getElem?_eq_some_iff.1 ho).1, by rw [h0]; rfl⟩
  rw [← hl] at this
  cases this
 | succ fuel ih =>
  intro listed l σ w FZ β a hl hs hc hlen hch hi k
  have hsort : l.Pairwise (· < ·) := by rw [hl]; exact List.Pairwise.filter _ List.pairwise_lt_range
  have memL : ∀ {j}, j ∈ l ↔ j < ops.size ∧ listed.getD j true = false := by
   intro j
   rw [hl, List.mem_filter, List.mem_range]
   cases listed.getD j true <;> simp
  refine ⟨fun hr => ?_, fun i hri => ?_⟩
  ·cases l with
   | nil => cases hch; exact k β FZ w a hi (Ext.refl _ _) (Wd.refl _ _ _)
   | cons i0 l' =>
    exfalso
    obtain ⟨h1, h2⟩ := memL.1 List.mem_cons_self
    have hm : i0 ∈ Region.ready .any ops listed := mem_ready.2 ⟨h2, ops[i0], Array.getElem?_eq_getElem h1, fun e he hb => by
     have he' : e ∈ aftL (ops[i0]) := List.mem_filter.2 ⟨by simpa using he, bindsA_eq e ▸ hb⟩
     have hlt := (hD.low i0 _ (Array.getElem?_eq_getElem h1) e he').1
     rcases listedOf hs (show e.on < ops.size by omega) with h3 | h3
     ·have : e.on ∈ i0 :: l' := memL.2 ⟨by omega, h3⟩
      rcases List.mem_cons.1 this with h4 | h4
      ·omega
      ·have := (List.pairwise_cons.1 hsort).1 _ h4
       omega
     ·exact h3⟩
    rw [hr] at hm
    cases hm
  ·obtain ⟨h0, oi, hoi, hall⟩ := mem_ready.1 hri
   have hisz := (Array.getElem?_eq_some_iff.1 hoi).1
   have hil : i ∈ l := memL.2 ⟨hisz, h0⟩
   obtain ⟨l1, l2, rfl⟩ := List.append_of_mem hil
   have haft : ∀ e ∈ aftL oi, listed.getD e.on false = true := fun e he => hall e (by simpa using (List.mem_filter.1 he).1) (hD.low i oi hoi e he).2
   have hp := List.pairwise_append.1 hsort
   have hp2 := List.pairwise_cons.1 hp.2.1
   obtain ⟨τ, t1, t2⟩ := chain_front hoi l1 hch fun j hj oj hoj => by
    have hji : j < i := hp.2.2 j hj i List.mem_cons_self
    rcases hD.pair j i oj oi hoj hoi hji with h5 | h5
    ·exfalso
     have h6 := anc_listed hD (L := fun k => listed.getD k false = true) hc i oi hoi haft j h5
     obtain ⟨h7, h8⟩ := memL.1 (List.mem_append_left _ hj)
     have : j < listed.size := by omega
     simp only [Array.getD, this, dif_pos] at h6 h8
     rw [h6] at h8; cases h8
    ·exact h5
   refine opRun_sound hP hS hi hd t1 fun β' FZ' w' a' hi' xe wd => ?_
   refine ih (listed.setIfInBounds i true) (l1 ++ l2) τ ?_ (by simpa using hs) ?_ ?_ t2 hi' fun β2 FZ2 w2 a2 hi2 xe2 wd2 => k β2 FZ2 w2 a2 hi2 (xe.trans xe2) (wd.trans wd2)
   ·have e1 : (List.range ops.size).filter (fun j => !(listed.setIfInBounds i true).getD j true) = ((List.range ops.size).filter (fun j => !listed.getD j true)).filter fun j => decide (j ≠ i) := by
     rw [List.filter_filter]
     refine List.filter_congr fun j hj => ?_
     by_cases hji : i = j
     ·subst hji
      have : i < listed.size := by omega
      simp [this]
     ·rw [getD_set_ne true hji]
      have : ¬ j = i := fun e => hji e.symm
      simp [this]
    rw [e1, ← hl, List.filter_append, List.filter_cons, if_neg (by simp)]
    rw [List.filter_eq_self.2 fun j hj => by
     have : j < i := hp.2.2 j hj i List.mem_cons_self
     simp; omega, List.filter_eq_self.2 fun j hj => by
     have : i < j := hp2.1 j hj
     simp; omega]
   ·intro k' o ho hlk e he
    by_cases hki : i = k'
    ·subst hki
     rw [hoi] at ho
     obtain rfl := Option.some.inj ho
     exact getD_set_true (haft e he)
    ·rw [getD_set_ne false hki] at hlk
     exact getD_set_true (hc k' o ho hlk e he)
   ·simp only [List.length_append, List.length_cons] at hlen ⊢
    omega
end Go.Vm
namespace Go.Vm
set_option linter.unusedVariables false
set_option linter.unusedSimpArgs false
variable {P : Program} {X : Cx} {FZ FZ' : Nat → Prop} {β β' : Nat → Value} {w w' : World} {E : Env} {rid : Nat} {ops : Array Oper} {s s' : Objs}
theorem mem_idsVs {vs : List V} {id : Nat} : id ∈ idsVs vs ↔ ∃ v ∈ vs, id ∈ idsV v := by
 induction vs with
 | nil => simp [idsVs]
 | cons v vs ih => simp [idsVs, ih]
theorem RepV.alive {vr : Nat → Nat} {v : V} {x : Value} (h : RepV vr β v x) : ∀ id ∈ idsV v, 1 ≤ vr id := by
 have many : ∀ {vs : List V} {xs : Array Value}, vs.length = xs.size → (∀ (i : Nat) (v : V) (x : Value), vs[i]? = some v → xs[i]? = some x → ∀ id ∈ idsV v, 1 ≤ vr id) → ∀ id ∈ idsVs vs, 1 ≤ vr id := by
  intro vs xs hl ih id hid
  obtain ⟨v, hv, hid⟩ := mem_idsVs.1 hid
  obtain ⟨i, hi⟩ := List.mem_iff_getElem?.1 hv
  have hlt := (List.getElem?_eq_some_iff.1 hi).1
  exact ih i v xs[i] hi (Array.getElem?_eq_getElem (by omega)) id hid
 induction h with
 | im => intro id hid; simp [idsV] at hid
 | nl => intro id hid; simp [idsV] at hid
 | sl0 _ hv h => intro id hid; simp only [idsV, List.mem_singleton] at hid; subst hid; exact hv
 | se hv h => intro id hid; simp only [idsV, List.mem_singleton] at hid; subst hid; exact hv
 | sl hv h => intro id hid; simp only [idsV, List.mem_singleton] at hid; subst hid; exact hv
 | ptb hv h => intro id hid; simp only [idsV, List.mem_singleton] at hid; subst hid; exact hv
 | pts hv h => intro id hid; simp only [idsV, List.mem_singleton] at hid; subst hid; exact hv
 | ag hl hf _ ih => exact many hl ih
 | tu hl _ ih => exact many hl ih
 | fn hl _ ih => exact many hl ih
 | mp hv h => intro id hid; simp only [idsV, List.mem_singleton] at hid; subst hid; exact hv
 | no => intro id hid; simp [idsV] at hid
theorem RepV.down {vr vr' : Nat → Nat} {v : V} {x : Value} (h : RepV vr' β v x) : (∀ id ∈ idsV v, 1 ≤ vr id) → RepV vr β v x := by
 have sub : ∀ {vs : List V} {i : Nat} {v : V}, vs[i]? = some v → ∀ id ∈ idsV v, id ∈ idsVs vs := fun hi id hid => mem_idsVs.2 ⟨_, List.mem_of_getElem? hi, hid⟩
 induction h with
 | im h => exact fun _ => .im h
 | nl => exact fun _ => .nl
 | sl0 hz hv h => exact fun ha => .sl0 hz (ha _ (by simp [idsV])) h
 | se hv h => exact fun ha => .se (ha _ (by simp [idsV])) h
 | sl hv h h1 h2 h3 h4 h5 => exact fun ha => .sl (ha _ (by simp [idsV])) h h1 h2 h3 h4 h5
 | ptb hv h => exact fun ha => .ptb (ha _ (by simp [idsV])) h
 | pts hv h hi => exact fun ha => .pts (ha _ (by simp [idsV])) h hi
 | ag hl hf _ ih => exact fun ha => .ag hl hf fun i v x hv hx => ih i v x hv hx fun id hid => ha id (sub hv id hid)
 | tu hl _ ih => exact fun ha => .tu hl fun i v x hv hx => ih i v x hv hx fun id hid => ha id (sub hv id hid)
 | fn hl _ ih => exact fun ha => .fn hl fun i v x hv hx => ih i v x hv hx fun id hid => ha id (sub hv id hid)
 | mp hv h => exact fun ha => .mp (ha _ (by simp [idsV])) h
 | no => exact fun _ => .no
theorem OK.forget (h' : OK X w' FZ' β' s' []) (h0 : OK X w FZ β s []) (hs : ∀ i, (s i).o ≠ none → s' i = s i) : OK X w' FZ' β' s [] := by
 have same : ∀ {id o}, (s id).o = some o → s' id = s id := fun ho => hs _ (by rw [ho]; simp)
 have up : ∀ u b, Bl w' β' s [] u b → Bl w' β' s' [] u b := by
  rintro (id | k) b ⟨o, ho, hb⟩
  ·exact ⟨o, by rw [same ho]; exact ho, hb⟩
  ·simp at ho
 refine ⟨fun id o ho => ?_, fun k p hk => by simp at hk, fun u u' b hne h1 h2 => h'.apart u u' b hne (up u b h1) (up u' b h2), fun u b h1 => h'.sep u b (up u b h1), h'.ro, h'.fz, h'.n0, h0.live, h'.gl⟩
 have hr := h'.rep id o (by rw [same ho]; exact ho)
 have hr0 := h0.rep id o ho
 cases o with
 | box ro cells =>
  obtain ⟨b, c, q1, q2, q3, q4, q5⟩ := hr
  obtain ⟨b0, c0, _, _, r3, r4, _⟩ := hr0
  refine ⟨b, c, q1, q2, q3, fun j v x hv hx => ⟨(q4 j v x hv hx).1.down ?_, (q4 j v x hv hx).2⟩, q5⟩
  have hj := (List.getElem?_eq_some_iff.1 hv).1
  exact (r4 j v c0[j] hv (Array.getElem?_eq_getElem (by omega))).1.alive
 | rows f sz rs => exact hr
 | mp kf vf rs => exact hr
 | link x ver i j =>
  refine ⟨hr0.1, hr0.2.1, fun e f sz rs hx => ?_⟩
  have := same hx
  exact hr.2.2 (by rw [this]; exact e) f sz rs (by rw [this]; exact hx)
theorem stepS_spec {i : Nat} {o : Oper} {σ σ1 : St} {fp : List (Bool × Nat)} (h : stepS E rid i o σ = some (σ1, fp)) :
  Fr σ.objs σ1.objs ∧ (∀ t, o.dst ≠ some t → σ1.tm t = σ.tm t) ∧ ∀ x, (true, x) ∉ fp → σ1.objs x = σ.objs x := by
 unfold stepS at h
 rw [Option.map_eq_some_iff] at h
 obtain ⟨r, hr, he⟩ := h
 injection he with he1 he2
 subst he1 he2
 rw [St.put_objs]
 refine ⟨(Bumps.stepH E _ o _).fr hr, fun t ht => St.put_tm _ _ _ ht, fun x hx => ?_⟩
 obtain ⟨δ, d1, d2, _⟩ := run_local _ hr
 rw [List.append_nil] at d1
 rw [d1] at hx
 exact d2 x hx
theorem opRun_keeps {i : Nat} {σ σ1 : St} {fp : List (Bool × Nat)} (h : opRun E rid ops i σ = some (σ1, fp)) :
  Fr σ.objs σ1.objs ∧ (∀ t, t ∉ ops.toList.filterMap (·.dst) → σ1.tm t = σ.tm t) ∧ ∀ x, (true, x) ∉ fp → σ1.objs x = σ.objs x := by
 unfold opRun at h
 split at h
 ·cases h
 ·rename_i o ho
  have hdst : ∀ t, t ∉ ops.toList.filterMap (·.dst) → o.dst ≠ some t := fun t ht e => ht (List.mem_filterMap.2 ⟨o, by simpa using Array.mem_of_getElem? ho, e⟩)
  have step : stepS E rid i o σ = some (σ1, fp) → Fr σ.objs σ1.objs ∧ (∀ t, t ∉ ops.toList.filterMap (·.dst) → σ1.tm t = σ.tm t) ∧ ∀ x, (true, x) ∉ fp → σ1.objs x = σ.objs x := fun hs => by
   obtain ⟨a, b, c⟩ := stepS_spec hs
   exact ⟨a, fun t ht => b t (hdst t ht), c⟩
  split at h
  ·exact step h
  ·split at h
   ·cases h
   ·split at h
    ·rename_i b hb
     split at h
     ·exact step h
     ·injection h with h
      injection h with h1 h2
      subst h1
      rw [St.put_objs]
      exact ⟨Fr.refl _, fun t ht => St.put_tm _ _ _ (hdst t ht), fun _ _ => rfl⟩
    ·injection h with h
     injection h with h1 h2
     subst h1
     rw [St.put_objs]
     exact ⟨Fr.refl _, fun t ht => St.put_tm _ _ _ (hdst t ht), fun _ _ => rfl⟩
    ·cases h
theorem Chain.keeps {F : Nat → List (Bool × Nat)} {l : List Nat} {σ σ' : St} (h : Chain E rid ops F l σ σ') :
  Fr σ.objs σ'.objs ∧ (∀ t, t ∉ ops.toList.filterMap (·.dst) → σ'.tm t = σ.tm t) ∧ ∀ x, (∀ i ∈ l, (true, x) ∉ F i) → σ'.objs x = σ.objs x := by
 induction h with
 | nil => exact ⟨Fr.refl _, fun _ _ => rfl, fun _ _ => rfl⟩
 | cons h _ ih =>
  obtain ⟨a, b, c⟩ := opRun_keeps h
  obtain ⟨a', b', c'⟩ := ih
  exact ⟨a.trans a', fun t ht => (b' t ht).trans (b t ht), fun x hx => (c' x fun i hi => hx i (List.mem_cons_of_mem _ hi)).trans (c x (hx _ List.mem_cons_self))⟩
theorem impo_objs : ∀ (ds : List (Nat × Kd)) (σ : St) (f : Nat → Value) (m : Nat), (impo σ ds f m).objs = σ.objs
 | [], σ, f, m => rfl
 | (d, k) :: r, σ, f, m => by rw [impo, impo_objs r]
theorem impo_tm : ∀ (ds : List (Nat × Kd)) (σ : St) (f : Nat → Value) (m : Nat) (t : Nat), t ∉ ds.map (·.1) → (impo σ ds f m).tm t = σ.tm t
 | [], σ, f, m, t, _ => rfl
 | (d, k) :: r, σ, f, m, t, h => by
  rw [List.map_cons, List.mem_cons] at h
  rw [impo, impo_tm r _ f (m + 1) t fun hm => h (.inr hm)]
  exact upd_ne _ _ fun e => h (.inl e)
theorem impo_rep {vr : Nat → Nat} {t : Nat} {y : Value} : ∀ (ds : List (Nat × Kd)) (σ : St) (f : Nat → Value) (m : Nat), RepV vr β (σ.tm t) y → (∀ i d k, ds[i]? = some (d, k) → d = t → RepV vr β (.im (etaV k (f (m + i)))) y) →
  RepV vr β ((impo σ ds f m).tm t) y
 | [], σ, f, m, h, _ => h
 | (d, k) :: r, σ, f, m, h, hd => by
  rw [impo]
  refine impo_rep r _ f (m + 1) ?_ fun i d' k' hi he => by rw [show m + 1 + i = m + (i + 1) by omega]; exact hd (i + 1) d' k' (by simpa using hi) he
  show RepV vr β (upd σ.tm d _ t) y
  by_cases e : t = d
  ·subst e; rw [upd_same]; exact hd 0 t k rfl rfl
  ·rw [upd_ne _ _ e]; exact h
theorem expo_get : ∀ (ds : List (Nat × Kd)) (σ : St) (i d : Nat) (k : Kd), ds[i]? = some (d, k) → (expo σ ds)[i]? = some (match σ.tm d with | .im v => v | _ => undef)
 | [], σ, i, d, k, h => by simp at h
 | (d0, k0) :: r, σ, 0, d, k, h => by
  simp only [List.getElem?_cons_zero, Option.some.injEq, Prod.mk.injEq] at h
  obtain ⟨rfl, rfl⟩ := h
  rfl
 | (d0, k0) :: r, σ, i + 1, d, k, h => by
  rw [expo, List.getElem?_cons_succ]
  exact expo_get r σ i d k (by simpa using h)
theorem okV_get : ∀ (ds : List (Nat × Kd)) (f : Nat → Value) (m : Nat), okV ds f m = true → ∀ i d k, ds[i]? = some (d, k) → Value.okK k (f (m + i)) = true
 | [], f, m, _, i, d, k, h => by simp at h
 | (d0, k0) :: r, f, m, ho, 0, d, k, h => by
  simp only [List.getElem?_cons_zero, Option.some.injEq, Prod.mk.injEq] at h
  obtain ⟨rfl, rfl⟩ := h
  rw [okV, Bool.and_eq_true, okVl_eq] at ho
  exact ho.1
 | (d0, k0) :: r, f, m, ho, i + 1, d, k, h => by
  rw [okV, Bool.and_eq_true] at ho
  rw [show m + (i + 1) = m + 1 + i by omega]
  exact okV_get r f (m + 1) ho.2 i d k (by simpa using h)
theorem etaV_eq {k : Kd} {v : Value} (h : Value.okK k v = true) : etaV k v = v := by
 cases k <;> cases v <;> simp_all [Value.okK, etaV, iV_eq, bV_eq, sV_eq, Value.asInt, Value.asB, Value.asS]
theorem meet_sub {post : List Nat} {ds : List (Nat × Kd)} (h : meetTys P post ops.toList = some ds) : ∀ d k, (d, k) ∈ ds → d ∈ ops.toList.filterMap (·.dst) := by
 intro d k hd
 unfold meetTys at h
 cases hg : (ops.toList.any fun o => o.guard.isSome) with
 | false => rw [hg] at h; cases h
 | true =>
  rw [hg, cond_true] at h
  dsimp only at h
  rw [cond_eq_ite] at h
  split at h
  ·obtain rfl := Option.some.inj h
   obtain ⟨x, hx, hxe⟩ := List.mem_filterMap.1 hd
   obtain ⟨o, ho, hoe⟩ := List.mem_filterMap.1 hx
   refine List.mem_filterMap.2 ⟨o, ho, ?_⟩
   cases hdst : o.dst with
   | none => rw [hdst] at hoe; cases hoe
   | some d' =>
    rw [hdst] at hoe
    simp only [cond_eq_ite] at hoe
    split at hoe
    ·obtain rfl := Option.some.inj hoe
     simp only at hxe
     split at hxe
     ·have := Option.some.inj hxe
      injection this with this
      rw [this]
     ·cases hxe
    ·cases hoe
  ·cases h
theorem numbered_fst (ops : Array Oper) : (numbered ops).map (·.1) = List.range ops.size := by
 simp only [numbered, List.map_map]
 have : ((fun x : Nat × Oper => x.1) ∘ fun x : Oper × Nat => (x.2, x.1)) = Prod.snd := rfl
 rw [this, List.zipIdx_map_snd, List.range_eq_range', Array.length_toList]
theorem numbered_get (ops : Array Oper) : ∀ x ∈ numbered ops, ops[x.1]? = some x.2 := by
 intro x hx
 obtain ⟨y, hy, rfl⟩ := List.mem_map.1 hx
 have := List.mem_zipIdx_iff_getElem?.1 hy
 simpa using this
theorem freshW_spec {objs : Objs} {rec : Rec} (h : freshW objs rec = true) (j x : Nat) (hx : (objs x).o ≠ none) : (true, x) ∉ recOf rec j := by
 intro hm
 unfold recOf at hm
 cases hf : rec.find? fun x => Nat.beq x.1 j with
 | none => rw [hf] at hm; simp at hm
 | some y =>
  rw [hf] at hm
  have hy := List.mem_of_find?_eq_some hf
  have h1 := List.all_eq_true.1 (List.all_eq_true.1 h y hy) (true, x) (by simpa using hm)
  simp only [Bool.not_true, Bool.false_or, Option.isNone_iff_eq_none] at h1
  exact hx h1
theorem region_sound {γ : Type} {rid' : Nat} {post : List Nat} {draw : Bool} {N : Nat} {σ : St} {a : Act} {k : St → Option γ} {r : γ} {Q : Exit → Act → World → Prop} (hP : E.P = P) (hM : P.follows .mixedOrders = true) (hS : SoundG P E)
  (hd : ∀ d ∈ ops.toList.filterMap (·.dst), d < N) (hi : Inv X w FZ β N σ a) (h : runRegion E post rid ops draw σ k = some r)
  (K : ∀ σ' β' FZ' w' a', k σ' = some r → Inv X w' FZ' β' N σ' a' → Ext σ.objs β σ'.objs β' → Wd X FZ FZ' w w' → Fr σ.objs σ'.objs → (∀ t, t ∉ ops.toList.filterMap (·.dst) → σ'.tm t = σ.tm t) → Q .normal a' w') :
  (Code.region rid' ops draw).wp P Q a w := by
 have hd' : ∀ (i : Nat) (o : Oper) d, ops[i]? = some o → o.dst = some d → d < N := fun i o d ho e => hd d (List.mem_filterMap.2 ⟨o, by simpa using Array.mem_of_getElem? ho, e⟩)
 have key : ∀ {δ : Type} {k2 : St → Rec → Option δ} {r2 : δ}, runOps E rid ops (numbered ops) σ [] (fun σ' rec => bif !draw || drawOk ops rec then k2 σ' rec else none) = some r2 →
   ∃ σ' rec, Chain E rid ops (recOf rec) (List.range ops.size) σ σ' ∧ k2 σ' rec = some r2 ∧
   ∀ {Q : Exit → Act → World → Prop}, (∀ β' FZ' w' a', Inv X w' FZ' β' N σ' a' → Ext σ.objs β σ'.objs β' → Wd X FZ FZ' w w' → Q .normal a' w') → (Code.region rid' ops draw).wp P Q a w := by
  intro δ k2 r2 h
  obtain ⟨σ', rec, c1, _, c3⟩ := runOps_chain _ (numbered_get ops) (by rw [numbered_fst]; exact List.nodup_range) h
  rw [numbered_fst] at c1
  have ch := c1 (recOf rec) fun _ _ => rfl
  cases hb : (!draw || drawOk ops rec) with
  | false => rw [hb] at c3; cases c3
  | true =>
   rw [hb, cond_true] at c3
   refine ⟨σ', rec, ch, c3, fun {Q} hQ => ?_⟩
   cases draw with
   | false => exact wp_region (chain_ops hP hS hd' ch hi hQ)
   | true =>
    have hD := drawOk_spec (by simpa using hb)
    refine wp_region_any hM ?_
    have hi2 : Inv X { w with drawn := w.drawn + 1 } FZ β N σ a := ⟨(hi.ok.world (w' := { w with drawn := w.drawn + 1 }) (fun _ _ => rfl) (Nat.le_refl _)).1, hi.tm, hi.sz, hi.df⟩
    have wd0 : Wd X FZ FZ w { w with drawn := w.drawn + 1 } := ⟨rfl, rfl, rfl, fun _ => (by first | exact Nat.le_refl _ | exact Nat.le_succ _), Nat.le_refl _, fun _ _ _ => rfl, fun _ c h => ⟨c, h, rfl⟩, fun _ h => h, fun _ h => .inl h⟩
    refine any_sound hP hS hd' hD ops.size (Array.replicate ops.size false) (List.range ops.size) σ ?_ (by simp) ?_ (by simp) ch hi2 fun β' FZ' w' a' hi' xe wd => hQ β' FZ' w' a' hi' xe (wd0.trans wd)
    ·refine (List.filter_eq_self.2 fun i hi => ?_).symm
     have := List.mem_range.1 hi
     simp [Array.getD, this]
    ·intro k o ho hl
     have := (Array.getElem?_eq_some_iff.1 ho).1
     simp [Array.getD, this] at hl
 unfold runRegion at h
 split at h
 ·obtain ⟨σ', rec, ch, hk, wp⟩ := key (k2 := fun σ' _ => k σ') h
  exact wp fun β' FZ' w' a' hi' xe wd => K σ' β' FZ' w' a' hk hi' xe wd ch.keeps.1 ch.keeps.2.1
 ·rename_i ds hds
  cases hr : runOps E rid ops (numbered ops) σ [] (fun σ' rec => bif (!draw || drawOk ops rec) && freshW σ.objs rec then some (expo σ' ds) else none) with
  | none => rw [hr] at h; cases h
  | some vs =>
   rw [hr] at h
   simp only [Option.bind_some] at h
   have hr' : runOps E rid ops (numbered ops) σ [] (fun σ' rec => bif !draw || drawOk ops rec then (bif freshW σ.objs rec then some (expo σ' ds) else none) else none) = some vs := by
    rw [← hr]
    congr 1
    funext σ' rec
    cases (!draw || drawOk ops rec) <;> rfl
   obtain ⟨σ', rec, ch, hk, wp⟩ := key (k2 := fun σ' rec => bif freshW σ.objs rec then some (expo σ' ds) else none) hr'
   cases hf : freshW σ.objs rec with
   | false => rw [hf] at hk; cases hk
   | true =>
    rw [hf, cond_true] at hk
    have hvs := (Option.some.inj hk).symm
    cases ho : okV ds (vAt vs) 0 with
    | false => rw [ho] at h; cases h
    | true =>
     rw [ho, cond_true] at h
     obtain ⟨kp1, kp2, kp3⟩ := ch.keeps
     refine wp fun β' FZ' w' a' hi' xe wd => ?_
     have hsame : ∀ i, (σ.objs i).o ≠ none → σ'.objs i = σ.objs i := fun i hne => kp3 i fun j _ => freshW_spec hf j i hne
     have hok := hi'.ok.forget hi.ok hsame
     refine K _ β' FZ' w' a' h ⟨by rw [impo_objs]; exact hok, fun t => ?_, hi'.sz, hi'.df⟩ (by rw [impo_objs]; exact fun i hi => ⟨hi, (xe i hi).2⟩) wd (by rw [impo_objs]; exact Fr.refl _) fun t ht => ?_
     ·have hv : vers (impo { σ with tm := forgetD ops.toList σ.tm } ds (vAt vs) 0).objs = vers σ.objs := by rw [impo_objs]
      rw [hv]
      refine impo_rep ds _ _ 0 ?_ fun i d k hdi hdt => ?_
      ·show RepV (vers σ.objs) β' (forgetD ops.toList σ.tm t) _
       unfold forgetD
       cases hany : (ops.toList.filterMap (·.dst)).any (Nat.beq t) with
       | true => exact .no
       | false =>
        have hnot : t ∉ ops.toList.filterMap (·.dst) := fun hm => by
         rw [List.any_eq_false] at hany
         exact hany t hm (by simp)
        have h1 := hi'.tm t
        rw [kp2 t hnot] at h1
        exact h1.down (hi.tm t).alive
      ·subst hdt
       have hk2 := okV_get ds _ 0 ho i d k hdi
       rw [Nat.zero_add, vAt_eq] at hk2 ⊢
       have he := expo_get ds σ' i d k hdi
       rw [← hvs] at he
       have hg : vs.getD i undef = (match σ'.tm d with | .im v => v | _ => undef) := by simp [List.getD, he]
       rw [hg] at hk2 ⊢
       rw [etaV_eq hk2]
       have h1 := hi'.tm d
       cases hv : σ'.tm d with
       | im v =>
        rw [hv] at h1
        have := rep_im h1
        rw [this]
        refine .im ?_
        rw [hv] at hk2
        cases k <;> cases v <;> first | trivial | cases hk2
       | _ => rw [hv] at hk2; cases k <;> cases hk2
     ·have hn : t ∉ ds.map (·.1) := fun hm => by
       obtain ⟨⟨d, k⟩, hx, rfl⟩ := List.mem_map.1 hm
       exact ht (meet_sub hds d k hx)
      rw [impo_tm ds _ _ 0 t hn]
      show forgetD ops.toList σ.tm t = σ.tm t
      unfold forgetD
      cases hany : (ops.toList.filterMap (·.dst)).any (Nat.beq t) with
      | false => rfl
      | true =>
       obtain ⟨x, hx, hxe⟩ := List.any_eq_true.1 hany
       rw [beq_eq hxe] at ht
       exact absurd hx ht
end Go.Vm
namespace Go.Vm
set_option linter.unusedVariables false
set_option linter.unusedSimpArgs false
variable {P : Program} {X : Cx} {FZ FZ' : Nat → Prop} {β β' : Nat → Value} {w w' : World} {E : Env} {s s' : Objs}
theorem posIn_spec : ∀ {ids : List Nat} {id q p : Nat}, posIn ids id q = some p → q ≤ p ∧ ids[p - q]? = some id
 | [], id, q, p, h => by cases h
 | x :: xs, id, q, p, h => by
  rw [posIn] at h
  cases hb : Nat.beq x id with
  | true =>
   rw [hb, cond_true] at h
   obtain rfl := Option.some.inj h
   rw [Nat.sub_self, beq_eq hb]
   exact ⟨Nat.le_refl _, rfl⟩
  | false =>
   rw [hb, cond_false] at h
   obtain ⟨h1, h2⟩ := posIn_spec h
   refine ⟨by omega, ?_⟩
   rw [show p - q = (p - (q + 1)) + 1 by omega]
   exact h2
theorem posIn0 {ids : List Nat} {id p : Nat} (h : posIn ids id 0 = some p) : ids[p]? = some id := by
 have := (posIn_spec h).2
 rwa [Nat.sub_zero] at this
theorem any_mem {l : List Nat} {i : Nat} (h : l.any (Nat.beq i) = true) : i ∈ l := by
 obtain ⟨x, hx, hxe⟩ := List.any_eq_true.1 h
 rw [beq_eq hxe]; exact hx
theorem mem_any {l : List Nat} {i : Nat} (h : i ∈ l) : l.any (Nat.beq i) = true := List.any_eq_true.2 ⟨i, h, by simp⟩
theorem renVs_map (bid : Nat) (con ids : List Nat) : ∀ vs : List V, renVs bid con ids vs = vs.map (renV bid con ids)
 | [] => rfl
 | v :: vs => by rw [renVs, List.map_cons, renVs_map bid con ids vs]
theorem RepV.ren {bid : Nat} {con ids : List Nat} {vr' vr : Nat → Nat} {βh : Nat → Value} {v : V} {x : Value} (h : RepV vr' β v x) (hids : ∀ p id, ids[p]? = some id → 1 ≤ vr (nL bid p) ∧ βh (nL bid p) = β id)
  (hcon : ∀ id, id ∈ con → 1 ≤ vr' id → 1 ≤ vr id ∧ βh id = β id) : RepV vr βh (renV bid con ids v) x := by
 have name : ∀ {id : Nat} (G : Nat → V), 1 ≤ vr' id → (∀ q, (q = 7 → id = 7) → 1 ≤ vr q → βh q = β id → RepV vr βh (G q) x) →
   RepV vr βh (match posIn ids id 0 with | some p => G (nL bid p) | none => bif con.any (Nat.beq id) then G id else .no) x := by
  intro id G hv hG
  split
  ·rename_i p hp
   obtain ⟨h1, h2⟩ := hids p id (posIn0 hp)
   exact hG _ (fun e => by unfold nL at e; omega) h1 h2
  ·cases hc : con.any (Nat.beq id) with
   | false => exact .no
   | true =>
    obtain ⟨h1, h2⟩ := hcon id (any_mem hc) hv
    exact hG _ (fun e => e) h1 h2
 induction h with
 | im h => exact .im h
 | nl => exact .nl
 | @sl0 id sz e hz hv h => exact name (fun q => .sl q e 0 0 sz) hv fun q h0 h1 h2 => .sl0 (fun e => hz (h0 e)) h1 (h2.trans h)
 | @se id sz e a a' hv h => exact name (fun q => .sl q e 0 0 sz) hv fun q _ h1 h2 => .se h1 (h2.trans h)
 | @sl id sz off len b o n cap o' cap' e hv h h1 h2 h3 h4 h5 => exact name (fun q => .sl q e off len sz) hv fun q _ q1 q2 => .sl q1 (q2.trans h) h1 h2 h3 h4 h5
 | @ptb id sz j b hv h => exact name (fun q => .pt q sz 0 j) hv fun q _ h1 h2 => .ptb h1 (h2.trans h)
 | @mp id b hv h => exact name (fun q => .mp q) hv fun q _ h1 h2 => .mp h1 (h2.trans h)
 | @pts id sz i j b o n cap hv h hi => exact name (fun q => .pt q sz i j) hv fun q _ h1 h2 => .pts h1 (h2.trans h) hi
 | ag hl hf _ ih =>
  rw [renV, renVs_map]
  refine .ag (by simpa using hl) hf fun i v x hv hx => ?_
  rw [List.getElem?_map, Option.map_eq_some_iff] at hv
  obtain ⟨u, hu, rfl⟩ := hv
  exact ih i u x hu hx (fun G => by
   intro hv hG
   split
   ·rename_i p hp
    obtain ⟨h1, h2⟩ := hids p _ (posIn0 hp)
    exact hG _ (fun e => by unfold nL at e; omega) h1 h2
   ·cases hc : con.any (Nat.beq _) with
    | false => exact .no
    | true =>
     obtain ⟨h1, h2⟩ := hcon _ (any_mem hc) hv
     exact hG _ (fun e => e) h1 h2)
 | tu hl _ ih =>
  rw [renV, renVs_map]
  refine .tu (by simpa using hl) fun i v x hv hx => ?_
  rw [List.getElem?_map, Option.map_eq_some_iff] at hv
  obtain ⟨u, hu, rfl⟩ := hv
  exact ih i u x hu hx (fun G => by
   intro hv hG
   split
   ·rename_i p hp
    obtain ⟨h1, h2⟩ := hids p _ (posIn0 hp)
    exact hG _ (fun e => by unfold nL at e; omega) h1 h2
   ·cases hc : con.any (Nat.beq _) with
    | false => exact .no
    | true =>
     obtain ⟨h1, h2⟩ := hcon _ (any_mem hc) hv
     exact hG _ (fun e => e) h1 h2)
 | fn hl _ ih =>
  rw [renV, renVs_map]
  refine .fn (by simpa using hl) fun i v x hv hx => ?_
  rw [List.getElem?_map, Option.map_eq_some_iff] at hv
  obtain ⟨u, hu, rfl⟩ := hv
  exact ih i u x hu hx (fun G => by
   intro hv hG
   split
   ·rename_i p hp
    obtain ⟨h1, h2⟩ := hids p _ (posIn0 hp)
    exact hG _ (fun e => by unfold nL at e; omega) h1 h2
   ·cases hc : con.any (Nat.beq _) with
    | false => exact .no
    | true =>
     obtain ⟨h1, h2⟩ := hcon _ (any_mem hc) hv
     exact hG _ (fun e => e) h1 h2)
 | no => exact .no
theorem nL_inj {bid p q : Nat} (h : nL bid p = nL bid q) : p = q := by unfold nL at h; omega
theorem objsOf_get {bid : Nat} {base : Objs} : ∀ (os : List (Option O)) (q p : Nat) (o : Option O), os[p]? = some o → objsOf bid base os q (nL bid (q + p)) = ⟨1, o⟩
 | [], q, p, o, h => by simp at h
 | o0 :: os, q, 0, o, h => by
  simp only [List.getElem?_cons_zero, Option.some.injEq] at h
  subst h
  exact upd_same _ _ _
 | o0 :: os, q, p + 1, o, h => by
  rw [objsOf, upd_ne _ _ fun e => by have := nL_inj e; omega]
  rw [show q + (p + 1) = q + 1 + p by omega]
  exact objsOf_get os (q + 1) p o (by simpa using h)
theorem objsOf_base {bid : Nat} {base : Objs} {i : Nat} : ∀ (os : List (Option O)) (q : Nat), (∀ p, p < os.length → i ≠ nL bid (q + p)) → objsOf bid base os q i = base i
 | [], q, h => rfl
 | o :: os, q, h => by
  rw [objsOf, upd_ne _ _ fun e => h 0 (by simp) (by rw [Nat.add_zero]; exact e)]
  exact objsOf_base os (q + 1) fun p hp => by rw [show q + 1 + p = q + (p + 1) by omega]; exact h (p + 1) (by simpa using hp)
def βL (bid : Nat) (ids : List Nat) (β : Nat → Value) : Nat → Value := fun i =>
 if nL bid 0 ≤ i ∧ i < nL bid ids.length then β (ids.getD (i - nL bid 0) 0) else β i
theorem βL_get {bid : Nat} {ids : List Nat} {p id : Nat} (h : ids[p]? = some id) : βL bid ids β (nL bid p) = β id := by
 have hp := (List.getElem?_eq_some_iff.1 h).1
 unfold βL
 rw [if_pos ⟨by unfold nL; omega, by unfold nL; omega⟩, show nL bid p - nL bid 0 = p by unfold nL; omega]
 simp [List.getD, h]
theorem βL_ne {bid : Nat} {ids : List Nat} {i : Nat} (h : ∀ p, p < ids.length → i ≠ nL bid p) : βL bid ids β i = β i := by
 unfold βL
 split
 ·rename_i hc
  exact absurd (show i = nL bid (i - nL bid 0) by unfold nL at *; omega) (h _ (by unfold nL at *; omega))
 ·rfl
theorem tmOf_snap {f : Nat → V} : ∀ (keep : List (Bool × Nat)) (t : Nat), tmOf keep (keep.map fun x => (x.1, f x.2)) t = f t ∨ tmOf keep (keep.map fun x => (x.1, f x.2)) t = .no
 | [], t => .inr rfl
 | (b, t0) :: keep, t => by
  rw [List.map_cons, tmOf]
  by_cases e : t = t0
  ·subst e; left; exact upd_same _ _ _
  ·rw [upd_ne _ _ e]; exact tmOf_snap keep t
theorem tmOf_mem {f : Nat → V} : ∀ (keep : List (Bool × Nat)) (t : Nat), t ∈ keep.map (·.2) → tmOf keep (keep.map fun x => (x.1, f x.2)) t = f t
 | [], t, h => by cases h
 | (b, t0) :: keep, t, h => by
  rw [List.map_cons, tmOf]
  by_cases e : t = t0
  ·subst e; exact upd_same _ _ _
  ·rw [upd_ne _ _ e]
   rw [List.map_cons, List.mem_cons] at h
   exact tmOf_mem keep t (h.resolve_left e)
theorem head_inv {bid N : Nat} {keep : List (Bool × Nat)} {con ids : List Nat} {σ σ' : St} {a : Act} {w0 : World} {FZ0 : Nat → Prop} {β0 : Nat → Value} (h0 : OK X w0 FZ0 β0 σ.objs []) (hi : Inv X w FZ β N σ' a)
  (hcon : ∀ i ∈ con, σ'.objs i = σ.objs i) (hca : ∀ i ∈ con, 1 ≤ (σ.objs i).ver) (hnew : ∀ p, p < ids.length → (σ.objs (nL bid p)).ver = 0) (hnd : ids.Nodup) (hdis : ∀ i ∈ ids, i ∉ con) :
  Inv X w FZ (βL bid ids β) N ((snap bid σ' keep con ids).st bid (baseOf con σ.objs) keep) a := by
 have hos : (snap bid σ' keep con ids).os = ids.map fun i => renO bid σ'.objs con ids (σ'.objs i).o := rfl
 generalize hobj : ((snap bid σ' keep con ids).st bid (baseOf con σ.objs) keep).objs = H
 have hH : H = objsOf bid (baseOf con σ.objs) (ids.map fun i => renO bid σ'.objs con ids (σ'.objs i).o) 0 := by rw [← hobj]; rfl
 have getL : ∀ p id, ids[p]? = some id → H (nL bid p) = ⟨1, renO bid σ'.objs con ids (σ'.objs id).o⟩ := by
  intro p id hp
  have := objsOf_get (bid := bid) (base := baseOf con σ.objs) (ids.map fun i => renO bid σ'.objs con ids (σ'.objs i).o) 0 p _ (by rw [List.getElem?_map, hp]; rfl)
  rw [Nat.zero_add] at this
  rw [hH, this]
 have getB : ∀ i, (∀ p, p < ids.length → i ≠ nL bid p) → H i = baseOf con σ.objs i := by
  intro i hi
  rw [hH, objsOf_base _ _ fun p hp => by rw [Nat.zero_add]; exact hi p (by simpa using hp)]
 have notL : ∀ {i}, 1 ≤ (σ.objs i).ver → ∀ p, p < ids.length → i ≠ nL bid p := fun hv p hp e => by
  subst e
  have := hnew p hp
  omega
 have getC : ∀ i, i ∈ con → H i = σ.objs i ∧ H i = σ'.objs i ∧ βL bid ids β i = β i := by
  intro i hc
  have hn := notL (hca i hc)
  have e1 : H i = σ.objs i := by rw [getB i hn, baseOf, mem_any hc]; rfl
  exact ⟨e1, by rw [e1, hcon i hc], βL_ne hn⟩
 have hids : ∀ p id, ids[p]? = some id → 1 ≤ vers H (nL bid p) ∧ βL bid ids β (nL bid p) = β id := fun p id hp => ⟨by rw [vers, getL p id hp]; exact Nat.le_refl _, βL_get hp⟩
 have hcons : ∀ id, id ∈ con → 1 ≤ vers σ'.objs id → 1 ≤ vers H id ∧ βL bid ids β id = β id := fun id hc hv => ⟨by rw [vers, (getC id hc).2.1]; exact hv, (getC id hc).2.2⟩
 have ren : ∀ {v x}, RepV (vers σ'.objs) β v x → RepV (vers H) (βL bid ids β) (renV bid con ids v) x := fun h => h.ren hids hcons
 -- where an object comes from
 have back : ∀ id o, (H id).o = some o → (∃ p i0, id = nL bid p ∧ ids[p]? = some i0 ∧ renO bid σ'.objs con ids (σ'.objs i0).o = some o) ∨ (id ∈ con ∧ (σ'.objs id).o = some o) := by
  intro id o ho
  by_cases hL : ∃ p, p < ids.length ∧ id = nL bid p
  ·obtain ⟨p, hp, rfl⟩ := hL
   have hp' : ids[p]? = some ids[p] := List.getElem?_eq_getElem hp
   rw [getL p _ hp'] at ho
   exact .inl ⟨p, _, rfl, hp', ho⟩
  ·have hL : ∀ p, p < ids.length → id ≠ nL bid p := fun p hp e => hL ⟨p, hp, e⟩
   rw [getB id hL] at ho
   unfold baseOf at ho
   cases hc : con.any (Nat.beq id) with
   | true =>
    rw [hc, cond_true] at ho
    exact .inr ⟨any_mem hc, by rw [hcon id (any_mem hc)]; exact ho⟩
   | false =>
    rw [hc, cond_false] at ho
    split at ho
    ·cases ho
    ·rename_i hn
     rw [hn] at ho; cases ho
 have baseV : ∀ i, (σ.objs i).ver ≤ (H i).ver := by
  intro i
  by_cases hL : ∃ p, p < ids.length ∧ i = nL bid p
  ·obtain ⟨p, hp, rfl⟩ := hL
   rw [hnew p hp]; exact Nat.zero_le _
  ·have hL : ∀ p, p < ids.length → i ≠ nL bid p := fun p hp e => hL ⟨p, hp, e⟩
   rw [getB i hL]
   unfold baseOf
   cases con.any (Nat.beq i) with
   | true => exact Nat.le_refl _
   | false =>
    rw [cond_false]
    split
    ·exact Nat.le_succ _
    ·exact Nat.le_refl _
 -- blocks
 let φ : Nat → Nat := fun id => if nL bid 0 ≤ id ∧ id < nL bid ids.length then ids.getD (id - nL bid 0) 0 else id
 have φL : ∀ p i0, ids[p]? = some i0 → φ (nL bid p) = i0 := by
  intro p i0 hp
  have hlt := (List.getElem?_eq_some_iff.1 hp).1
  show (if _ then _ else _) = i0
  rw [if_pos ⟨by unfold nL; omega, by unfold nL; omega⟩, show nL bid p - nL bid 0 = p by unfold nL; omega]
  simp [List.getD, hp]
 have φC : ∀ i, i ∈ con → φ i = i := by
  intro i hc
  show (if _ then _ else _) = i
  split
  ·rename_i hh
   exact absurd (show i = nL bid (i - nL bid 0) by unfold nL at *; omega) (notL (hca i hc) _ (by unfold nL at *; omega))
  ·rfl
 have blk : ∀ id o b, (H id).o = some o → OB w (βL bid ids β) id o b → Bl w β σ'.objs [] (.inl (φ id)) b := by
  intro id o b ho hb
  rcases back id o ho with ⟨p, i0, rfl, hp, hr⟩ | ⟨hc, ho'⟩
  ·rw [φL p i0 hp]
   cases hx : (σ'.objs i0).o with
   | none => rw [hx] at hr; cases hr
   | some o' =>
    rw [hx] at hr
    cases o' with
    | box ro cells =>
     simp only [renO, Option.some.injEq] at hr
     subst hr
     exact ⟨_, hx, hb.1, by rw [← βL_get (β := β) (bid := bid) hp]; exact hb.2⟩
    | rows f sz rs =>
     simp only [renO, Option.some.injEq] at hr
     subst hr
     refine ⟨_, hx, ?_⟩
     show Blk w (.sl f sz rs) (β i0) b
     rw [← βL_get (β := β) (bid := bid) hp]; exact hb
    | mp kf vf rs =>
     simp only [renO, Option.some.injEq] at hr
     subst hr
     refine ⟨_, hx, ?_⟩
     show β i0 = .map (some b)
     rw [← βL_get (β := β) (bid := bid) hp]; exact hb
    | link x ver i j =>
     have : ∃ y v2 i2 j2, o = .link y v2 i2 j2 := by
      simp only [renO] at hr
      split at hr
      ·rw [cond_eq_ite] at hr
       split at hr
       ·split at hr
        ·exact ⟨_, _, _, _, (Option.some.inj hr).symm⟩
        ·rw [cond_eq_ite] at hr
         split at hr
         ·exact ⟨_, _, _, _, (Option.some.inj hr).symm⟩
         ·cases hr
       ·cases hr
      ·cases hr
     obtain ⟨y, v2, i2, j2, rfl⟩ := this
     cases hb
  ·rw [φC id hc]
   refine ⟨o, ho', ?_⟩
   have e := (getC id hc).2.2
   cases o with
   | box ro cells => exact ⟨hb.1, by rw [← e]; exact hb.2⟩
   | rows f sz rs =>
    show Blk w (.sl f sz rs) (β id) b
    rw [← e]; exact hb
   | link => cases hb
   | mp =>
    show β id = .map (some b)
    rw [← e]; exact hb
 have φinj : ∀ id id', (∃ o, (H id).o = some o) → (∃ o, (H id').o = some o) → φ id = φ id' → id = id' := by
  rintro id id' ⟨o, ho⟩ ⟨o', ho'⟩ e
  rcases back id o ho with ⟨p, i0, rfl, hp, _⟩ | ⟨hc, _⟩ <;> rcases back id' o' ho' with ⟨p', i0', rfl, hp', _⟩ | ⟨hc', _⟩
  ·rw [φL p i0 hp, φL p' i0' hp'] at e
   subst e
   obtain ⟨h1, h1'⟩ := (List.getElem?_eq_some_iff.1 hp)
   obtain ⟨h2, h2'⟩ := (List.getElem?_eq_some_iff.1 hp')
   have hpw := List.pairwise_iff_getElem.1 hnd
   rcases Nat.lt_trichotomy p p' with h | h | h
   ·exact absurd (h1'.trans h2'.symm) (hpw p p' h1 h2 h)
   ·rw [h]
   ·exact absurd (h2'.trans h1'.symm) (hpw p' p h2 h1 h)
  ·rw [φL p i0 hp, φC id' hc'] at e
   subst e
   exact absurd hc' (hdis i0 (List.mem_of_getElem? hp))
  ·rw [φC id hc, φL p' i0' hp'] at e
   subst e
   exact absurd hc (hdis id (List.mem_of_getElem? hp'))
  ·rw [φC id hc, φC id' hc'] at e; exact e
 refine ⟨?_, fun t => ?_, hi.sz, hi.df⟩
 ·rw [hobj]
  refine ⟨fun id o ho => ?_, fun k p hk => by simp at hk, ?_, ?_, hi.ok.ro, hi.ok.fz, hi.ok.n0, ?_, hi.ok.gl⟩
  ·rcases back id o ho with ⟨p, i0, rfl, hp, hr⟩ | ⟨hc, ho'⟩
   ·have hβ := βL_get (β := β) (bid := bid) hp
    cases hx : (σ'.objs i0).o with
    | none => rw [hx] at hr; cases hr
    | some o' =>
     have hrep := hi.ok.rep i0 o' hx
     rw [hx] at hr
     cases o' with
     | box ro cells =>
      simp only [renO, Option.some.injEq] at hr
      subst hr
      obtain ⟨b, c, q1, q2, q3, q4, q5⟩ := hrep
      refine ⟨b, c, hβ.trans q1, q2, by rw [renVs_map, List.length_map]; exact q3, fun j v x hv hx => ?_, q5⟩
      rw [renVs_map, List.getElem?_map, Option.map_eq_some_iff] at hv
      obtain ⟨u, hu, rfl⟩ := hv
      exact ⟨ren (q4 j u x hu hx).1, (q4 j u x hu hx).2⟩
     | rows f sz rs =>
      simp only [renO, Option.some.injEq] at hr
      subst hr
      show Ow w X.RO FZ _ _
      rw [hβ]; exact hrep
     | mp kf vf rs =>
      simp only [renO, Option.some.injEq] at hr
      subst hr
      obtain ⟨b, q1, q2⟩ := hrep
      exact ⟨b, hβ.trans q1, q2⟩
     | link x ver i j =>
      simp only [renO] at hr
      split at hr
      ·rename_i f sz rs hxo
       rw [cond_eq_ite] at hr
       split at hr
       ·rename_i hver
        have hver := beq_eq hver
        obtain ⟨r1, r2, r3⟩ := hrep
        split at hr
        ·rename_i q hq
         obtain rfl := Option.some.inj hr
         have hq' := posIn0 hq
         have hg := getL q x hq'
         refine ⟨by rw [hg]; exact Nat.le_refl _, Nat.le_refl _, fun _ f2 sz2 rs2 h2 => ?_⟩
         rw [hg, hxo] at h2
         simp only [renO, Option.some.injEq, O.rows.injEq] at h2
         obtain ⟨rfl, rfl, rfl⟩ := h2
         obtain ⟨t1, b, o, n, cap, c, t2, t3, t4⟩ := r3 hver f sz rs hxo
         exact ⟨t1, b, o, n, cap, c, (βL_get hq').trans t2, t3, by rw [hβ]; exact t4⟩
        ·rw [cond_eq_ite] at hr
         split at hr
         ·rename_i hc
          obtain rfl := Option.some.inj hr
          obtain ⟨g1, g2, g3⟩ := getC x (any_mem hc)
          refine ⟨by rw [g2]; exact r1, r2, fun e f2 sz2 rs2 h2 => ?_⟩
          rw [g2] at e h2
          obtain ⟨t1, b, o, n, cap, c, t2, t3, t4⟩ := r3 e f2 sz2 rs2 h2
          exact ⟨t1, b, o, n, cap, c, g3.trans t2, t3, by rw [hβ]; exact t4⟩
         ·cases hr
       ·cases hr
      ·cases hr
   ·obtain ⟨g1, g2, g3⟩ := getC id hc
    have hrep := hi.ok.rep id o ho'
    have hrep0 := h0.rep id o (by rw [← hcon id hc]; exact ho')
    have names : ∀ {v : V} {x x0 : Value}, RepV (vers σ'.objs) β v x → RepV (vers σ.objs) β0 v x0 → RepV (vers H) (βL bid ids β) v x := by
     intro v x x0 h1 h2
     have h3 : RepV (vers σ.objs) β v x := h1.down h2.alive
     refine h3.up (fun i hv => Nat.le_trans hv (baseV i)) fun i hv => βL_ne (notL hv)
    cases o with
    | box ro cells =>
     obtain ⟨b, c, q1, q2, q3, q4, q5⟩ := hrep
     obtain ⟨b0, c0, _, _, r3, r4, _⟩ := hrep0
     refine ⟨b, c, g3.trans q1, q2, q3, fun j v x hv hx => ⟨?_, (q4 j v x hv hx).2⟩, q5⟩
     have hj := (List.getElem?_eq_some_iff.1 hv).1
     exact names (q4 j v x hv hx).1 (r4 j v c0[j] hv (Array.getElem?_eq_getElem (by omega))).1
    | rows f sz rs =>
     show Ow w X.RO FZ _ _
     rw [g3]; exact hrep
    | mp kf vf rs =>
     obtain ⟨b, q1, q2⟩ := hrep
     exact ⟨b, g3.trans q1, q2⟩
    | link x ver i j =>
     obtain ⟨r1, r2, r3⟩ := hrep
     obtain ⟨s1, s2, _⟩ := hrep0
     refine ⟨Nat.le_trans s1 (baseV x), r2, fun e f sz rs hx => ?_⟩
     rcases back x _ hx with ⟨p, i0, rfl, hp, _⟩ | ⟨hcx, hx'⟩
     ·have := hnew p (List.getElem?_eq_some_iff.1 hp).1
      omega
     ·obtain ⟨k1, k2, k3⟩ := getC x hcx
      rw [k2] at e
      obtain ⟨t1, b, o, n, cap, c, t2, t3, t4⟩ := r3 e f sz rs hx'
      exact ⟨t1, b, o, n, cap, c, k3.trans t2, t3, by rw [g3]; exact t4⟩
  ·rintro (id | k) (id' | k') b hne ⟨o, ho, hb⟩ ⟨o', ho', hb'⟩
   ·refine hi.ok.apart (.inl (φ id)) (.inl (φ id')) b (fun e => ?_) (blk id o b ho hb) (blk id' o' b ho' hb')
    injection e with e
    exact hne (congrArg _ (φinj id id' ⟨o, ho⟩ ⟨o', ho'⟩ e))
   ·simp at ho'
   ·simp at ho
   ·simp at ho
  ·rintro (id | k) b ⟨o, ho, hb⟩
   ·exact hi.ok.sep _ b (blk id o b ho hb)
   ·simp at ho
  ·intro id o ho
   rcases back id o ho with ⟨p, i0, rfl, hp, _⟩ | ⟨hc, _⟩
   ·rw [getL p i0 hp]; exact Nat.le_refl _
   ·rw [(getC id hc).1]; exact hca id hc
 ·rw [hobj]
  show RepV (vers H) _ (tmOf keep (keep.map fun t => (t.1, renV bid con ids (σ'.tm t.2))) t) _
  rcases tmOf_snap (f := fun t => renV bid con ids (σ'.tm t)) keep t with h1 | h1
  ·rw [h1]; exact ren (hi.tm t)
  ·rw [h1]; exact .no
end Go.Vm
namespace Go.Vm
set_option linter.unusedVariables false
set_option linter.unusedSimpArgs false
inductive Sk : V → V → Prop
 | im {v : Value} : Sk (.im v) (.im v)
 | nl {sz : Nat} : Sk (.nl sz) (.nl sz)
 | sl {id id' off len sz : Nat} {e : Bool} : Sk (.sl id e off len sz) (.sl id' e off len sz)
 | pt {id id' sz i j : Nat} : Sk (.pt id sz i j) (.pt id' sz i j)
 | ag {vs us : List V} (hl : vs.length = us.length) (h : ∀ (i : Nat) (v u : V), vs[i]? = some v → us[i]? = some u → Sk v u) : Sk (.ag vs) (.ag us)
 | tu {vs us : List V} (hl : vs.length = us.length) (h : ∀ (i : Nat) (v u : V), vs[i]? = some v → us[i]? = some u → Sk v u) : Sk (.tu vs) (.tu us)
 | fn {f : Nat} {vs us : List V} (hl : vs.length = us.length) (h : ∀ (i : Nat) (v u : V), vs[i]? = some v → us[i]? = some u → Sk v u) : Sk (.fn f vs) (.fn f us)
 | mp {id id' : Nat} : Sk (.mp id) (.mp id')
 | no {v : V} : Sk v .no
theorem Sk.trans {a b : V} (h : Sk a b) : ∀ {c : V}, Sk b c → Sk a c := by
 have mid : ∀ {vs us ws : List V}, vs.length = us.length → (∀ (i : Nat) (v u : V), vs[i]? = some v → us[i]? = some u → ∀ {c : V}, Sk u c → Sk v c) →
   us.length = ws.length → (∀ (i : Nat) (v u : V), us[i]? = some v → ws[i]? = some u → Sk v u) → ∀ (i : Nat) (v u : V), vs[i]? = some v → ws[i]? = some u → Sk v u := by
  intro vs us ws h1 h2 h3 h4 i v u hv hu
  have hi := (List.getElem?_eq_some_iff.1 hv).1
  have hm : us[i]? = some us[i] := List.getElem?_eq_getElem (by omega)
  exact h2 i v _ hv hm (h4 i _ u hm hu)
 induction h with
 | im => intro c h; exact h
 | nl => intro c h; exact h
 | sl => intro c h; cases h <;> constructor
 | pt => intro c h; cases h <;> constructor
 | mp => intro c h; cases h <;> constructor
 | ag hl _ ih =>
  intro c h
  cases h with
  | ag hl' h' => exact .ag (hl.trans hl') (mid hl ih hl' h')
  | no => exact .no
 | tu hl _ ih =>
  intro c h
  cases h with
  | tu hl' h' => exact .tu (hl.trans hl') (mid hl ih hl' h')
  | no => exact .no
 | fn hl _ ih =>
  intro c h
  cases h with
  | fn hl' h' => exact .fn (hl.trans hl') (mid hl ih hl' h')
  | no => exact .no
 | no => intro c h; cases h; exact .no
mutual
theorem Sk.refl : ∀ v : V, Sk v v
 | .im _ => .im
 | .nl _ => .nl
 | .sl _ _ _ _ _ => .sl
 | .pt _ _ _ _ => .pt
 | .mp _ => .mp
 | .ag vs => .ag rfl (Sk.refls vs)
 | .tu vs => .tu rfl (Sk.refls vs)
 | .fn _ vs => .fn rfl (Sk.refls vs)
 | .no => .no
theorem Sk.refls : ∀ (vs : List V) (i : Nat) (v u : V), vs[i]? = some v → vs[i]? = some u → Sk v u
 | [], i, v, u, h, _ => by simp at h
 | x :: vs, 0, v, u, h, h' => by
  simp only [List.getElem?_cons_zero, Option.some.injEq] at h h'
  subst h h'
  exact Sk.refl x
 | x :: vs, i + 1, v, u, h, h' => Sk.refls vs i v u (by simpa using h) (by simpa using h')
end
mutual
theorem Sk.ren (bid : Nat) (con ids : List Nat) : ∀ v : V, Sk v (renV bid con ids v)
 | .im _ => .im
 | .nl _ => .nl
 | .sl id e off len sz => by
  rw [renV]
  split
  ·exact .sl
  ·cases con.any (Nat.beq id)
   ·exact .no
   ·exact .sl
 | .pt id sz i j => by
  rw [renV]
  split
  ·exact .pt
  ·cases con.any (Nat.beq id)
   ·exact .no
   ·exact .pt
 | .mp id => by
  rw [renV]
  split
  ·exact .mp
  ·cases con.any (Nat.beq id)
   ·exact .no
   ·exact .mp
 | .ag vs => by rw [renV]; exact .ag (by rw [renVs_map, List.length_map]) (Sk.rens bid con ids vs)
 | .tu vs => by rw [renV]; exact .tu (by rw [renVs_map, List.length_map]) (Sk.rens bid con ids vs)
 | .fn f vs => by rw [renV]; exact .fn (by rw [renVs_map, List.length_map]) (Sk.rens bid con ids vs)
 | .no => .no
theorem Sk.rens (bid : Nat) (con ids : List Nat) : ∀ (vs : List V) (i : Nat) (v u : V), vs[i]? = some v → (renVs bid con ids vs)[i]? = some u → Sk v u
 | [], i, v, u, h, _ => by simp at h
 | x :: vs, 0, v, u, h, h' => by
  simp only [renVs, List.getElem?_cons_zero, Option.some.injEq] at h h'
  subst h h'
  exact Sk.ren bid con ids x
 | x :: vs, i + 1, v, u, h, h' => Sk.rens bid con ids vs i v u (by simpa using h) (by simpa [renVs] using h')
end
theorem eqfVs_get : ∀ {vs us : List V}, eqfVs vs us = true → vs.length = us.length ∧ ∀ (i : Nat) (v u : V), vs[i]? = some v → us[i]? = some u → eqfV v u = true
 | [], [], _ => ⟨rfl, fun i v u h => by simp at h⟩
 | [], _ :: _, h => by cases h
 | _ :: _, [], h => by cases h
 | v :: vs, u :: us, h => by
  rw [eqfVs, Bool.and_eq_true] at h
  obtain ⟨h1, h2⟩ := eqfVs_get h.2
  refine ⟨by simp [h1], fun i a b ha hb => ?_⟩
  cases i with
  | zero =>
   simp only [List.getElem?_cons_zero, Option.some.injEq] at ha hb
   subst ha hb
   exact h.1
  | succ i => exact h2 i a b (by simpa using ha) (by simpa using hb)
theorem Sk.eq {a c : V} (h : Sk a c) : eqfV a c = true → a = c := by
 have many : ∀ {vs us : List V}, (∀ (i : Nat) (v u : V), vs[i]? = some v → us[i]? = some u → eqfV v u = true → v = u) → eqfVs vs us = true → vs = us := by
  intro vs us ih he
  obtain ⟨h1, h2⟩ := eqfVs_get he
  refine List.ext_getElem? fun i => ?_
  by_cases hi : i < vs.length
  ·have hv : vs[i]? = some vs[i] := List.getElem?_eq_getElem hi
   have hu : us[i]? = some us[i] := List.getElem?_eq_getElem (by omega)
   rw [hv, hu, ih i _ _ hv hu (h2 i _ _ hv hu)]
  ·rw [List.getElem?_eq_none (by omega), List.getElem?_eq_none (by omega)]
 induction h with
 | im => intro _; rfl
 | nl => intro _; rfl
 | @sl id id' off len sz e =>
  intro h
  cases e with
  | true =>
   simp only [eqfV, Bool.and_eq_true] at h
   rw [beq_eq h.1.1]
  | false =>
   simp only [eqfV, Bool.and_eq_true] at h
   rw [beq_eq h.1]
 | pt =>
  intro h
  simp only [eqfV, Bool.and_eq_true] at h
  rw [beq_eq h.1.1.1]
 | mp =>
  intro h
  rw [eqfV] at h
  rw [beq_eq h]
 | ag hl _ ih => intro h; rw [eqfV] at h; rw [many ih h]
 | tu hl _ ih => intro h; rw [eqfV] at h; rw [many ih h]
 | fn hl _ ih =>
  intro h
  rw [eqfV, Bool.and_eq_true] at h
  rw [many ih h.2]
 | @no v =>
  intro h
  cases v with
  | no => rfl
  | im x => cases x <;> cases h
  | sl id e => cases e <;> cases h
  | _ => cases h
mutual
theorem refV_eq (ds : Nat → T) : ∀ (a c : V) (m : Nat), eqfV a c = true → (∀ (i : Nat) (t : T), (datV c)[i]? = some t → ds (m + i) = t) → refV ds a m = (c, m + (datV c).length)
 | .im va, c, m, h, hd => by
  cases c with
  | im vc =>
   cases va <;> cases vc <;> first | (simp [eqfV] at h; done) | skip
   ·have h0 := hd 0 _ rfl
    rw [Nat.add_zero] at h0
    simp [refV, datV, h0, bT_eq, T.val, Value.asB]
   ·have h0 := hd 0 _ rfl
    rw [Nat.add_zero] at h0
    have hk := of_decide_eq_true h
    subst hk
    simp [refV, datV, h0, iT_eq, T.val, Value.asInt]
   ·have h0 := hd 0 _ rfl
    rw [Nat.add_zero] at h0
    simp [refV, datV, h0, sT_eq, T.val, Value.asS]
  | _ => cases va <;> simp [eqfV] at h
 | .nl sz, c, m, h, hd => by
  cases c <;> first | (simp [eqfV] at h; done) | skip
  rw [beq_eq h]; rfl
 | .sl id e off len sz, c, m, h, hd => by
  cases c with
  | sl id' e' off' len' sz' =>
   cases e <;> cases e' <;> first | (simp [eqfV] at h; done) | skip
   ·simp only [eqfV, Bool.and_eq_true] at h
    have h0 := hd 0 _ rfl
    have h1 := hd 1 _ rfl
    rw [Nat.add_zero] at h0
    have e1 := beq_eq h.1
    have e2 := beq_eq h.2
    subst e1 e2
    simp [refV, datV, h0, h1, iT_eq, T.val, Value.asInt]
   ·simp only [eqfV, Bool.and_eq_true] at h
    have h0 := hd 0 _ rfl
    rw [Nat.add_zero] at h0
    have e1 := beq_eq h.1.1
    have e2 := beq_eq h.1.2
    have e3 := beq_eq h.2
    subst e1 e2 e3
    simp [refV, datV, h0, iT_eq, T.val, Value.asInt]
  | _ => cases e <;> simp [eqfV] at h
 | .pt id sz i j, c, m, h, hd => by
  cases c with
  | pt id' sz' i' j' =>
   simp only [eqfV, Bool.and_eq_true] at h
   have e1 := beq_eq h.1.1.1
   have e2 := beq_eq h.1.1.2
   have e3 := beq_eq h.1.2
   have e4 := beq_eq h.2
   subst e1 e2 e3 e4
   rfl
  | _ => simp [eqfV] at h
 | .mp id, c, m, h, hd => by
  cases c with
  | mp id' =>
   rw [eqfV] at h
   rw [beq_eq h]
   rfl
  | _ => simp [eqfV] at h
 | .ag vs, c, m, h, hd => by
  cases c with
  | ag us =>
   rw [eqfV] at h
   have := refVs_eq ds vs us m h hd
   rw [refV, this]; rfl
  | _ => simp [eqfV] at h
 | .tu vs, c, m, h, hd => by
  cases c with
  | tu us =>
   rw [eqfV] at h
   have := refVs_eq ds vs us m h hd
   rw [refV, this]; rfl
  | _ => simp [eqfV] at h
 | .fn f vs, c, m, h, hd => by
  cases c with
  | fn g us =>
   rw [eqfV, Bool.and_eq_true] at h
   have := refVs_eq ds vs us m h.2 hd
   rw [refV, this, beq_eq h.1]; rfl
  | _ => simp [eqfV] at h
 | .no, c, m, h, hd => by
  cases c <;> first | (simp [eqfV] at h; done) | rfl
theorem refVs_eq (ds : Nat → T) : ∀ (vs us : List V) (m : Nat), eqfVs vs us = true → (∀ (i : Nat) (t : T), (datVs us)[i]? = some t → ds (m + i) = t) → refVs ds vs m = (us, m + (datVs us).length)
 | [], [], m, _, _ => rfl
 | [], _ :: _, m, h, _ => by cases h
 | _ :: _, [], m, h, _ => by cases h
 | v :: vs, u :: us, m, h, hd => by
  rw [eqfVs, Bool.and_eq_true] at h
  rw [datVs] at hd
  have h1 := refV_eq ds v u m h.1 fun i t hi => hd i t (by
   rw [List.getElem?_append_left (List.getElem?_eq_some_iff.1 hi).1]; exact hi)
  have h2 := refVs_eq ds vs us (m + (datV u).length) h.2 fun i t hi => by
   rw [Nat.add_assoc]
   exact hd _ t (by rw [List.getElem?_append_right (by omega), Nat.add_sub_cancel_left]; exact hi)
  rw [refVs, h1]
  simp only [h2, datVs, List.length_append]
  rw [Nat.add_assoc]
end
theorem refOs_eq (ds : Nat → T) : ∀ (as cs : List (Option O)) (m : Nat), eqfOs as cs = true → (∀ (i : Nat) (t : T), (cs.flatMap datO)[i]? = some t → ds (m + i) = t) → refOs ds as m = (cs, m + (cs.flatMap datO).length)
 | [], [], m, _, _ => rfl
 | [], _ :: _, m, h, _ => by cases h
 | _ :: _, [], m, h, _ => by cases h
 | a :: as, c :: cs, m, h, hd => by
  rw [eqfOs, Bool.and_eq_true] at h
  rw [List.flatMap_cons] at hd
  have hd1 : ∀ (i : Nat) (t : T), (datO c)[i]? = some t → ds (m + i) = t := fun i t hi => hd i t (by
   rw [List.getElem?_append_left (List.getElem?_eq_some_iff.1 hi).1]; exact hi)
  have h2 := refOs_eq ds as cs (m + (datO c).length) h.2 fun i t hi => by
   rw [Nat.add_assoc]
   exact hd _ t (by rw [List.getElem?_append_right (by omega), Nat.add_sub_cancel_left]; exact hi)
  have fin : m + (datO c).length + (cs.flatMap datO).length = m + ((c :: cs).flatMap datO).length := by
   rw [List.flatMap_cons, List.length_append]; omega
  have h1 := h.1
  rcases a with _ | a
  ·rcases c with _ | c
   ·rw [refOs]
    rw [show m + (datO none).length = m from rfl] at h2 fin
    rw [h2, fin]
   ·cases h1
  ·rcases c with _ | c
   ·cases a <;> cases h1
   ·cases a with
    | box ro x =>
     cases c with
     | box ro' y =>
      simp only [eqfO, Bool.and_eq_true] at h1
      have e1 := refVs_eq ds x y m h1.2 hd1
      have e2 : ro = ro' := by simpa using h1.1
      subst e2
      rw [refOs, e1]
      have h2' : refOs ds as (m + (datVs y).length) = _ := h2
      simp only [h2']
      rw [← fin]
     | _ => cases h1
    | rows f sz r =>
     cases c with
     | rows f' sz' r' =>
      simp only [eqfO, Bool.and_eq_true] at h1
      have h0 := hd1 0 _ rfl
      rw [Nat.add_zero] at h0
      have e2 := beq_eq h1.2
      subst e2
      have e1 : f = f' := by cases f <;> cases f' <;> first | rfl | cases h1.1
      subst e1
      have h2' : refOs ds as (m + 1) = _ := h2
      rw [refOs]
      simp only [h2', h0, rT_eq, T.rws]
      rw [← fin]
     | _ => cases h1
    | mp kf vf r =>
     cases c with
     | mp kf' vf' r' =>
      simp only [eqfO, Bool.and_eq_true, decide_eq_true_eq] at h1
      have h0 := hd1 0 _ rfl
      rw [Nat.add_zero] at h0
      obtain ⟨rfl, rfl⟩ := h1
      have h2' : refOs ds as (m + 1) = _ := h2
      rw [refOs]
      simp only [h2', h0, rT_eq, T.rws]
      rw [← fin]
     | _ => cases h1
    | link x v i j =>
     cases c with
     | link x' v' i' j' =>
      simp only [eqfO, Bool.and_eq_true] at h1
      have h0 := hd1 0 _ rfl
      rw [Nat.add_zero] at h0
      have e1 := beq_eq h1.1.1
      have e2 := beq_eq h1.1.2
      have e3 := beq_eq h1.2
      subst e1 e2 e3
      have h2' : refOs ds as (m + 1) = _ := h2
      rw [refOs]
      simp only [h2', h0, iT_eq, T.val, Value.asInt, Int.toNat_natCast]
      rw [← fin]
     | _ => cases h1
theorem refBs_eq (ds : Nat → T) : ∀ (as cs : List (Bool × V)) (m : Nat), eqfBs as cs = true → as.map (·.1) = cs.map (·.1) → (∀ (i : Nat) (a c : V), as[i]? = some (false, a) → cs[i]? = some (false, c) → a = c) →
  (∀ (i : Nat) (t : T), (cs.flatMap datB)[i]? = some t → ds (m + i) = t) → refBs ds as m = cs
 | [], [], m, _, _, _, _ => rfl
 | [], _ :: _, m, h, _, _, _ => by cases h
 | _ :: _, [], m, h, _, _, _ => by cases h
 | (b, a) :: as, (b', c) :: cs, m, h, hf, hc, hd => by
  rw [eqfBs, Bool.and_eq_true] at h
  rw [List.map_cons, List.map_cons, List.cons.injEq] at hf
  obtain ⟨rfl, hf⟩ := hf
  rw [List.flatMap_cons] at hd
  have hc' : ∀ (i : Nat) (a c : V), as[i]? = some (false, a) → cs[i]? = some (false, c) → a = c := fun i a c ha hc2 => hc (i + 1) a c (by simpa using ha) (by simpa using hc2)
  cases b with
  | true =>
   have h1 := refV_eq ds a c m h.1 fun i t hi => hd i t (by
    show (datV c ++ cs.flatMap datB)[i]? = some t
    rw [List.getElem?_append_left (List.getElem?_eq_some_iff.1 hi).1]; exact hi)
   rw [refBs, h1]
   simp only
   rw [refBs_eq ds as cs _ h.2 hf hc' fun i t hi => by
    rw [Nat.add_assoc]
    exact hd _ t (by
     show (datV c ++ cs.flatMap datB)[(datV c).length + i]? = some t
     rw [List.getElem?_append_right (by omega), Nat.add_sub_cancel_left]; exact hi)]
  | false =>
   rw [refBs, hc 0 a c rfl rfl]
   rw [refBs_eq ds as cs m h.2 hf hc' fun i t hi => hd i t hi]
theorem fill_eq {s s' : Snap} (he : s.eqf s' = true) (hf : s.vs.map (·.1) = s'.vs.map (·.1)) (hc : ∀ (i : Nat) (a c : V), s.vs[i]? = some (false, a) → s'.vs[i]? = some (false, c) → a = c) : s.fill (tAt s'.dat) = s' := by
 rw [Snap.eqf, Bool.and_eq_true] at he
 have hd : ∀ (i : Nat) (t : T), s'.dat[i]? = some t → tAt s'.dat i = t := fun i t hi => by rw [tAt_eq]; simp [List.getD, hi]
 have h1 := refOs_eq (tAt s'.dat) s.os s'.os 0 he.1 fun i t hi => by
  rw [Nat.zero_add]
  exact hd i t (by rw [Snap.dat, List.getElem?_append_left (List.getElem?_eq_some_iff.1 hi).1]; exact hi)
 have h2 := refBs_eq (tAt s'.dat) s.vs s'.vs (0 + (s'.os.flatMap datO).length) he.2 hf hc fun i t hi => by
  rw [Nat.zero_add]
  exact hd _ t (by rw [Snap.dat, List.getElem?_append_right (by omega), Nat.add_sub_cancel_left]; exact hi)
 unfold Snap.fill
 rw [h1]
 simp only
 rw [h2]
end Go.Vm
namespace Go.Vm
set_option linter.unusedVariables false
set_option linter.unusedSimpArgs false
variable {P : Program} {X : Cx} {FZ FZ' : Nat → Prop} {β β' : Nat → Value} {w w' : World} {E : Env} {s s' : Objs}
theorem lpN_succ (F : List T → Option LRes) : ∀ (n : Nat) (ds : List T) (r : LRes), lpN F n ds = some r → lpN F (n + 1) ds = some r
 | 0, ds, r, h => by cases h
 | n + 1, ds, r, h => by
  rw [lpN] at h ⊢
  cases hF : F ds with
  | none => rw [hF] at h; cases h
  | some x =>
   rw [hF] at h
   cases x with
   | next ds' => exact lpN_succ F n ds' r h
   | brk d => exact h
   | ret o => exact h
theorem lpN_le (F : List T → Option LRes) {n m : Nat} (h : n ≤ m) {ds : List T} {r : LRes} (hr : lpN F n ds = some r) : lpN F m ds = some r := by
 induction h with
 | refl => exact hr
 | step _ ih => exact lpN_succ F _ _ _ ih
open Classical in
noncomputable def lp0 (F : List T → Option LRes) (ds : List T) : Option LRes :=
 if h : ∃ n, (lpN F n ds).isSome then lpN F (Classical.choose h) ds else none
theorem lp0_spec {F : List T → Option LRes} {ds : List T} {r : LRes} (h : lp0 F ds = some r) : ∃ n, lpN F n ds = some r := by
 unfold lp0 at h
 split at h
 ·exact ⟨_, h⟩
 ·cases h
theorem lp0_of {F : List T → Option LRes} {ds : List T} {r : LRes} {n : Nat} (h : lpN F n ds = some r) : lp0 F ds = some r := by
 unfold lp0
 have hx : ∃ n, (lpN F n ds).isSome := ⟨n, by rw [h]; rfl⟩
 rw [dif_pos hx]
 obtain ⟨r', hr'⟩ := Option.isSome_iff_exists.1 (Classical.choose_spec hx)
 rw [hr']
 rcases Nat.le_total n (Classical.choose hx) with hl | hl
 ·rw [← hr', lpN_le F hl h]
 ·rw [← hr', ← h, hr', lpN_le F hl hr']
theorem lp0_eq (F : List T → Option LRes) (ds : List T) : lp0 F ds = (F ds).bind fun
  | .next ds' => lp0 F ds'
  | r => some r := by
 cases hF : F ds with
 | none =>
  cases h : lp0 F ds with
  | none => rfl
  | some r =>
   obtain ⟨n, hn⟩ := lp0_spec h
   cases n with
   | zero => cases hn
   | succ n => rw [lpN, hF] at hn; cases hn
 | some x =>
  have key : ∀ r, lp0 F ds = some r ↔ ((some x).bind fun
    | .next ds' => lp0 F ds'
    | r => some r) = some r := by
   intro r
   constructor
   ·intro h
    obtain ⟨n, hn⟩ := lp0_spec h
    cases n with
    | zero => cases hn
    | succ n =>
     rw [lpN, hF] at hn
     cases x with
     | next ds' => exact lp0_of hn
     | brk d => exact hn
     | ret o => exact hn
   ·intro h
    cases x with
    | next ds' =>
     obtain ⟨n, hn⟩ := lp0_spec h
     exact lp0_of (n := n + 1) (by rw [lpN, hF]; exact hn)
    | brk d => exact lp0_of (n := 1) (by rw [lpN, hF]; exact h)
    | ret o => exact lp0_of (n := 1) (by rw [lpN, hF]; exact h)
  exact Option.ext fun r => key r
theorem dedup_mem {x : Nat} : ∀ (l acc : List Nat), x ∈ dedup l acc ↔ x ∈ l ∨ x ∈ acc
 | [], acc => by simp [dedup]
 | y :: l, acc => by
  rw [dedup]
  cases hb : acc.any (Nat.beq y) with
  | true =>
   rw [cond_true, dedup_mem l acc, List.mem_cons]
   have := any_mem hb
   constructor
   ·rintro (h | h)
    ·exact .inl (.inr h)
    ·exact .inr h
   ·rintro ((rfl | h) | h)
    ·exact .inr this
    ·exact .inl h
    ·exact .inr h
  | false =>
   rw [cond_false, dedup_mem l (y :: acc), List.mem_cons, List.mem_cons]
   constructor
   ·rintro (h | h | h)
    ·exact .inl (.inr h)
    ·exact .inl (.inl h)
    ·exact .inr h
   ·rintro ((h | h) | h)
    ·exact .inr (.inl h)
    ·exact .inl h
    ·exact .inr (.inr h)
theorem dedup_nodup : ∀ (l acc : List Nat), acc.Nodup → (dedup l acc).Nodup
 | [], acc, h => by
  rw [dedup]
  exact (List.pairwise_reverse.2 (h.imp fun h e => h e.symm))
 | y :: l, acc, h => by
  rw [dedup]
  cases hb : acc.any (Nat.beq y) with
  | true => rw [cond_true]; exact dedup_nodup l acc h
  | false =>
   rw [cond_false]
   refine dedup_nodup l _ (List.nodup_cons.2 ⟨fun hm => ?_, h⟩)
   rw [mem_any hm] at hb; cases hb
theorem aliveIds_mem {objs : Objs} {l : List Nat} {i : Nat} (h : i ∈ aliveIds objs l) : (objs i).o ≠ none := by
 have := (List.mem_filter.1 h).2
 intro e
 rw [e] at this; cases this
theorem reachIds_spec (σ : St) (keep : List Nat) : (reachIds σ keep).Nodup ∧ ∀ i ∈ reachIds σ keep, (σ.objs i).o ≠ none := by
 unfold reachIds
 rw [forceN_eq, forceN_eq]
 refine ⟨dedup_nodup _ _ List.nodup_nil, fun i hi => ?_⟩
 rcases (dedup_mem _ _).1 hi with hi | hi
 ·rcases List.mem_append.1 hi with hi | hi
  ·rcases (dedup_mem _ _).1 hi with hi | hi
   ·rcases List.mem_append.1 hi with hi | hi
    ·exact aliveIds_mem hi
    ·exact aliveIds_mem hi
   ·cases hi
  ·exact aliveIds_mem hi
 ·cases hi
theorem reachAt_spec (σ : St) (keepW keep : List Nat) : (reachAt σ keepW keep).Nodup ∧ ∀ i ∈ reachAt σ keepW keep, (σ.objs i).o ≠ none := by
 unfold reachAt
 refine ⟨dedup_nodup _ _ List.nodup_nil, fun i hi => ?_⟩
 rcases (dedup_mem _ _).1 hi with hi | hi
 ·rcases List.mem_append.1 hi with hi | hi
  ·exact (reachIds_spec σ keepW).2 i hi
  ·exact (reachIds_spec σ keep).2 i hi
 ·cases hi
theorem keepOf_mem {pre post body : List Nat} {t : Nat} : t ∈ keepOf pre post body ↔ t ∈ pre ∧ (t ∈ body ∨ t ∈ post) := by
 unfold keepOf
 rw [dedup_mem, List.mem_filter]
 constructor
 ·rintro (⟨h1, h2⟩ | h)
  ·exact ⟨h1, List.mem_append.1 (any_mem h2)⟩
  ·cases h
 ·rintro ⟨h1, h2⟩
  exact .inl ⟨h1, mem_any (List.mem_append.2 h2)⟩
theorem eqfOs_length : ∀ {as cs : List (Option O)}, eqfOs as cs = true → as.length = cs.length
 | [], [], _ => rfl
 | [], _ :: _, h => by cases h
 | _ :: _, [], h => by cases h
 | _ :: as, _ :: cs, h => by
  rw [eqfOs, Bool.and_eq_true] at h
  simp [eqfOs_length h.2]
theorem eqfBs_get : ∀ {as cs : List (Bool × V)}, eqfBs as cs = true → ∀ (i : Nat) (a c : Bool × V), as[i]? = some a → cs[i]? = some c → eqfV a.2 c.2 = true
 | [], cs, _, i, a, c, h, _ => by simp at h
 | _ :: _, [], h, _, _, _, _, _ => by cases h
 | (b, a) :: as, (b', c) :: cs, h, 0, x, y, hx, hy => by
  rw [eqfBs, Bool.and_eq_true] at h
  simp only [List.getElem?_cons_zero, Option.some.injEq] at hx hy
  subst hx hy
  exact h.1
 | (b, a) :: as, (b', c) :: cs, h, i + 1, x, y, hx, hy => by
  rw [eqfBs, Bool.and_eq_true] at h
  exact eqfBs_get h.2 i x y (by simpa using hx) (by simpa using hy)
structure Rel (pre post wr : List Nat) (σ σ' : St) : Prop where
 fr : Fr σ.objs σ'.objs
 sk : ∀ t, t ∈ pre → t ∈ post → t ∉ wr → Sk (σ.tm t) (σ'.tm t)
theorem Rel.refl (pre post wr : List Nat) (σ : St) : Rel pre post wr σ σ := ⟨Fr.refl _, fun t _ _ _ => Sk.refl _⟩
theorem head_fr {bid : Nat} {con : List Nat} {σ : St} {keep : List (Bool × Nat)} {sn : Snap} (hnew : ∀ p, p < sn.os.length → (σ.objs (nL bid p)).ver = 0) : Fr σ.objs (sn.st bid (baseOf con σ.objs) keep).objs := by
 intro i
 show (σ.objs i).ver ≤ (objsOf bid (baseOf con σ.objs) sn.os 0 i).ver ∧ _
 by_cases hL : ∃ p, p < sn.os.length ∧ i = nL bid p
 ·obtain ⟨p, hp, rfl⟩ := hL
  have := objsOf_get (bid := bid) (base := baseOf con σ.objs) sn.os 0 p _ (List.getElem?_eq_getElem hp)
  rw [Nat.zero_add] at this
  refine ⟨by rw [hnew p hp]; exact Nat.zero_le _, fun e => ?_⟩
  have e : (objsOf bid (baseOf con σ.objs) sn.os 0 (nL bid p)).ver = _ := e
  rw [this, hnew p hp] at e
  cases e
 ·have hL : ∀ p, p < sn.os.length → i ≠ nL bid (0 + p) := fun p hp e => hL ⟨p, hp, by rw [Nat.zero_add] at e; exact e⟩
  have e1 : objsOf bid (baseOf con σ.objs) sn.os 0 i = baseOf con σ.objs i := objsOf_base _ _ hL
  rw [e1]
  refine ⟨?_, fun e => ?_⟩
  ·unfold baseOf
   cases con.any (Nat.beq i) with
   | true => exact Nat.le_refl _
   | false =>
    rw [cond_false]
    split
    ·exact Nat.le_succ _
    ·exact Nat.le_refl _
  ·have e : (objsOf bid (baseOf con σ.objs) sn.os 0 i).ver = _ := e
   show (objsOf bid (baseOf con σ.objs) sn.os 0 i).o = _
   rw [e1] at e ⊢
   unfold baseOf at e ⊢
   cases hc : con.any (Nat.beq i) with
   | true => rfl
   | false =>
    rw [hc, cond_false] at e
    rw [cond_false]
    split at e
    ·exact absurd e (Nat.succ_ne_self _)
    ·rename_i hn
     first
      | rfl
      | (split <;> first | rfl | (rename_i hs; rw [hn] at hs; cases hs))
def Ex.toExit : Ex → Exit
 | .norm => .normal
 | .exit id => .exit id
theorem OK.moveTo {X : Cx} {w : World} {FZ : Nat → Prop} {β : Nat → Value} {s : Objs} {x y sz : Nat} {rs : List (List T)} (h : OK X w FZ β s []) (hx : (s x).o = some (.rows .own sz rs)) (hz : x ≠ 7) (hβ : β x = β y)
  (hy : (s y).o = none) (hy1 : 1 ≤ (s y).ver) : OK X w FZ β (putS (putS s x true none) y true (some (.rows .own sz rs))) [] := by
 have hv : 1 ≤ vers s x := h.live x _ hx
 have hrep : Ow w X.RO FZ (.sl .own sz rs) (β x) := h.rep x _ hx
 have hR : ∃ len, RepV (vers s) β (.sl x true 0 len sz) (β x) := by
  generalize hb : β x = v at hrep
  cases hrep with
  | nil => exact ⟨0, .sl0 hz hv hb⟩
  | emp => exact ⟨0, .se hv hb⟩
  | own h0 hr hl hbd hw hc hn hd => exact ⟨rs.length, .sl hv hb (by omega) (Nat.le_of_eq (Nat.zero_add _)) hl (fun _ => ⟨Nat.zero_add _, Nat.zero_add _⟩) (.inl (by omega))⟩
 obtain ⟨len, hR⟩ := hR
 have he : OwnE s (.sl x true 0 len sz) (.sl .own sz (cut true 0 len rs)) _ := .own hx
 have h1 := own_sem h hR he
 rw [hβ] at h1
 have h1 : OK X w FZ β (putS s x true none) ([] ++ [(.sl .own sz rs, β y)]) := by simpa [cut] using h1
 refine h1.home ?_ ?_
 ·by_cases e : y = x
  ·subst e; simp
  ·rw [putS_ne _ _ _ e]; exact hy
 ·exact Nat.le_trans hy1 (putS_ver _ _ _ _ _)
theorem home1_fr (x y : Nat) (s : Objs) : Fr s (home1 x y s) := by
 unfold home1
 split
 ·split
  ·cases hc : Nat.ble 1 (s y).ver with
   | true => rw [cond_true]; exact (Fr.put _ _ _).trans (Fr.put _ _ _)
   | false => exact Fr.refl _
  ·exact Fr.refl _
 ·exact Fr.refl _
theorem home1_ok {X : Cx} {w : World} {FZ : Nat → Prop} {β : Nat → Value} {s : Objs} {x y : Nat} (h : OK X w FZ β s []) (hz : x ≠ 7) (hβ : β x = β y) : OK X w FZ β (home1 x y s) [] := by
 unfold home1
 split
 ·rename_i sz rs hx
  split
  ·rename_i hy
   cases hc : Nat.ble 1 (s y).ver with
   | true => rw [cond_true]; exact h.moveTo hx hz hβ hy (Nat.le_of_ble_eq_true hc)
   | false => exact h
  ·exact h
 ·exact h
theorem homeAll_fr (bid : Nat) : ∀ (l : List (Nat × Nat)) (s : Objs), Fr s (homeAll bid l s)
 | [], s => Fr.refl s
 | (p, id) :: l, s => (home1_fr _ _ s).trans (homeAll_fr bid l _)
theorem homeAll_ok {X : Cx} {w : World} {FZ : Nat → Prop} {β : Nat → Value} {bid : Nat} : ∀ (l : List (Nat × Nat)) {s : Objs}, OK X w FZ β s [] → (∀ e ∈ l, β (nL bid e.1) = β e.2) → OK X w FZ β (homeAll bid l s) []
 | [], s, h, _ => h
 | (p, id) :: l, s, h, hβ => homeAll_ok l (home1_ok h (by unfold nL; omega) (hβ _ List.mem_cons_self)) fun e he => hβ e (List.mem_cons_of_mem _ he)
theorem homeAll_inv {X : Cx} {w : World} {FZ : Nat → Prop} {β : Nat → Value} {bid N : Nat} {l : List (Nat × Nat)} {σ : St} {a : Act} (h : Inv X w FZ β N σ a) (hβ : ∀ e ∈ l, β (nL bid e.1) = β e.2) :
  Inv X w FZ β N { tm := σ.tm, objs := homeAll bid l σ.objs } a :=
 ⟨homeAll_ok l h.ok hβ, fun t => (h.tm t).ver fun i => (homeAll_fr bid l σ.objs i).1, h.sz, h.df⟩
theorem staysOf_spec {io : List Nat} : ∀ {ids : List Nat} {q : Nat} {e : Nat × Nat}, e ∈ staysOf io ids q → q ≤ e.1 ∧ ids[e.1 - q]? = some e.2
 | [], q, e, h => by cases h
 | id :: ids, q, e, h => by
  have rest : e ∈ staysOf io ids (q + 1) → q ≤ e.1 ∧ (id :: ids)[e.1 - q]? = some e.2 := fun h => by
   obtain ⟨h1, h2⟩ := staysOf_spec h
   refine ⟨by omega, ?_⟩
   rw [show e.1 - q = e.1 - (q + 1) + 1 by omega, List.getElem?_cons_succ]; exact h2
  rw [staysOf] at h
  cases hc : io.any (Nat.beq id) with
  | false => rw [hc] at h; exact rest h
  | true =>
   rw [hc, cond_true, List.mem_cons] at h
   rcases h with rfl | h
   ·exact ⟨Nat.le_refl _, by simp⟩
   ·exact rest h
theorem staysOk_spec {bid : Nat} {sts : List (Nat × Nat)} {ids : List Nat} (h : staysOk bid sts ids = true) : ∀ e ∈ sts, ids[e.1]? = some (nL bid e.1) := fun e he => by
 have h1 := beq_eq (List.all_eq_true.1 h e he)
 rw [List.getD] at h1
 cases hx : ids[e.1]? with
 | none =>
  have h1 : 0 = nL bid e.1 := by rw [hx] at h1; exact h1
  unfold nL at h1; omega
 | some i => rw [hx] at h1; exact congrArg some h1
theorem mat_new {X : Cx} {w : World} {FZ : Nat → Prop} {β : Nat → Value} {s : Objs} {q : Nat} (h : OK X w FZ β s []) (hq : (s q).ver = 0) (sz : Nat) :
  OK X w FZ (upd β q (.slice none 0 0)) (putS s q true (some (.rows .own sz []))) [] ∧ Ext s β (putS s q true (some (.rows .own sz []))) (upd β q (.slice none 0 0)) ∧ 1 ≤ (putS s q true (some (.rows .own sz [])) q).ver := by
 have h1 : OK X w FZ β s ([] ++ [(.sl .own sz [], .slice none 0 0)]) := h.hand .nil fun b hb => by cases hb
 refine ⟨h1.place hq, fun i hi => ⟨Nat.le_trans hi (putS_ver _ _ _ _ _), upd_ne _ _ fun e => by subst e; omega⟩, by rw [putS_bump]; omega⟩
theorem matSlots_sound {X : Cx} {w : World} {FZ : Nat → Prop} {N : Nat} {a : Act} {γ : Type} {e : Bool} {bid : Nat} {r : γ} : ∀ (ts : List Nat) (p : Nat) {σ : St} {β : Nat → Value} {k : Nat → St → Option γ}, matSlots e bid ts p σ k = some r → Inv X w FZ β N σ a →
  ∃ p1 σ1 β1, k p1 σ1 = some r ∧ Inv X w FZ β1 N σ1 a ∧ Ext σ.objs β σ1.objs β1 ∧ Fr σ.objs σ1.objs ∧ ∀ t, t ∉ ts → σ1.tm t = σ.tm t
 | [], p, σ, β, k, h, hi => ⟨p, σ, β, h, hi, Ext.refl _ _, Fr.refl _, fun _ _ => rfl⟩
 | t :: ts, p, σ, β, k, h, hi => by
  rw [matSlots] at h
  split at h
  ·rename_i sz ht
   cases hc : Nat.beq (σ.objs (nMat e bid p)).ver 0 with
   | false => rw [hc] at h; cases h
   | true =>
    rw [hc, cond_true] at h
    have hq := beq_eq hc
    obtain ⟨o1, x1, v1⟩ := mat_new hi.ok hq sz
    have hval := hi.tm t
    rw [ht] at hval
    obtain ⟨p1, σ1, β1, g1, g2, g3, g4, g5⟩ := matSlots_sound ts (p + 1) h ⟨o1, fun t' => (by
     show RepV _ _ (upd σ.tm t _ t') _
     by_cases et : t' = t
     ·subst et
      rw [upd_same]
      generalize a.eval (.tmp t') = y at hval
      cases hval
      exact .sl0 (by unfold nMat; cases e <;> simp only [cond_true, cond_false] <;> omega) v1 (upd_same _ _ _)
     ·rw [upd_ne _ _ et]; exact (hi.tm t').ext x1), hi.sz, hi.df⟩
    refine ⟨p1, σ1, β1, g1, g2, x1.trans g3, (Fr.put _ _ _).trans g4, fun t' hn => ?_⟩
    rw [List.mem_cons, not_or] at hn
    rw [g5 t' hn.2]
    exact upd_ne _ _ hn.1
  ·obtain ⟨p1, σ1, β1, g1, g2, g3, g4, g5⟩ := matSlots_sound ts p h hi
   exact ⟨p1, σ1, β1, g1, g2, g3, g4, fun t' hn => g5 t' fun hm => hn (List.mem_cons_of_mem _ hm)⟩
theorem matCells_sound {X : Cx} {w : World} {FZ : Nat → Prop} {γ : Type} {e : Bool} {bid : Nat} {r : γ} : ∀ (vs : List V) (p : Nat) {s : Objs} {β : Nat → Value} {k : List V → Nat → Objs → Option γ}, matCells e bid vs p s k = some r → OK X w FZ β s [] →
  ∃ us p1 s1 β1, k us p1 s1 = some r ∧ OK X w FZ β1 s1 [] ∧ Ext s β s1 β1 ∧ Fr s s1 ∧ us.length = vs.length ∧ (∀ id o, (s id).o = some o → (s1 id).o = some o) ∧ ∀ (j : Nat) (v u : V) (x : Value), vs[j]? = some v → us[j]? = some u → RepV (vers s) β v x → RepV (vers s1) β1 u x
 | [], p, s, β, k, h, ho => ⟨[], p, s, β, h, ho, Ext.refl _ _, Fr.refl _, rfl, fun _ _ h => h, fun j v u x hv => by simp at hv⟩
 | v :: vs, p, s, β, k, h, ho => by
  unfold matCells at h
  split at h
  ·rename_i sz
   cases hc : Nat.beq (s (nMat e bid p)).ver 0 with
   | false => rw [hc] at h; cases h
   | true =>
    rw [hc, cond_true] at h
    have hq := beq_eq hc
    obtain ⟨o1, x1, v1⟩ := mat_new ho hq sz
    obtain ⟨us, p1, s1, β1, g1, g2, g3, g4, g5, g6, g7⟩ := matCells_sound vs (p + 1) h o1
    refine ⟨_, p1, s1, β1, g1, g2, x1.trans g3, (Fr.put _ _ _).trans g4, by simp [g5], fun id o hid => g6 id o (by
     rw [putS_ne _ _ _ fun e => by subst e; have := ho.live _ _ hid; omega]; exact hid), fun j v u x hv hu hr => ?_⟩
    cases j with
    | zero =>
     simp only [List.getElem?_cons_zero, Option.some.injEq] at hv hu
     subst hv; subst hu
     cases hr
     exact .sl0 (by unfold nMat; cases e <;> simp only [cond_true, cond_false] <;> omega) (g3 _ v1).1 ((g3 _ v1).2.trans (upd_same _ _ _))
    | succ j => exact g7 j v u x (by simpa using hv) (by simpa using hu) (hr.ext x1)
  ·obtain ⟨us, p1, s1, β1, g1, g2, g3, g4, g5, g6, g7⟩ := matCells_sound vs p h ho
   refine ⟨_, p1, s1, β1, g1, g2, g3, g4, by simp [g5], g6, fun j v u x hv hu hr => ?_⟩
   cases j with
   | zero =>
    simp only [List.getElem?_cons_zero, Option.some.injEq] at hv hu
    subst hv; subst hu
    exact hr.ext g3
   | succ j => exact g7 j v u x (by simpa using hv) (by simpa using hu) hr
theorem OK.boxAs {X : Cx} {w : World} {FZ : Nat → Prop} {β β0 : Nat → Value} {s s0 : Objs} {id : Nat} {ro : Bool} {cells us : List V} (h : OK X w FZ β s []) (hid : (s id).o = some (.box ro cells)) (hl : us.length = cells.length)
  (h0 : RepO w X.RO FZ β0 s0 id (.box ro cells)) (hb0 : β id = β0 id) (hu : ∀ (j : Nat) (v u : V) (x : Value), cells[j]? = some v → us[j]? = some u → RepV (vers s0) β0 v x → RepV (vers s) β u x) : OK X w FZ β (putS s id true (some (.box ro us))) [] := by
 have vup : ∀ i, (s i).ver ≤ (putS s id true (some (.box ro us)) i).ver := fun i => putS_ver _ _ _ _ _
 refine h.move (fun i o ho => ?_) (fun i o ho => ?_) h.pow _root_.id (fun u b hb => ?_) (fun u u' b hne e => absurd e hne)
 ·by_cases e : i = id
  ·subst e
   rw [putS_same] at ho
   obtain rfl := (Option.some.inj ho).symm
   obtain ⟨b, c, q1, q2, q3, q4, q5⟩ := h0
   refine ⟨b, c, hb0.trans q1, q2, by omega, fun j v x hv hx => ?_, q5⟩
   have hj : j < cells.length := by have := (List.getElem?_eq_some_iff.1 hv).1; omega
   have hc := List.getElem?_eq_getElem hj
   obtain ⟨r1, r2⟩ := q4 j _ x hc hx
   exact ⟨(hu j _ v x hc hv r1).ver vup, r2⟩
  ·rw [putS_ne _ _ _ e] at ho
   have hr := h.rep i o ho
   cases o with
   | box => exact hr.up (by simp) vup (fun _ _ => rfl) rfl
   | rows => exact hr.up (by simp) vup (fun _ _ => rfl) rfl
   | mp => exact hr.up (by simp) vup (fun _ _ => rfl) rfl
   | link x ver i' j =>
    refine hr.link_of (vup x) rfl fun hx => ?_
    by_cases ex : x = id
    ·subst ex
     have := hr.1
     rw [hx, putS_bump] at this
     omega
    ·exact .inr ⟨by rw [putS_ne _ _ _ ex], rfl⟩
 ·by_cases e : i = id
  ·subst e; rw [putS_bump]; omega
  ·rw [putS_ne _ _ _ e] at ho ⊢; exact h.live i o ho
 ·rcases u with i | k
  ·obtain ⟨o, ho, hb⟩ := hb
   by_cases e : i = id
   ·subst e
    rw [putS_same] at ho
    obtain rfl := (Option.some.inj ho).symm
    exact ⟨_, hid, hb⟩
   ·rw [putS_ne _ _ _ e] at ho
    exact ⟨o, ho, hb⟩
  ·exact hb
theorem matBoxes_sound {X : Cx} {w : World} {FZ : Nat → Prop} {N : Nat} {a : Act} {γ : Type} {e : Bool} {bid : Nat} {r : γ} : ∀ (ids : List Nat) (p : Nat) {σ : St} {β : Nat → Value} {k : St → Option γ}, matBoxes e bid ids p σ k = some r → Inv X w FZ β N σ a →
  ∃ σ1 β1, k σ1 = some r ∧ Inv X w FZ β1 N σ1 a ∧ Ext σ.objs β σ1.objs β1 ∧ Fr σ.objs σ1.objs ∧ ∀ t, σ1.tm t = σ.tm t
 | [], p, σ, β, k, h, hi => ⟨σ, β, h, hi, Ext.refl _ _, Fr.refl _, fun _ => rfl⟩
 | id :: ids, p, σ, β, k, h, hi => by
  rw [matBoxes] at h
  split at h
  ·rename_i cells hb
   cases hc : cells.any isNlV with
   | false => rw [hc] at h; exact matBoxes_sound ids p h hi
   | true =>
    rw [hc, cond_true] at h
    obtain ⟨us, p1, s1, β1, g1, g2, g3, g4, g5, g6, g7⟩ := matCells_sound cells p h hi.ok
    have hl := hi.ok.live _ _ hb
    have hx : Ext s1 β1 (putS s1 id true (some (.box false us))) β1 := Ext.ver _ fun i => putS_ver _ _ _ _ _
    have o2 := g2.boxAs (g6 _ _ hb) g5 (hi.ok.rep _ _ hb) (g3 id hl).2 g7
    obtain ⟨σ2, β2, k1, k2, k3, k4, k5⟩ := matBoxes_sound ids p1 g1 (σ := { σ with objs := putS s1 id true (some (.box false us)) }) ⟨o2, fun t => (hi.tm t).ext (g3.trans hx), hi.sz, hi.df⟩
    exact ⟨σ2, β2, k1, k2, (g3.trans hx).trans k3, (g4.trans (Fr.put _ _ _)).trans k4, k5⟩
  ·exact matBoxes_sound ids p h hi
theorem matAll_sound {X : Cx} {w : World} {FZ : Nat → Prop} {N : Nat} {a : Act} {γ : Type} {e : Bool} {bid : Nat} {r : γ} {ws ids : List Nat} {σ : St} {β : Nat → Value} {k : St → Option γ} (h : matAll e bid ws ids σ k = some r) (hi : Inv X w FZ β N σ a) :
  ∃ σ1 β1, k σ1 = some r ∧ Inv X w FZ β1 N σ1 a ∧ Ext σ.objs β σ1.objs β1 ∧ Fr σ.objs σ1.objs ∧ ∀ t, t ∉ ws → σ1.tm t = σ.tm t := by
 obtain ⟨p1, σ1, β1, g1, g2, g3, g4, g5⟩ := matSlots_sound ws 0 h hi
 obtain ⟨σ2, β2, k1, k2, k3, k4, k5⟩ := matBoxes_sound ids p1 g1 g2
 exact ⟨σ2, β2, k1, k2, g3.trans k3, g4.trans k4, fun t hn => (k5 t).trans (g5 t hn)⟩
end Go.Vm
namespace Go.Vm
set_option linter.unusedVariables false
set_option linter.unusedSimpArgs false
variable {P : Program} {X : Cx} {FZ0 : Nat → Prop} {w0 : World} {E : Env}
structure Owes (X : Cx) (FZ0 : Nat → Prop) (w0 : World) (E : Env) (F : Fn) (N : Nat) (r : LRes) (Q : Exit → Act → World → Prop) (pre post wr : List Nat) (σ : St) (β : Nat → Value) (k : Ex → St → Option LRes) : Prop where
 go : ∀ (e : Ex) (σ' : St) (β' : Nat → Value) (FZ' : Nat → Prop) (w' : World) (a' : Act), k e σ' = some r → Inv X w' FZ' β' N σ' a' → Ext σ.objs β σ'.objs β' → Wd X FZ0 FZ' w0 w' → Rel pre post wr σ σ' → Q e.toExit a' w'
 ret : ∀ (σ' : St) (β' : Nat → Value) (FZ' : Nat → Prop) (w' : World) (a' : Act), fin E F σ' = some r → Inv X w' FZ' β' N σ' a' → Ext σ.objs β σ'.objs β' → Wd X FZ0 FZ' w0 w' → Q .ret a' w'
theorem least_ex {p : Nat → Prop} : (∃ n, p n) → ∃ n, p n ∧ ∀ m, p m → n ≤ m := fun ⟨n, h⟩ => by
 induction n using Nat.strongRecOn with
 | _ n ih =>
  by_cases hx : ∃ m, m < n ∧ p m
  ·obtain ⟨m, h1, h2⟩ := hx; exact ih m h1 h2
  ·exact ⟨n, h, fun m hm => Nat.le_of_not_lt fun hl => hx ⟨m, hl, hm⟩⟩
noncomputable def lst (p : Nat → Prop) (h : ∃ n, p n) : Nat := Classical.choose (least_ex h)
theorem lst_spec {p : Nat → Prop} (h : ∃ n, p n) : p (lst p h) := (Classical.choose_spec (least_ex h)).1
theorem lst_min {p : Nat → Prop} (h : ∃ n, p n) {m : Nat} (hm : p m) : lst p h ≤ m := (Classical.choose_spec (least_ex h)).2 m hm
theorem same_tm {σ : St} {t : Nat} {b : Bool} (h : σ.tm t = .im (.bool b)) : ({ σ with tm := upd σ.tm t (.im (.bool b)) } : St) = σ := by rw [← h, upd_self]
structure Kp (bid : Nat) (con : List Nat) (keep : List (Bool × Nat)) (σ : St) (s : Snap) (ds : List T) (σk : St) (idsk : List Nat) : Prop where
 hcon : ∀ i ∈ con, σk.objs i = σ.objs i
 nd : idsk.Nodup
 dis : ∀ i ∈ idsk, i ∉ con
 len : idsk.length = s.os.length
 fill : s.fill (tAt ds) = snap bid σk keep con idsk
 const : ∀ (i : Nat) (x : Bool × Nat) (a : V), keep[i]? = some x → x.1 = false → s.vs[i]? = some (false, a) → renV bid con idsk (σk.tm x.2) = a
def St1 (sts : List (Nat × Nat)) (ids : List Nat) (β1 β : Nat → Value) : Prop := ∀ e ∈ sts, ∃ i, ids[e.1]? = some i ∧ β1 i = β e.2
theorem rounds_of {c : Code} {Q : Exit → Act → World → Prop} (I : Act → World → Prop) (μ : Act → World → Nat) {a : Act} {w : World} (h0 : I a w)
  (round : ∀ a w, I a w → c.wp P (Exit.then (fun a' w' => I a' w' ∧ μ a' w' < μ a w) Q) a w) : ∃ n, Code.rounds P c Q n a w := by
 have key : ∀ n a w, μ a w < n → I a w → Code.rounds P c Q n a w := by
  intro n
  induction n with
  | zero => intro a w h _; omega
  | succ n ih =>
   intro a w hn hI
   rw [rounds_succ]
   refine Code.wp_mono (fun e a' w' q => ?_) (round a w hI)
   cases e with
   | normal =>
    have q : I a' w' ∧ μ a' w' < μ a w := q
    exact ih a' w' (by omega) q.1
   | _ => exact q
 exact ⟨_, key _ a w (Nat.lt_succ_self _) h0⟩
theorem wp_loop_peel {c : Code} {Q : Exit → Act → World → Prop} {a : Act} {w : World} (h : c.wp P (Exit.then (fun a' w' => ∃ n, Code.rounds P c Q n a' w') Q) a w) : (Code.loop c).wp P Q a w := by
 intro b k cs
 have key : ∀ n a w, Code.rounds P c Q n a w → ∃ e a' w', Q e a' w' ∧ Arrives P (lone (b.at a (.code c :: .inLoop c :: k)) cs w) b k cs e a' w' := by
  intro n
  induction n with
  | zero => exact fun a w h => h.elim
  | succ n ih =>
   intro a w h
   obtain ⟨e, a1, w1, hq, harr⟩ := h b (.inLoop c :: k) cs
   cases e with
   | normal =>
    obtain ⟨e2, a2, w2, hq2, harr2⟩ := ih a1 w1 hq
    exact ⟨e2, a2, w2, hq2, .of_steps (Steps.trans harr (.one step_inLoop)) harr2⟩
   | exit id => exact ⟨_, a1, w1, hq, .pass (x := .inLoop c) rfl (fun _ _ => .inl (by simp)) harr⟩
   | goto l => exact ⟨_, a1, w1, hq, .pass (x := .inLoop c) rfl (fun _ _ => .inl (by simp)) harr⟩
   | ret => exact ⟨_, a1, w1, hq, harr⟩
   | panic ch => exact ⟨_, a1, w1, hq, harr⟩
   | outgrown => exact ⟨_, a1, w1, hq, harr⟩
 obtain ⟨e, a1, w1, hq, harr⟩ := h b (.inLoop c :: k) cs
 cases e with
 | normal =>
  obtain ⟨n, hq⟩ := hq
  obtain ⟨e2, a2, w2, hq2, harr2⟩ := key n a1 w1 hq
  exact ⟨e2, a2, w2, hq2, .of_steps (.one step_loop) (.of_steps (Steps.trans harr (.one step_inLoop)) harr2)⟩
 | exit id => exact ⟨_, a1, w1, hq, .of_steps (.one step_loop) (.pass (x := .inLoop c) rfl (fun _ _ => .inl (by simp)) harr)⟩
 | goto l => exact ⟨_, a1, w1, hq, .of_steps (.one step_loop) (.pass (x := .inLoop c) rfl (fun _ _ => .inl (by simp)) harr)⟩
 | ret => exact ⟨_, a1, w1, hq, .of_steps (b := b) (k := k) (cs := cs) (e := .ret) (.one step_loop) harr⟩
 | panic ch => exact ⟨_, a1, w1, hq, .of_steps (b := b) (k := k) (cs := cs) (e := .panic ch) (.one step_loop) harr⟩
 | outgrown => exact ⟨_, a1, w1, hq, .of_steps (b := b) (k := k) (cs := cs) (e := .outgrown) (.one step_loop) harr⟩
theorem evK_sound {F : Fn} {N : Nat} {io : List Nat} (hP : E.P = P) (hM : P.follows .mixedOrders = true) (hS : SoundG P E) : ∀ (c : Code) (bid : Nat) (pre post : List Nat) (σ : St) (k : Ex → St → Option LRes) (r : LRes) (Q : Exit → Act → World → Prop)
  (w : World) (FZ : Nat → Prop) (β : Nat → Value) (a : Act), evK lp0 E F io bid pre post c σ k = some r → Inv X w FZ β N σ a → Wd X FZ0 FZ w0 w → (∀ d ∈ Code.writes c, d < N) →
  Owes X FZ0 w0 E F N r Q pre post (Code.writes c) σ β k → c.wp P Q a w
 | .skip, bid, pre, post, σ, k, r, Q, w, FZ, β, a, h, hi, hw, hd, ow => wp_skip (ow.go .norm σ β FZ w a h hi (Ext.refl _ _) hw (Rel.refl _ _ _ _))
 | .region id ops draw, bid, pre, post, σ, k, r, Q, w, FZ, β, a, h, hi, hw, hd, ow =>
  region_sound hP hM hS hd hi h fun σ' β' FZ' w' a' hk hi' xe wd fr tm => ow.go .norm σ' β' FZ' w' a' hk hi' xe (hw.trans wd) ⟨fr, fun t _ _ hn => by rw [tm t hn]; exact Sk.refl _⟩
 | .seq x y, bid, pre, post, σ, k, r, Q, w, FZ, β, a, h, hi, hw, hd, ow => by
  simp only [evK] at h
  refine wp_seq (evK_sound hP hM hS x bid pre _ σ _ r _ w FZ β a h hi hw (fun d hx => hd d (List.mem_append_left _ hx)) ⟨fun e σ' β' FZ' w' a' hk hi' xe wd rel => ?_, fun σ' β' FZ' w' a' hf hi' xe wd => ?_⟩)
  ·cases e with
   | norm =>
    refine evK_sound hP hM hS y bid _ post σ' k r Q w' FZ' β' a' hk hi' wd (fun d hx => hd d (List.mem_append_right _ hx)) ⟨fun e2 σ2 β2 FZ2 w2 a2 hk2 hi2 xe2 wd2 rel2 => ?_, fun σ2 β2 FZ2 w2 a2 hf2 hi2 xe2 wd2 => ow.ret σ2 β2 FZ2 w2 a2 hf2 hi2 (xe.trans xe2) wd2⟩
    refine ow.go e2 σ2 β2 FZ2 w2 a2 hk2 hi2 (xe.trans xe2) wd2 ⟨rel.fr.trans rel2.fr, fun t h1 h2 h3 => ?_⟩
    have h3 : t ∉ Code.writes x ++ Code.writes y := h3
    rw [List.mem_append, not_or] at h3
    exact (rel.sk t h1 (List.mem_append_right _ h2) h3.1).trans (rel2.sk t (List.mem_append_left _ h1) h2 h3.2)
   | exit id =>
    refine ow.go (.exit id) σ' β' FZ' w' a' hk hi' xe wd ⟨rel.fr, fun t h1 h2 h3 => ?_⟩
    have h3 : t ∉ Code.writes x ++ Code.writes y := h3
    rw [List.mem_append, not_or] at h3
    exact rel.sk t h1 (List.mem_append_right _ h2) h3.1
  ·exact ow.ret σ' β' FZ' w' a' hf hi' xe wd
 | .cond c x y, bid, pre, post, σ, k, r, Q, w, FZ, β, a, h, hi, hw, hd, ow => by
  have ox : Owes X FZ0 w0 E F N r Q pre post (Code.writes x) σ β k := ⟨fun e σ' β' FZ' w' a' hk hi' xe wd rel => ow.go e σ' β' FZ' w' a' hk hi' xe wd ⟨rel.fr, fun t h1 h2 h3 => rel.sk t h1 h2 fun hm => h3 (List.mem_append_left _ hm)⟩, ow.ret⟩
  have oy : Owes X FZ0 w0 E F N r Q pre post (Code.writes y) σ β k := ⟨fun e σ' β' FZ' w' a' hk hi' xe wd rel => ow.go e σ' β' FZ' w' a' hk hi' xe wd ⟨rel.fr, fun t h1 h2 h3 => rel.sk t h1 h2 fun hm => h3 (List.mem_append_right _ hm)⟩, ow.ret⟩
  have hdx : ∀ d ∈ Code.writes x, d < N := fun d hx => hd d (List.mem_append_left _ hx)
  have hdy : ∀ d ∈ Code.writes y, d < N := fun d hx => hd d (List.mem_append_right _ hx)
  cases c with
  | tmp t =>
   simp only [evK] at h
   split at h
   ·rename_i b hb
    have hv : a.eval (.tmp t) = .bool b := by
     have := hi.tm t
     rw [hb] at this
     exact rep_im this
    cases b with
    | true =>
     rw [cond_true, same_tm hb] at h
     exact wp_cond_true hv (evK_sound hP hM hS x bid pre post σ k r Q w FZ β a h hi hw hdx ox)
    | false =>
     rw [cond_false, same_tm hb] at h
     exact wp_cond_false hv (evK_sound hP hM hS y bid pre post σ k r Q w FZ β a h hi hw hdy oy)
   ·cases h
  | const v =>
   cases v with
   | bool b =>
    cases b with
    | true => exact wp_cond_true rfl (evK_sound hP hM hS x bid pre post σ k r Q w FZ β a h hi hw hdx ox)
    | false => exact wp_cond_false rfl (evK_sound hP hM hS y bid pre post σ k r Q w FZ β a h hi hw hdy oy)
   | _ => cases h
  | global g => cases h
  | func f => cases h
 | .block id c, bid, pre, post, σ, k, r, Q, w, FZ, β, a, h, hi, hw, hd, ow => by
  simp only [evK] at h
  refine wp_block (evK_sound hP hM hS c id pre post σ _ r _ w FZ β a h hi hw hd ⟨fun e σ' β' FZ' w' a' hk hi' xe wd rel => ?_, fun σ' β' FZ' w' a' hf hi' xe wd => ow.ret σ' β' FZ' w' a' hf hi' xe wd⟩)
  cases e with
  | norm => exact ow.go .norm σ' β' FZ' w' a' hk hi' xe wd rel
  | exit id' =>
   show if id' = id then Q .normal a' w' else Q (.exit id') a' w'
   simp only at hk
   cases hb : Nat.beq id' id with
   | true =>
    rw [hb, cond_true] at hk
    rw [if_pos (beq_eq hb)]
    exact ow.go .norm σ' β' FZ' w' a' hk hi' xe wd rel
   | false =>
    rw [hb, cond_false] at hk
    rw [if_neg fun e => by subst e; simp at hb]
    exact ow.go (.exit id') σ' β' FZ' w' a' hk hi' xe wd rel
 | .exit id, bid, pre, post, σ, k, r, Q, w, FZ, β, a, h, hi, hw, hd, ow => wp_exit (ow.go (.exit id) σ β FZ w a h hi (Ext.refl _ _) hw (Rel.refl _ _ _ _))
 | .ret, bid, pre, post, σ, k, r, Q, w, FZ, β, a, h, hi, hw, hd, ow => wp_ret (ow.ret σ β FZ w a h hi (Ext.refl _ _) hw)
 | .loop c, bid, pre, post, σ0, k, r, Q, w, FZ, β0, a, h, hi0, hw, hd, ow0 => by
  have LOOP : ∀ (σ0 : St) (w : World) (FZ : Nat → Prop) (β0 : Nat → Value) (a : Act), loopK lp0 E io bid pre post c (fun σ kk => evK lp0 E F io bid pre (Code.reads c ++ post) c σ kk) σ0 k = some r → Inv X w FZ β0 N σ0 a → Wd X FZ0 FZ w0 w →
    Owes X FZ0 w0 E F N r Q pre post (Code.writes c) σ0 β0 k → ∃ n, Code.rounds P c Q n a w := by
   intro σ0 w FZ β0 a h hi0 hw ow0
   unfold loopK at h
   simp only [forceN_eq, forceBN_eq, forceNN_eq, Snap.force_eq] at h
   obtain ⟨σ, β, h, hi, xe0, fr0, tm0⟩ := matAll_sound h hi0
   have ow : Owes X FZ0 w0 E F N r Q pre post (Code.writes c) σ β k := ⟨fun e σ' β' FZ' w' a' hk hi' xe wd rel => ow0.go e σ' β' FZ' w' a' hk hi' (xe0.trans xe) wd ⟨fr0.trans rel.fr, fun t h1 h2 h3 => by
    have := rel.sk t h1 h2 h3
    rw [tm0 t fun hm => h3 (by
     rw [List.mem_filter] at hm
     exact any_mem hm.2)] at this
    exact this⟩, fun σ' β' FZ' w' a' hf hi' xe wd => ow0.ret σ' β' FZ' w' a' hf hi' (xe0.trans xe) wd⟩
   generalize hws : ((keepOf pre post (Code.reads c)).filter fun t => (Code.writes c).any (Nat.beq t)) = ws at h
   have hwsm : ∀ t, t ∉ Code.writes c → t ∉ ws := fun t hn hm => by
    rw [← hws, List.mem_filter] at hm
    exact hn (any_mem hm.2)
   generalize hk0 : keepOf pre post (Code.reads c) = keep0 at h
   generalize hke : (keep0.map fun t => ((Code.writes c).any (Nat.beq t), t)) = keep at h
   generalize hkw : (keep0.filter fun t => (Code.writes c).any (Nat.beq t) || (dangers E c).any (Nat.beq t)) = keepW at h
   generalize hids : reachIds σ keepW = ids at h
   generalize hco : ((reachIds σ keep0).filter fun i => !ids.any (Nat.beq i)) = con at h
   generalize hs : snap bid σ keep con ids = s at h
   generalize hsts : staysOf io ids 0 = sts at h
   cases hck : (newL bid σ.objs ids.length && s.eqf s) with
   | false => rw [hck] at h; cases h
   | true =>
   rw [hck, cond_true] at h
   rw [Bool.and_eq_true] at hck
   have hlen : s.os.length = ids.length := by rw [← hs]; simp [snap]
   have hnew : ∀ p, p < ids.length → (σ.objs (nL bid p)).ver = 0 := fun p hp => beq_eq (List.all_eq_true.1 hck.1 p (List.mem_range.2 hp))
   have hcm : ∀ i ∈ con, i ∈ reachIds σ keep0 ∧ i ∉ ids := fun i hc => by
    rw [← hco, List.mem_filter] at hc
    refine ⟨hc.1, fun hm => ?_⟩
    rw [mem_any hm] at hc
    simp at hc
   have hca : ∀ i ∈ con, 1 ≤ (σ.objs i).ver := fun i hc => by
    have := (reachIds_spec σ keep0).2 i (hcm i hc).1
    cases ho : (σ.objs i).o with
    | none => exact absurd ho this
    | some o => exact hi.ok.live i o ho
   have hkeep : ∀ (i : Nat) (x : Bool × Nat), keep[i]? = some x → x.2 ∈ keep0 ∧ (x.1 = false → x.2 ∉ Code.writes c) := by
    intro i x hx
    rw [← hke, List.getElem?_map, Option.map_eq_some_iff] at hx
    obtain ⟨t, ht, rfl⟩ := hx
    refine ⟨List.mem_of_getElem? ht, fun hf hm => ?_⟩
    have hf : (Code.writes c).any (Nat.beq t) = false := hf
    rw [mem_any hm] at hf; cases hf
   have hkm : ∀ t, t ∈ keep0 → t ∈ keep.map (·.2) := fun t ht => by
    rw [← hke, List.map_map]
    exact List.mem_map.2 ⟨t, ht, rfl⟩
   have hflags : ∀ (τ : St) (l : List Nat), (snap bid τ keep con l).vs.map (·.1) = keep.map (·.1) := fun τ l => by simp [snap, Function.comp_def]
   have hvs : ∀ (τ : St) (l : List Nat) (i : Nat) (x : Bool × Nat), keep[i]? = some x → (snap bid τ keep con l).vs[i]? = some (x.1, renV bid con l (τ.tm x.2)) := fun τ l i x hx => by
    show (keep.map fun t => (t.1, renV bid con l (τ.tm t.2)))[i]? = _
    rw [List.getElem?_map, hx]; rfl
   -- the first head
   have kp0 : Kp bid con keep σ s s.dat σ ids := by
    refine ⟨fun _ _ => rfl, by rw [← hids]; exact (reachIds_spec _ _).1, fun i h1 h2 => (hcm i h2).2 h1, hlen.symm, ?_, fun i x a hx hf ha => ?_⟩
    ·rw [hs]
     exact fill_eq hck.2 rfl fun i a c h1 h2 => by rw [h1] at h2; injection h2 with h2; injection h2
    ·rw [← hs, hvs σ ids i x hx] at ha
     injection ha with ha
     injection ha with _ ha
   -- a head is sound
   have hd0 : ∀ {ds : List T} {σk : St} {idsk : List Nat} {w1 : World} {FZ1 : Nat → Prop} {β1 : Nat → Value} {a1 : Act}, Kp bid con keep σ s ds σk idsk → Inv X w1 FZ1 β1 N σk a1 →
     Inv X w1 FZ1 (βL bid idsk β1) N ((s.fill (tAt ds)).st bid (baseOf con σ.objs) keep) a1 := fun kp hi1 => by
    rw [kp.fill]
    exact head_inv hi.ok hi1 kp.hcon hca (fun p hp => hnew p (by rw [kp.len, hlen] at hp; exact hp)) kp.nd kp.dis
   have hfr : ∀ {ds : List T} {σk : St} {idsk : List Nat}, Kp bid con keep σ s ds σk idsk → Fr σ.objs ((s.fill (tAt ds)).st bid (baseOf con σ.objs) keep).objs := fun {ds σk idsk} kp => by
    rw [kp.fill]
    refine head_fr fun p hp => hnew p ?_
    have : (snap bid σk keep con idsk).os.length = idsk.length := by simp [snap]
    rw [this, kp.len, hlen] at hp
    exact hp
   have hext : ∀ {ds : List T} {σk : St} {idsk : List Nat} {β1 : Nat → Value}, Kp bid con keep σ s ds σk idsk → Ext σ.objs β σk.objs β1 → Ext σ.objs β ((s.fill (tAt ds)).st bid (baseOf con σ.objs) keep).objs (βL bid idsk β1) := fun {ds σk idsk β1} kp xe i hi0 => by
    refine ⟨Nat.le_trans hi0 (hfr kp i).1, ?_⟩
    unfold βL
    rw [if_neg fun hx => ?_]
    ·exact (xe i hi0).2
    ·have := hnew (i - nL bid 0) (by rw [← hlen, ← kp.len]; have := hx.2; have := hx.1; unfold nL at *; omega)
     rw [show nL bid (i - nL bid 0) = i by have := hx.1; unfold nL at *; omega] at this
     omega
   -- the kept slots that do not turn, at a head
   have htm : ∀ {ds : List T} {σk : St} {idsk : List Nat}, Kp bid con keep σ s ds σk idsk → ∀ t, t ∈ keep0 → ((s.fill (tAt ds)).st bid (baseOf con σ.objs) keep).tm t = renV bid con idsk (σk.tm t) := fun {ds σk idsk} kp t ht => by
    rw [kp.fill]
    exact tmOf_mem (f := fun t => renV bid con idsk (σk.tm t)) keep t (hkm t ht)
   have hconst : ∀ {ds : List T} {σk : St} {idsk : List Nat}, Kp bid con keep σ s ds σk idsk → ∀ t, t ∈ keep0 → t ∉ Code.writes c → renV bid con idsk (σk.tm t) = renV bid con ids (σ.tm t) := fun {ds σk idsk} kp t ht hn => by
    obtain ⟨x, hx, rfl⟩ := List.mem_map.1 (hkm t ht)
    obtain ⟨i, hi⟩ := List.mem_iff_getElem?.1 hx
    have hf : x.1 = false := by
     rw [← hke, List.getElem?_map, Option.map_eq_some_iff] at hi
     obtain ⟨t', _, rfl⟩ := hi
     show (Code.writes c).any (Nat.beq t') = false
     cases hb : (Code.writes c).any (Nat.beq t') with
     | false => rfl
     | true => exact absurd (any_mem hb) hn
    refine kp.const i x _ hi hf ?_
    rw [← hs, hvs σ ids i x hi, hf]
   generalize hstep : (fun ds : List T => bif okD s.knd (tAt ds) 0 then evK lp0 E F io bid pre (Code.reads c ++ post) c ((s.fill (tAt ds)).st bid (baseOf con σ.objs) keep) fun e σ1 =>
      matAll true bid ws ((reachAt σ1 keepW keep0).filter fun i => !con.any (Nat.beq i)) σ1 fun σ' =>
      bif s.eqf (snap bid σ' keep con ((reachAt σ' keepW keep0).filter fun i => !con.any (Nat.beq i))) && conOk con σ.objs σ'.objs && staysOk bid sts ((reachAt σ' keepW keep0).filter fun i => !con.any (Nat.beq i)) then match e with
       | .norm => some (.next (snap bid σ' keep con ((reachAt σ' keepW keep0).filter fun i => !con.any (Nat.beq i))).dat)
       | .exit id => bif Nat.beq id bid then some (.brk (snap bid σ' keep con ((reachAt σ' keepW keep0).filter fun i => !con.any (Nat.beq i))).dat) else none
      else none
    else none) = step at h
   cases hlp : lp0 step s.dat with
   | none => rw [hlp] at h; cases h
   | some res =>
   rw [hlp] at h
   simp only [Option.bind_some] at h
   obtain ⟨n0, hn0⟩ := lp0_spec hlp
   -- a round's end
   have hend : ∀ {ds : List T} {σk : St} {idsk : List Nat} {σ' : St}, Kp bid con keep σ s ds σk idsk → Rel pre (Code.reads c ++ post) (Code.writes c) ((s.fill (tAt ds)).st bid (baseOf con σ.objs) keep) σ' →
     (s.eqf (snap bid σ' keep con ((reachAt σ' keepW keep0).filter fun i => !con.any (Nat.beq i))) && conOk con σ.objs σ'.objs) = true →
     Kp bid con keep σ s (snap bid σ' keep con ((reachAt σ' keepW keep0).filter fun i => !con.any (Nat.beq i))).dat σ' ((reachAt σ' keepW keep0).filter fun i => !con.any (Nat.beq i)) := by
    intro ds σk idsk σ' kp rel he
    rw [Bool.and_eq_true] at he
    obtain ⟨he1, he2⟩ := he
    have hfr2 := (hfr kp).trans rel.fr
    have hcst : ∀ (i : Nat) (x : Bool × Nat) (a : V), keep[i]? = some x → x.1 = false → s.vs[i]? = some (false, a) → renV bid con ((reachAt σ' keepW keep0).filter fun i => !con.any (Nat.beq i)) (σ'.tm x.2) = a := by
     intro i x a hx hf ha
     obtain ⟨k1, k2⟩ := hkeep i x hx
     have k3 := k2 hf
     have hm : x.2 ∈ pre ∧ (x.2 ∈ Code.reads c ∨ x.2 ∈ post) := by rw [← hk0] at k1; exact keepOf_mem.1 k1
     have s1 := rel.sk x.2 hm.1 (List.mem_append.2 hm.2) k3
     rw [htm kp x.2 k1, kp.const i x a hx hf ha] at s1
     have s2 := s1.trans (Sk.ren bid con ((reachAt σ' keepW keep0).filter fun i => !con.any (Nat.beq i)) (σ'.tm x.2))
     rw [Snap.eqf, Bool.and_eq_true] at he1
     have s3 := eqfBs_get he1.2 i (false, a) _ ha (hvs σ' _ i x hx)
     exact (s2.eq s3).symm
    refine ⟨fun i hc => ?_, (reachAt_spec _ _ _).1.filter _, fun i h1 h2 => ?_, ?_, fill_eq he1 ?_ fun i a2 c2 h1 h2 => ?_, hcst⟩
    ·have hv : (σ.objs i).ver = (σ'.objs i).ver := beq_eq (List.all_eq_true.1 he2 i hc)
     have ho := (hfr2 i).2 hv.symm
     generalize σ'.objs i = q at hv ho
     generalize σ.objs i = q' at hv ho
     cases q; cases q'
     simp only at hv ho
     rw [hv, ho]
    ·rw [List.mem_filter, mem_any h2] at h1
     simp at h1
    ·rw [Snap.eqf, Bool.and_eq_true] at he1
     rw [eqfOs_length he1.1]; simp [snap]
    ·rw [hflags, ← hs, hflags]
    ·have hil : i < keep.length := by
      have := (List.getElem?_eq_some_iff.1 h2).1
      simpa [snap] using this
     have hx : keep[i]? = some keep[i] := List.getElem?_eq_getElem hil
     have h3 := hvs σ' ((reachAt σ' keepW keep0).filter fun i => !con.any (Nat.beq i)) i _ hx
     rw [h3] at h2
     injection h2 with h2
     injection h2 with h2 h4
     rw [← h4]
     exact (hcst i _ a2 hx h2 h1).symm
   -- what has a name to go back to
   have hst0 : St1 sts ids β β := fun e he => by
    have h1 := (staysOf_spec (hsts ▸ he)).2
    rw [Nat.sub_zero] at h1
    exact ⟨e.2, h1, rfl⟩
   have hstl : ∀ e ∈ sts, 1 ≤ (σ.objs e.2).ver := fun e he => by
    obtain ⟨i, h1, _⟩ := hst0 e he
    have h2 := (staysOf_spec (hsts ▸ he)).2
    rw [Nat.sub_zero] at h2
    have hm : e.2 ∈ reachIds σ keepW := by rw [hids]; exact List.mem_of_getElem? h2
    have := (reachIds_spec σ keepW).2 _ hm
    cases ho : (σ.objs e.2).o with
    | none => exact absurd ho this
    | some o => exact hi.ok.live _ o ho
   have hnext : ∀ {ds : List T} {σk σ' : St} {idsk ids' : List Nat} {β1 β' : Nat → Value}, Kp bid con keep σ s ds σk idsk → St1 sts idsk β1 β → Ext ((s.fill (tAt ds)).st bid (baseOf con σ.objs) keep).objs (βL bid idsk β1) σ'.objs β' →
     staysOk bid sts ids' = true → St1 sts ids' β' β := by
    intro ds σk σ' idsk ids' β1 β' kp hst1 xe hok e he
    obtain ⟨i, h1, h2⟩ := hst1 e he
    refine ⟨nL bid e.1, staysOk_spec hok e he, ?_⟩
    have hp := (List.getElem?_eq_some_iff.1 h1).1
    have hos : (s.fill (tAt ds)).os.length = idsk.length := by rw [kp.fill]; simp [snap]
    have hg := objsOf_get (bid := bid) (base := baseOf con σ.objs) (s.fill (tAt ds)).os 0 e.1 _ (List.getElem?_eq_getElem (by rw [hos]; exact hp))
    rw [Nat.zero_add] at hg
    rw [(xe (nL bid e.1) (by show 1 ≤ (objsOf bid (baseOf con σ.objs) (s.fill (tAt ds)).os 0 (nL bid e.1)).ver; rw [hg]; exact Nat.le_refl _)).2, βL_get h1, h2]
   -- behind the loop
   have hout : ∀ {ds : List T} {σk : St} {idsk : List Nat} {w1 : World} {FZ1 : Nat → Prop} {β1 : Nat → Value} {a1 : Act}, res = .brk ds → Kp bid con keep σ s ds σk idsk → Inv X w1 FZ1 β1 N σk a1 → Ext σ.objs β σk.objs β1 → Wd X FZ0 FZ1 w0 w1 → St1 sts idsk β1 β → Q (.exit bid) a1 w1 := by
    intro ds σk idsk w1 FZ1 β1 a1 he kp hi1 xe wd hst1
    subst he
    simp only at h
    cases hokd : okD s.knd (tAt ds) 0 with
    | false => rw [hokd] at h; cases h
    | true =>
     rw [hokd, cond_true] at h
     refine ow.go (.exit bid) _ _ _ w1 a1 h (homeAll_inv (hd0 kp hi1) fun e he => ?_) (fun i hi0 => ⟨Nat.le_trans (hext kp xe i hi0).1 (homeAll_fr _ _ _ i).1, (hext kp xe i hi0).2⟩) wd ⟨(hfr kp).trans (homeAll_fr _ _ _), fun t h1 h2 h3 => ?_⟩
     ·obtain ⟨i, hi1, hi2⟩ := hst1 e he
      rw [βL_get hi1, hi2]
      exact ((hext kp xe e.2 (hstl e he)).2).symm
     have ht : t ∈ keep0 := by rw [← hk0]; exact keepOf_mem.2 ⟨h1, .inr h2⟩
     rw [htm kp t ht, hconst kp t ht h3]
     exact Sk.ren _ _ _ _
   -- the loop
   let J : Nat → Act → World → Prop := fun n a w => ∃ ds σk idsk FZ1 β1, lpN step n ds = some res ∧ Kp bid con keep σ s ds σk idsk ∧ Inv X w FZ1 β1 N σk a ∧ Ext σ.objs β σk.objs β1 ∧ Wd X FZ0 FZ1 w0 w ∧ St1 sts idsk β1 β
   classical
   refine rounds_of (fun a w => ∃ n, J n a w) (fun a w => if h : ∃ n, J n a w then lst _ h else 0) ⟨n0, s.dat, σ, ids, FZ, β, hn0, kp0, hi, Ext.refl _ _, hw, hst0⟩ fun a1 w1 hI => ?_
   obtain ⟨ds, σk, idsk, FZ1, β1, hn, kp, hi1, xe1, wd1, hst1⟩ := lst_spec hI
   have hmu : (if h : ∃ n, J n a1 w1 then lst _ h else 0) = lst _ hI := dif_pos hI
   generalize hnn : lst _ hI = n at hn
   cases n with
   | zero => cases hn
   | succ n =>
   rw [lpN] at hn
   cases hst : step ds with
   | none => rw [hst] at hn; cases hn
   | some rr =>
   rw [hst] at hn
   simp only [Option.bind_some] at hn
   rw [← hstep] at hst
   simp only at hst
   cases hokd : okD s.knd (tAt ds) 0 with
   | false => rw [hokd] at hst; cases hst
   | true =>
   rw [hokd, cond_true] at hst
   refine evK_sound hP hM hS c bid pre (Code.reads c ++ post) _ _ rr _ w1 FZ1 _ a1 hst (hd0 kp hi1) wd1 hd ⟨fun e σ1 βx FZ' w' a' hk hix xex wd relx => ?_, fun σ' β' FZ' w' a' hf hi' xe wd => ?_⟩
   ·obtain ⟨σ', β', hk, hi', xe', fr', tm'⟩ := matAll_sound hk hix
    have xe := xex.trans xe'
    have rel : Rel pre (Code.reads c ++ post) (Code.writes c) ((s.fill (tAt ds)).st bid (baseOf con σ.objs) keep) σ' := ⟨relx.fr.trans fr', fun t h1 h2 h3 => by
     rw [tm' t (hwsm t h3)]
     exact relx.sk t h1 h2 h3⟩
    have xe2 := (hext kp xe1).trans xe
    cases he : (s.eqf (snap bid σ' keep con ((reachAt σ' keepW keep0).filter fun i => !con.any (Nat.beq i))) && conOk con σ.objs σ'.objs && staysOk bid sts ((reachAt σ' keepW keep0).filter fun i => !con.any (Nat.beq i))) with
    | false => rw [he] at hk; cases hk
    | true =>
     rw [he, cond_true] at hk
     rw [Bool.and_eq_true] at he
     have kp' := hend kp rel he.1
     have hst' := hnext kp hst1 xe he.2
     cases e with
     | norm =>
      obtain rfl := (Option.some.inj hk).symm
      have hJ : J n a' w' := ⟨_, σ', _, FZ', β', hn, kp', hi', xe2, wd, hst'⟩
      show _ ∧ _
      refine ⟨⟨n, hJ⟩, ?_⟩
      have hx : ∃ n, J n a' w' := ⟨n, hJ⟩
      rw [hmu, hnn, dif_pos hx]
      have := lst_min hx hJ
      omega
     | exit id =>
      simp only at hk
      cases hb : Nat.beq id bid with
      | false => rw [hb] at hk; cases hk
      | true =>
       rw [hb, cond_true] at hk
       obtain rfl := (Option.some.inj hk).symm
       have hid := beq_eq hb
       subst hid
       exact hout (Option.some.inj hn).symm kp' hi' xe2 wd hst'
   ·have hrr : ∃ o, rr = .ret o := by
     unfold fin at hf
     rw [H.runK_eq] at hf
     cases hx : (finH E F σ'.tm).run σ'.objs [] with
     | none => rw [hx] at hf; cases hf
     | some x => rw [hx] at hf; exact ⟨_, (Option.some.inj hf).symm⟩
    obtain ⟨o, rfl⟩ := hrr
    have hres := (Option.some.inj hn).symm
    subst hres
    have hr2 : r = .ret o := (Option.some.inj h).symm
    rw [hr2] at ow
    exact ow.ret σ' β' FZ' w' a' hf hi' ((hext kp xe1).trans xe) wd
  simp only [evK] at h
  cases hpl : Nat.beq F.peel (bid + 1) with
  | false =>
   rw [hpl, cond_false] at h
   obtain ⟨n, hn⟩ := LOOP σ0 w FZ β0 a h hi0 hw ow0
   exact wp_loop_rounds n hn
  | true =>
   rw [hpl, cond_true] at h
   have down : ∀ {σ1 : St}, Rel pre (999999 :: (Code.reads c ++ post)) (Code.writes c) σ0 σ1 → Rel pre post (Code.writes c) σ0 σ1 := fun rel => ⟨rel.fr, fun t h1 h2 h3 => rel.sk t h1 (List.mem_cons_of_mem _ (List.mem_append_right _ h2)) h3⟩
   refine wp_loop_peel (evK_sound hP hM hS c bid pre (999999 :: (Code.reads c ++ post)) σ0 _ r _ w FZ β0 a h hi0 hw hd ⟨fun e σ1 β1 FZ1 w1 a1 hk hi1 xe1 wd1 rel1 => ?_, fun σ1 β1 FZ1 w1 a1 hf hi1 xe1 wd1 => ow0.ret σ1 β1 FZ1 w1 a1 hf hi1 xe1 wd1⟩)
   cases e with
   | norm =>
    refine LOOP σ1 w1 FZ1 β1 a1 hk hi1 wd1 ⟨fun e2 σ2 β2 FZ2 w2 a2 hk2 hi2 xe2 wd2 rel2 => ?_, fun σ2 β2 FZ2 w2 a2 hf2 hi2 xe2 wd2 => ow0.ret σ2 β2 FZ2 w2 a2 hf2 hi2 (xe1.trans xe2) wd2⟩
    exact ow0.go e2 σ2 β2 FZ2 w2 a2 hk2 hi2 (xe1.trans xe2) wd2 ⟨rel1.fr.trans rel2.fr, fun t h1 h2 h3 => ((down rel1).sk t h1 h2 h3).trans (rel2.sk t h1 h2 h3)⟩
   | exit id => exact ow0.go (.exit id) σ1 β1 FZ1 w1 a1 hk hi1 xe1 wd1 (down rel1)
 | .rangeFunc .., bid, pre, post, σ, k, r, Q, w, FZ, β, a, h, hi, hw, hd, ow => by cases h
 | .refuse .., bid, pre, post, σ, k, r, Q, w, FZ, β, a, h, hi, hw, hd, ow => by cases h
 | .label l, bid, pre, post, σ, k, r, Q, w, FZ, β, a, h, hi, hw, hd, ow => by cases h
 | .goto l, bid, pre, post, σ, k, r, Q, w, FZ, β, a, h, hi, hw, hd, ow => by cases h
 | .scope c, bid, pre, post, σ, k, r, Q, w, FZ, β, a, h, hi, hw, hd, ow => by cases h
end Go.Vm
namespace Go.Vm
set_option linter.unusedVariables false
set_option linter.unusedSimpArgs false
variable {P : Program} {X : Cx} {FZ FZ' : Nat → Prop} {β β' : Nat → Value} {w w' : World} {E : Env} {s s' : Objs} {pend : List (T × Value)} {fp : List (Bool × Nat)} {r : Out × Objs × List (Bool × Nat)}
theorem finIo_sound {V : Nat × Nat × Nat → Value} : ∀ (l : List (Nat × Nat × Nat)) {k : List T → H Out} {s : Objs} {fp : List (Bool × Nat)} {pend : List (T × Value)}, OK X w FZ β s pend →
  (∀ p ∈ l, ∃ len, RepV (vers s) β (.sl (nArg p.1 + p.2.1) true 0 len p.2.2) (V p)) → (finIo l k).run s fp = some r →
  ∃ ts s' fp', (k ts).run s' fp' = some r ∧ ts.length = l.length ∧ OK X w FZ β s' (pend ++ ts.zip (l.map V)) ∧ (∀ i, (s i).ver ≤ (s' i).ver)
 | [], k, s, fp, pend, hO, hV, h => ⟨[], s, fp, h, rfl, by simpa using hO, fun _ => Nat.le_refl _⟩
 | (j, c, sz) :: l, k, s, fp, pend, hO, hV, h => by
  simp only [finIo, H.run] at h
  split at h
  ·rename_i sz' rs ho
   obtain ⟨hc, h2⟩ := chk_run h
   obtain rfl := beq_eq hc
   simp only [H.run] at h2
   obtain ⟨len, hrep⟩ := hV _ List.mem_cons_self
   have he : OwnE s (.sl (nArg j + c) true 0 len sz) (.sl .own sz (cut true 0 len rs)) _ := .own ho
   have h1 := own_sem hO hrep he
   obtain ⟨ts, s', fp', h3, h4, h5, h6⟩ := finIo_sound l (k := fun ts => k (.sl .own sz rs :: ts)) h1 (fun p hp => by
    obtain ⟨len, hr⟩ := hV p (List.mem_cons_of_mem _ hp)
    exact ⟨len, hr.ver he.ver⟩) h2
   exact ⟨.sl .own sz rs :: ts, s', fp', h3, by simp [h4], by simpa [cut, List.append_assoc] using h5, fun i => Nat.le_trans (he.ver i) (h6 i)⟩
  ·cases h
theorem BoxL.keep {p : Nat} {ps os : List PO} {l : List (T × Value)} (h : BoxL w β s p ps os l) (hk : ∀ id cells, (s id).o = some (.box false cells) → (s' id).o = some (.box false cells)) : BoxL w β s' p ps os l := by
 induction h with
 | nil => exact .nil
 | ro _ ih => exact .ro ih
 | rows _ ih => exact .rows ih
 | box hb hr hl hn _ ih =>
  obtain ⟨b1, cells, c1, c2, c3⟩ := hb
  exact .box ⟨b1, cells, hk _ _ c1, c2, c3⟩ hr hl hn ih
open Classical in
noncomputable def onlyB (β β' : Nat → Value) (s : Objs) : Objs := fun i => ⟨(s i).ver, match (s i).o with
 | some (.box false cells) => if β' i = β i ∧ ∀ v ∈ cells, v = .no then some (.box false cells) else none
 | _ => none⟩
theorem onlyB_spec {i : Nat} {o : O} (h : (onlyB β β' s i).o = some o) : ∃ cells, o = .box false cells ∧ (s i).o = some (.box false cells) ∧ β' i = β i ∧ ∀ v ∈ cells, v = .no := by
 unfold onlyB at h
 simp only at h
 split at h
 ·rename_i cells ho
  split at h
  ·rename_i hc
   exact ⟨cells, (Option.some.inj h).symm, ho, hc.1, hc.2⟩
  ·cases h
 ·cases h
theorem OK.onlyB (h : OK X w FZ β' s pend) : OK X w FZ β (onlyB β β' s) pend := by
 refine h.move (fun id o ho => ?_) (fun id o ho => ?_) h.pow id ?_ (fun u u' b hne e => absurd e hne)
 ·obtain ⟨cells, rfl, h1, h2, h3⟩ := onlyB_spec ho
  obtain ⟨b, c, b1, b2, b3, b4, b5⟩ := h.rep _ _ h1
  refine ⟨b, c, h2.symm.trans b1, b2, b3, fun j v x hv hx => ?_, b5⟩
  rw [h3 v (List.mem_of_getElem? hv)]
  exact ⟨.no, (b4 j v x hv hx).2⟩
 ·obtain ⟨cells, rfl, h1, h2, h3⟩ := onlyB_spec ho
  exact h.live id _ h1
 ·rintro (id | k) b ⟨o, ho, hb⟩
  ·obtain ⟨cells, rfl, h1, h2, h3⟩ := onlyB_spec ho
   exact ⟨_, h1, hb.1, h2.trans hb.2⟩
  ·exact ⟨o, ho, hb⟩
theorem BoxL.base {p : Nat} {ps os : List PO} {l : List (T × Value)} (h : BoxL w β' s p ps os l) : (∀ i ts0, ps[i]? = some (.box false ts0) → β' (nPO (p + i)) = β (nPO (p + i))) → BoxL w β (onlyB β β' s) p ps os l := by
 have nx : ∀ {p : Nat} {q : PO} {ps : List PO}, (∀ i ts0, (q :: ps)[i]? = some (.box false ts0) → β' (nPO (p + i)) = β (nPO (p + i))) → ∀ i ts0, ps[i]? = some (.box false ts0) → β' (nPO (p + 1 + i)) = β (nPO (p + 1 + i)) := fun {p q ps} h i ts0 hi => by
  have := h (i + 1) ts0 (by simpa using hi)
  rwa [show p + (i + 1) = p + 1 + i by omega] at this
 induction h with
 | nil => exact fun _ => .nil
 | ro _ ih => exact fun h => .ro (ih (nx h))
 | rows _ ih => exact fun h => .rows (ih (nx h))
 | @box p ts0 ts ps os l b c hb hr hl hn _ ih =>
  intro h
  obtain ⟨b1, cells, c1, c2, c3⟩ := hb
  have h0 := h 0 _ rfl
  rw [Nat.add_zero] at h0
  refine .box (b := b) (c := c) ⟨h0.symm.trans b1, cells, ?_, c2, c3⟩ hr hl hn (ih (nx h))
  unfold Vm.onlyB
  simp only [c1]
  rw [if_pos ⟨h0, fun v hv => by
   obtain ⟨j, hj⟩ := List.mem_iff_getElem?.1 hv
   exact c3 j v hj⟩]
def roOf : PO → Bool
 | .box ro _ => ro
 | .rows .. => true
theorem finPo_sound : ∀ (pos : List PO) (p : Nat) {k : List PO → H Out} {s : Objs} {fp : List (Bool × Nat)} {pend : List (T × Value)}, OK X w FZ β s pend → (finPo p (pos.map roOf) k).run s fp = some r →
  (∀ i ts0, pos[i]? = some (.box false ts0) → ∃ b c, β (nPO (p + i)) = .pointer (some ⟨b, 0, none⟩) ∧ Row w b c ∧ c.size = ts0.length) →
  ∃ ps s' fp' lb, (k ps).run s' fp' = some r ∧ BoxL w β s' p pos ps lb ∧ OK X w FZ β s' (pend ++ lb) ∧ (∀ i, (s i).ver ≤ (s' i).ver) ∧
   (∀ id cells, (∀ i, p ≤ i → id ≠ nPO i) → (s id).o = some (.box false cells) → (s' id).o = some (.box false cells))
 | [], p, k, s, fp, pend, hO, h, hp => ⟨[], s, fp, [], h, .nil, by simpa using hO, fun _ => Nat.le_refl _, fun _ _ _ h => h⟩
 | .rows f sz rs :: pos, p, k, s, fp, pend, hO, h, hp => by
  obtain ⟨ps, s', fp', lb, h1, h2, h3, h4, h5⟩ := finPo_sound pos (p + 1) (k := fun ps => k (.box true [] :: ps)) hO h fun i ts0 hi => by
   rw [show p + 1 + i = p + (i + 1) by omega]; exact hp (i + 1) ts0 (by simpa using hi)
  exact ⟨_, s', fp', lb, h1, .rows h2, h3, h4, fun id cells hid ho => h5 id cells (fun i hi => hid i (by omega)) ho⟩
 | .box true ts :: pos, p, k, s, fp, pend, hO, h, hp => by
  obtain ⟨ps, s', fp', lb, h1, h2, h3, h4, h5⟩ := finPo_sound pos (p + 1) (k := fun ps => k (.box true [] :: ps)) hO h fun i ts0 hi => by
   rw [show p + 1 + i = p + (i + 1) by omega]; exact hp (i + 1) ts0 (by simpa using hi)
  exact ⟨_, s', fp', lb, h1, .ro h2, h3, h4, fun id cells hid ho => h5 id cells (fun i hi => hid i (by omega)) ho⟩
 | .box false ts0 :: pos, p, k, s, fp, pend, hO, h, hp => by
  simp only [List.map_cons, roOf, finPo, H.run] at h
  split at h
  ·rename_i cells ho
   obtain ⟨ts, s1, fp1, hown, h2⟩ := foldOwn_run _ _ h
   simp only [H.run] at h2
   obtain ⟨b0, c0, hb0, hr0, hl0⟩ := hp 0 ts0 rfl
   rw [Nat.add_zero] at hb0
   obtain ⟨b, c, hb, hrow, hcs, hcc, _⟩ := hO.rep _ _ ho
   rw [hb0] at hb
   injection hb with hb
   injection hb with hb
   injection hb with hb
   subst hb
   obtain rfl := hr0.inj hrow
   have h1 := foldOwn_sem hown hO (xs := c0.toList) (by simpa using hcs) (fun i u x hu hx => (hcc i u x hu (by rw [← Array.getElem?_toList]; exact hx)).1)
   have ho1 := hown.box ho
   have o2 := h1.writeBox ho1 hb0 (Wr.refl hrow) true (cells' := cells.map fun _ => .no) (by simp; exact hcs) (fun j v x hj hx => by
    rw [List.getElem?_map, Option.map_eq_some_iff] at hj
    obtain ⟨u, hu, rfl⟩ := hj
    exact ⟨.no, (hcc j u x hu hx).2⟩)
   obtain ⟨ps, s', fp', lb, h3, h4, h5, h6, h7⟩ := finPo_sound pos (p + 1) (k := fun ps => k (.box false ts :: ps)) o2 h2 fun i ts0 hi => by
    rw [show p + 1 + i = p + (i + 1) by omega]; exact hp (i + 1) ts0 (by simpa using hi)
   have hlen : ts.length = cells.length := hown.length
   refine ⟨_, s', fp', ts.zip c0.toList ++ lb, h3, .box (b := b0) (c := c0) ⟨hb0, cells.map fun _ => .no, h7 _ _ (fun i hi e => by unfold nPO at e; omega) (by simp), by simp [hlen], fun j v hj => ?_⟩ hr0 (by omega) (by omega) h4, by simpa [List.append_assoc] using h5,
    fun i => Nat.le_trans (Nat.le_trans (hown.ver i) (putS_ver _ _ _ _ _)) (h6 i), fun id cs hid hbx => h7 id cs (fun i hi => hid i (by omega)) ?_⟩
   ·rw [List.getElem?_map, Option.map_eq_some_iff] at hj
    obtain ⟨u, hu, rfl⟩ := hj; rfl
   ·rw [putS_ne _ _ _ (hid p (Nat.le_refl _))]; exact hown.box hbx
  ·cases h
inductive RV (P : Program) (w : World) (tmps : Array Value) : List ResultVar → List Value → Prop
 | nil : RV P w tmps [] []
 | tmp {t rs vs} (h : RV P w tmps rs vs) : RV P w tmps (.tmp t :: rs) (tmps.getD t undef :: vs)
 | cell {a t rs vs ad v} (h1 : (asAddr (tmps.getD a undef)).run P w = .ok ad w) (h2 : (loadVar t ad).run P w = .ok v w) (h : RV P w tmps rs vs) : RV P w tmps (.cell a t :: rs) (v :: vs)
theorem results_run {fn : Func} {tmps : Array Value} {vs : List Value} (h : RV P w tmps fn.results.toList vs) : (results fn tmps).run P w = .ok (packV vs) w := by
 have key : ∀ {l vs}, RV P w tmps l vs → (l.mapM (fun x : ResultVar => match x with | .tmp t => (pure (tmps.getD t undef) : Sem Value) | .cell a t => do loadVar t (← asAddr (tmps.getD a undef)))).run P w = .ok vs w := by
  intro l vs h
  induction h with
  | nil => rfl
  | tmp _ ih => simp only [List.mapM_cons, Sem.run_bind, Sem.run_pure, Result.andThen_ok, ih]
  | cell h1 h2 _ ih => simp only [List.mapM_cons, Sem.run_bind, h1, h2, Sem.run_pure, Result.andThen_ok, ih]
 have e : ∀ R : Result (List Value), R = .ok vs w → ((R.andThen fun a w' => Result.ok a.toArray w').andThen fun a w' => Result.ok (if h : a.size = 1 then a[0] else Value.tuple a) w') = .ok (packV vs) w := by
  rintro _ rfl
  match vs with
  | [] => rfl
  | [x] => rfl
  | x :: y :: r => simp [packV]
 unfold results
 rw [Array.mapM_eq_mapM_toList]
 simp only [Sem.run_bind, Sem.run_map, Sem.run_pure]
 exact e _ (key h)
theorem foldA_sound {ty : Ty} {v : V} {x : Value} {k : A → H Out} (hO : OK X w FZ β s pend) (hv : RepV (vers s) β v x) (h : (foldA ty v k).run s fp = some r) :
  ∃ a s' fp' lr, (k a).run s' fp' = some r ∧ OK X w FZ β s' (pend ++ lr) ∧ (∀ {as xs l}, ArgsL as xs l → ArgsL (a :: as) (x :: xs) (lr ++ l)) ∧ (∀ i, (s i).ver ≤ (s' i).ver) ∧
   (∀ id ro cells, (s id).o = some (.box ro cells) → (s' id).o = some (.box ro cells)) := by
 have hv' := rep_castT hv ty
 unfold foldA at h
 generalize castT ty v = u at h hv'
 split at h
 ·rename_i us
  obtain ⟨ts, s1, fp1, h1, h2⟩ := foldOwn_run _ _ h
  cases hv' with
  | @ag _ xs hl hf hr =>
   refine ⟨_, s1, fp1, ts.zip xs.toList, h2, foldOwn_sem h1 hO (by simp [hl]) fun i u x hu hx => hr i u x hu (by rw [← Array.getElem?_toList]; exact hx), fun ha => .ag (by rw [h1.length]; exact hl.symm) ha, h1.ver, fun id ro cells ho => h1.box ho⟩
 ·obtain ⟨t, s1, fp1, h1, h2⟩ := own_run h
  exact ⟨_, s1, fp1, [(t, x)], h2, own_sem hO hv' h1, fun ha => .c ha, h1.ver, fun id ro cells ho => h1.box ho⟩
theorem loadCell_sound {t : TypeId} {p : V} {x : Value} {k : V → H Out} (hO : OK X w FZ β s pend) (hp : RepV (vers s) β p x) (h : (finRets.loadCell P t p k).run s fp = some r) :
  ∃ v z ad fp', (k v).run s fp' = some r ∧ (asAddr x).run P w = .ok ad w ∧ (loadVar t ad).run P w = .ok z w ∧ RepV (vers s) β v z := by
 unfold finRets.loadCell at h
 split at h
 ·rename_i id sz j
  simp only [H.run] at h
  split at h
  ·rename_i ro cells ho
   obtain ⟨hc, h2⟩ := chk_run h
   simp only [Bool.and_eq_true, Bool.or_eq_true] at hc
   obtain ⟨⟨hu, hb⟩, h1⟩ := hc
   have hb := Nat.le_of_ble_eq_true hb
   have hu' : ∃ d, P.underlying t = some d := Option.isSome_iff_exists.1 hu
   obtain ⟨b, c, hβ, hrow, hsz, hcells, _⟩ := hO.rep _ _ ho
   cases hp with
   | pts hv hb' => rw [hβ] at hb'; cases hb'
   | ptb hv hb' =>
    rw [hβ] at hb'
    injection hb' with hb'
    injection hb' with hb'
    injection hb' with hb'
    subst hb'
    obtain ⟨z, hz, za, zb⟩ := loadVar_run (P := P) hu' hrow.rw (off := j) (by omega) (h1.imp (fun h => h) beq_eq)
    refine ⟨_, z, ⟨b, j, none⟩, _, h2, rfl, ?_, ?_⟩
    ·simpa [Instr.loadAt, Instr.sureAddr, Sem.run_bind] using hz
    ·refine wrap_rep (xs := c) hsz.symm (fun i x hx => ?_) (fun i v x hv hx => (hcells i v x hv hx).1) (by omega) (h1.imp (fun h => h) beq_eq) za zb
     have hlt := (Array.getElem?_eq_some_iff.1 hx).1
     exact (hcells i _ x (List.getElem?_eq_getElem (by omega)) hx).2
  ·cases h
 ·cases h
theorem finRets_sound {tm : Nat → V} {a : Act} : ∀ (l : List (ResultVar × TypeId)) {k : List A → H Out} {s : Objs} {fp : List (Bool × Nat)} {pend : List (T × Value)}, OK X w FZ β s pend → (∀ t, RepV (vers s) β (tm t) (a.eval (.tmp t))) →
  (finRets P tm l k).run s fp = some r →
  ∃ as s' fp' rvs lr, (k as).run s' fp' = some r ∧ ArgsL as rvs lr ∧ OK X w FZ β s' (pend ++ lr) ∧ RV P w a.tmps (l.map (·.1)) rvs ∧ (∀ id ro cells, (s id).o = some (.box ro cells) → (s' id).o = some (.box ro cells))
 | [], k, s, fp, pend, hO, ht, h => ⟨[], s, fp, [], [], h, .nil, by simpa using hO, .nil, fun _ _ _ h => h⟩
 | (.tmp t, ty') :: l, k, s, fp, pend, hO, ht, h => by
  rw [finRets] at h
  obtain ⟨a', s1, fp1, lr, h1, h2, h3, h4, h5⟩ := foldA_sound hO (ht t) h
  obtain ⟨as, s2, fp2, rvs, lr2, g1, g2, g3, g4, g5⟩ := finRets_sound l (k := fun as => k (a' :: as)) h2 (fun t => (ht t).ver h4) h1
  exact ⟨_, s2, fp2, _, _, g1, h3 g2, by simpa [List.append_assoc] using g3, .tmp g4, fun id ro cells ho => g5 id ro cells (h5 id ro cells ho)⟩
 | (.cell c t, ty') :: l, k, s, fp, pend, hO, ht, h => by
  rw [finRets] at h
  obtain ⟨v, z, ad, fp0, e1, e2, e3, e4⟩ := loadCell_sound hO (ht c) h
  obtain ⟨a', s1, fp1, lr, h1, h2, h3, h4, h5⟩ := foldA_sound hO e4 e1
  obtain ⟨as, s2, fp2, rvs, lr2, g1, g2, g3, g4, g5⟩ := finRets_sound l (k := fun as => k (a' :: as)) h2 (fun t => (ht t).ver h4) h1
  exact ⟨_, s2, fp2, _, _, g1, h3 g2, by simpa [List.append_assoc] using g3, .cell e2 e3 g4, fun id ro cells ho => g5 id ro cells (h5 id ro cells ho)⟩
theorem inPos_get : ∀ (ps : List PO) (p : Nat) (s : Objs), p + ps.length ≤ 1000 → ∀ i ro ts, ps[i]? = some (.box ro ts) → (inPos ps p s (nPO (p + i))).o = some (.box ro (unL (nPC (p + i)) ts))
 | [], p, s, hl, i, ro, ts, h => by simp at h
 | .box ro0 ts0 :: ps, p, s, hl, 0, ro, ts, h => by
  simp only [List.getElem?_cons_zero, Option.some.injEq, PO.box.injEq] at h
  obtain ⟨rfl, rfl⟩ := h
  rw [inPos, Nat.add_zero]; simp
 | .rows f sz rs :: ps, p, s, hl, 0, ro, ts, h => by simp at h
 | .box ro0 ts0 :: ps, p, s, hl, i + 1, ro, ts, h => by
  have hi := (List.getElem?_eq_some_iff.1 (show ps[i]? = some (.box ro ts) by simpa using h)).1
  simp only [List.length_cons] at hl
  have := inPos_get ps (p + 1) s (by omega) i ro ts (by simpa using h)
  rw [show p + 1 + i = p + (i + 1) by omega] at this
  rw [inPos, putS_ne _ _ _ (by unfold nPO; omega), putL_ne _ _ _ (.inl (by unfold nPO nPC; omega))]
  exact this
 | .rows f sz rs :: ps, p, s, hl, i + 1, ro, ts, h => by
  simp only [List.length_cons] at hl
  have := inPos_get ps (p + 1) s (by omega) i ro ts (by simpa using h)
  rw [show p + 1 + i = p + (i + 1) by omega] at this
  rw [inPos, putS_ne _ _ _ (by unfold nPO; omega)]
  exact this
theorem inTm_none : ∀ (as : List A) (j t : Nat), j + as.length ≤ t → inTm as j t = .no
 | [], j, t, h => rfl
 | a :: as, j, t, h => by
  simp only [List.length_cons] at h
  rw [inTm, upd_ne _ _ (by omega)]
  exact inTm_none as (j + 1) t (by omega)
theorem unL_get : ∀ (ts : List T) (n i : Nat) (t : T), ts[i]? = some t → (unL n ts)[i]? = some (unT (n + i) t)
 | [], n, i, t, h => by simp at h
 | t0 :: ts, n, 0, t, h => by
  simp only [List.getElem?_cons_zero, Option.some.injEq] at h
  subst h; rfl
 | t0 :: ts, n, i + 1, t, h => by
  rw [unL, List.getElem?_cons_succ, unL_get ts (n + 1) i t (by simpa using h)]
  rw [show n + 1 + i = n + (i + 1) by omega]
theorem RepV.cells1 {vr : Nat → Nat} {id off len sz : Nat} {e : Bool} {x : Value} (h : RepV vr β (.sl id e off len sz) x) : x.cells.getD 0 undef = x := by
 cases h <;> rfl
theorem agIos_rep {vr : Nat → Nat} {xs : List Value} {j : Nat} {cs : Array Value} (hx : xs[j]? = some (.agg cs)) : ∀ (ts : List T) (c : Nat), (∀ (i : Nat) (t : T) (y : Value), ts[i]? = some t → cs[c + i]? = some y → RepV vr β (unT (nArg j + (c + i)) t) y) → c + ts.length ≤ cs.size →
  ∀ p ∈ agIos j c ts, ∃ len, RepV vr β (.sl (nArg p.1 + p.2.1) true 0 len p.2.2) (ioVal xs p)
 | [], c, hr, hl, p, hp => by simp [agIos] at hp
 | t :: ts, c, hr, hl, p, hp => by
  simp only [List.length_cons] at hl
  have rest : p ∈ agIos j (c + 1) ts → ∃ len, RepV vr β (.sl (nArg p.1 + p.2.1) true 0 len p.2.2) (ioVal xs p) := agIos_rep hx ts (c + 1) (fun i t y ht hy => by
   have := hr (i + 1) t y (by simpa using ht) (by rw [← hy]; congr 1; omega)
   rwa [show c + (i + 1) = c + 1 + i by omega] at this) (by omega) p
  cases t with
  | im v => exact rest hp
  | no => exact rest hp
  | sl f sz rs =>
   rw [agIos, List.mem_cons] at hp
   rcases hp with rfl | hp
   ·have hc : cs[c]? = some cs[c] := Array.getElem?_eq_getElem (by omega)
    have := hr 0 _ cs[c] rfl (by rw [Nat.add_zero]; exact hc)
    refine ⟨sLen rs, ?_⟩
    have e : ioVal xs (j, c, sz) = cs[c] := by
     show (xs.getD j undef).cells.getD c undef = _
     have : xs.getD j undef = .agg cs := by simp [List.getD, hx]
     rw [this]
     show cs.getD c undef = _
     simp [Array.getD, show c < cs.size by omega]
    rw [e]
    simpa [unT] using this
   ·exact rest hp
theorem ios_rep {vr : Nat → Nat} {xs : List Value} : ∀ (ms : List Mode) (as : List A) (j : Nat), (∀ (i : Nat) (a : A) (y : Value), as[i]? = some a → xs[j + i]? = some y → RepV vr β (unA (nArg (j + i)) a) y) → j + as.length ≤ xs.length →
  ∀ p ∈ iosOf.go ms as j, ∃ len, RepV vr β (.sl (nArg p.1 + p.2.1) true 0 len p.2.2) (ioVal xs p)
 | [], as, j, hr, hl, p, hp => by simp [iosOf.go] at hp
 | m :: ms, [], j, hr, hl, p, hp => by cases m <;> simp [iosOf.go] at hp
 | m :: ms, a :: as, j, hr, hl, p, hp => by
  simp only [List.length_cons] at hl
  have rest : p ∈ iosOf.go ms as (j + 1) → ∃ len, RepV vr β (.sl (nArg p.1 + p.2.1) true 0 len p.2.2) (ioVal xs p) := ios_rep ms as (j + 1) (fun i a y ha hy => by
   have := hr (i + 1) a y (by simpa using ha) (by rw [← hy]; congr 1; omega)
   rwa [show j + (i + 1) = j + 1 + i by omega] at this) (by omega) p
  have hx : xs[j]? = some xs[j] := List.getElem?_eq_getElem (by omega)
  have h0 := hr 0 a xs[j] rfl (by rw [Nat.add_zero]; exact hx)
  rw [Nat.add_zero] at h0
  cases m with
  | bor => exact rest (by cases a <;> exact hp)
  | own => exact rest (by cases a <;> exact hp)
  | fz => exact rest (by cases a <;> exact hp)
  | ptr => exact rest (by cases a <;> exact hp)
  | ptrR => exact rest (by cases a <;> exact hp)
  | nl => exact rest (by cases a <;> exact hp)
  | io =>
   cases a with
   | c t =>
    cases t with
    | im v => exact rest hp
    | no => exact rest hp
    | sl f sz rs =>
     rw [iosOf.go, List.mem_cons] at hp
     rcases hp with rfl | hp
     ·refine ⟨sLen rs, ?_⟩
      have h0 : RepV vr β (.sl (nArg j) true 0 (sLen rs) sz) xs[j] := h0
      have e : ioVal xs (j, 0, sz) = xs[j] := by
       show (xs.getD j undef).cells.getD 0 undef = _
       have : xs.getD j undef = xs[j] := by simp [List.getD, hx]
       rw [this]
       exact h0.cells1
      rw [e]; exact h0
     ·exact rest hp
   | ag ts =>
    rw [iosOf.go, List.mem_append] at hp
    rcases hp with hp | hp
    ·have h0 : RepV vr β (.ag (unL (nArg j) ts)) xs[j] := h0
     generalize xs[j] = y at h0 hx
     cases h0 with
     | @ag _ cs hl2 hf hr2 =>
      rw [unL_length] at hl2
      refine agIos_rep hx ts 0 (fun i t y ht hy => ?_) (by omega) p hp
      rw [Nat.zero_add] at hy
      have := hr2 i _ y (unL_get ts (nArg j) i t ht) hy
      rwa [Nat.zero_add]
    ·exact rest hp
   | pt => exact rest hp
   | fn => exact rest hp
   | no => exact rest hp
end Go.Vm
namespace Go.Vm
set_option linter.unusedVariables false
set_option linter.unusedSimpArgs false
variable {P : Program} {X : Cx} {FZ FZ' : Nat → Prop} {β β' : Nat → Value} {w w' : World} {E : Env} {s s' : Objs} {pend : List (T × Value)}
theorem zip_fst {α γ : Type} : ∀ (a : List α) (b : List γ), a.length = b.length → (a.zip b).map (·.1) = a
 | [], b, h => by simp
 | x :: a, [], h => by simp at h
 | x :: a, y :: b, h => by simp [zip_fst a b (by simpa using h)]
theorem fin_sound {F : Fn} {ms : List Mode} {as : List A} {pos : List PO} {xs : List Value} {N : Nat} {σ : St} {a : Act} {r : LRes} (hP : E.P = P) (hF1 : F.ios = iosOf ms as 0) (hF2 : F.pos = pos.map roOf) (hF3 : F.fn.results.size = F.fn.resultTypes.size)
  (hn0 : OK X w FZ β (entry as pos) []) (hl : xs.length = as.length) (hsm : pos.length ≤ 1000) (ht : ∀ (j : Nat) (x : Value), xs[j]? = some x → RepV (vers (entry as pos)) β (inTm as 0 j) x)
  (h : fin E F σ = some r) (hi : Inv X w' FZ' β' N σ a) (hx : Ext (entry as pos) β σ.objs β') (wd : Wd X FZ FZ' w w') :
  ∃ out, r = .ret out ∧ ∃ x, (results F.fn a.tmps).run P w' = .ok x w' ∧ Res X w FZ β (iosOf ms as 0) xs pos out x w' := by
 subst hP
 unfold fin at h
 rw [H.runK_eq] at h
 cases hr : (finH E F σ.tm).run σ.objs [] with
 | none => rw [hr] at h; cases h
 | some q =>
 rw [hr] at h
 simp only [Option.bind_some] at h
 obtain ⟨o, sB, fpB⟩ := q
 refine ⟨o, (Option.some.inj h).symm, ?_⟩
 unfold finH at hr
 rw [hF1, hF2] at hr
 have hrep : ∀ (i : Nat) (a : A) (y : Value), as[i]? = some a → xs[0 + i]? = some y → RepV (vers σ.objs) β' (unA (nArg (0 + i)) a) y := fun i a y ha hy => by
  have ht2 := (ht _ y hy).ext hx
  rw [inTm_get as 0 i a ha] at ht2
  exact unA0_rep ht2
 obtain ⟨ts, s1, fp1, h1, h2, h3, h4⟩ := finIo_sound (V := ioVal xs) _ hi.ok (ios_rep ms as 0 hrep (by omega)) hr
 obtain ⟨ps, s2, fp2, lb, g1, g2, g3, g4, g5⟩ := finPo_sound pos 0 h3 h1 fun i ts0 hi0 => by
  have he := inPos_get pos 0 (inArgs as 0 fun _ => ⟨0, none⟩) (by omega) i false ts0 hi0
  have he : ((entry as pos) (nPO (0 + i))).o = _ := he
  obtain ⟨b, c, c1, c2, c3, _⟩ := hn0.rep _ _ he
  obtain ⟨c', d1, d2⟩ := wd.row b c c2
  exact ⟨b, c', ((hx _ (hn0.live _ _ he)).2).trans c1, d1, by rw [d2, c3, unL_length]⟩
 obtain ⟨rets, s3, fp3, rvs, lr, e1, e2, e3, e4, e5⟩ := finRets_sound _ g3 (fun t => (hi.tm t).ver fun i => Nat.le_trans (h4 i) (g4 i)) g1
 simp only [H.run, Option.some.injEq, Prod.mk.injEq] at e1
 obtain ⟨rfl, rfl, _⟩ := e1
 rw [zip_fst _ _ (by simpa using hF3)] at e4
 refine ⟨_, results_run e4, FZ', onlyB β β' s3, lb, lr, rvs, wd, h2, ?_, ?_, e2, rfl⟩
 ·have := OK.onlyB (β := β) e3
  rw [List.nil_append, List.append_assoc] at this
  exact this
 ·have g6 := g2.keep fun id cells ho => e5 id false cells ho
  refine g6.base fun i ts0 hi0 => ?_
  have he := inPos_get pos 0 (inArgs as 0 fun _ => ⟨0, none⟩) (by omega) i false ts0 hi0
  have he : ((entry as pos) (nPO (0 + i))).o = _ := he
  exact (hx _ (hn0.live _ _ he)).2
theorem bodyS_calls {f : FuncId} {as : List A} {pos : List PO} {out : Out} {σ0 : St} (hP : E.P = P) (hM : P.follows .mixedOrders = true) (hS : SoundG P E) (h : bodyS lp0 E f as pos σ0 = some (.ret out)) :
  Callable P f ∧ smallAll as pos = true ∧ ∀ (X : Cx) (w : World) (FZ : Nat → Prop) (β : Nat → Value) (xs : List Value), OK X w FZ β (entry as pos) [] → xs.length = as.length →
   (∀ (j : Nat) (x : Value), xs[j]? = some x → RepV (vers (entry as pos)) β (inTm as 0 j) x) →
   (∃ β0, OK X w FZ β0 σ0.objs [] ∧ Ext (entry as pos) β σ0.objs β0 ∧ (∀ (j : Nat) (x : Value), xs[j]? = some x → RepV (vers σ0.objs) β0 (σ0.tm j) x) ∧ ∀ t, as.length ≤ t → σ0.tm t = .no) →
   Calls P f xs.toArray w fun e w' => ∃ x, e = .returned x ∧ Res X w FZ β (iosOf (modesOf E f) as 0) xs pos out x w' := by
 unfold bodyS at h
 split at h
 ·rename_i fn hf
  split at h
  ·rename_i c hb
   cases hc : (smallAll as pos && !(fn.name == "runtime.NumGoroutine") && Nat.beq fn.results.size fn.resultTypes.size && (Code.writes c).all (fun d => Nat.blt d fn.ntmps)) with
   | false => rw [hc] at h; cases h
   | true =>
   rw [hc, cond_true] at h
   simp only [Bool.and_eq_true] at hc
   obtain ⟨⟨⟨hsm, hng⟩, hrs⟩, hwr⟩ := hc
   rw [hP] at hf
   have hng : (fn.name == "runtime.NumGoroutine") = false := by simpa using hng
   refine ⟨⟨fn, hf, by rw [hb]; rfl, hng⟩, hsm, fun X w FZ β xs hO hl ht hσ => ?_⟩
   obtain ⟨β0, hO0, he0, ht0, hno⟩ := hσ
   have hsm2 : pos.length ≤ 1000 := by
    unfold smallAll at hsm
    simp only [Bool.and_eq_true] at hsm
    exact Nat.le_of_ble_eq_true hsm.2
   refine calls_of_wp hf hb ?_
   have hd : ∀ d ∈ Code.writes c, d < fn.ntmps := fun d hd => by
    have := List.all_eq_true.1 hwr d hd
    simpa using this
   have hfin : ∀ (σ' : St) (β' : Nat → Value) (FZ' : Nat → Prop) (w' : World) (a' : Act), fin E (fnOf E f fn as pos) σ' = some (.ret out) → Inv X w' FZ' β' fn.ntmps σ' a' → Ext σ0.objs β0 σ'.objs β' → Wd X FZ FZ' w w' →
     a'.defers = [] ∧ ∃ v, (results fn a'.tmps).run P w' = .ok v w' ∧ ∃ x, (Ending.returned v : Ending) = .returned x ∧ Res X w FZ β (iosOf (modesOf E f) as 0) xs pos out x w' := fun σ' β' FZ' w' a' hk hi' xe wd => by
    obtain ⟨o, ho, x, h1, h2⟩ := fin_sound (F := fnOf E f fn as pos) (ms := modesOf E f) (pos := pos) hP rfl rfl (beq_eq hrs) hO hl hsm2 ht hk hi' (he0.trans xe) wd
    injection ho with ho
    subst ho
    exact ⟨hi'.df, x, h1, x, rfl, h2⟩
   refine evK_sound hP hM hS c 100000 (List.range as.length) _ σ0 _ _ (bodyPost P fn _) w FZ β0 _ h ⟨hO0, fun t => ?_, ?_, rfl⟩ (Wd.refl X FZ w) hd ⟨fun e σ' β' FZ' w' a' hk hi' xe wd _ => ?_, fun σ' β' FZ' w' a' hk hi' xe wd => hfin σ' β' FZ' w' a' hk hi' xe wd⟩
   ·by_cases hlt : t < xs.length
    ·have hx : xs[t]? = some xs[t] := List.getElem?_eq_getElem hlt
     have := ht0 t _ hx
     have e : (Act.mk (xs.toArray ++ Array.replicate (fn.ntmps - xs.toArray.size) undef) []).eval (.tmp t) = xs[t] := by
      show (xs.toArray ++ Array.replicate (fn.ntmps - xs.toArray.size) undef).getD t undef = _
      rw [Array.getD_eq_getD_getElem?, Array.getElem?_append_left (by simpa using hlt)]
      simp [hlt]
     rw [e]; exact this
    ·rw [hno t (by omega)]; exact .no
   ·show fn.ntmps ≤ (xs.toArray ++ Array.replicate (fn.ntmps - xs.toArray.size) undef).size
    simp; omega
   ·cases e with
    | norm => exact hfin σ' β' FZ' w' a' hk hi' xe wd
    | exit id => cases hk
  ·cases h
 ·cases h
theorem body_bodyS (lp : (List T → Option LRes) → List T → Option LRes) (f : FuncId) (as : List A) (pos : List PO) : body lp E f as pos = bodyS lp E f as pos { tm := inTm as 0, objs := entry as pos } := rfl
theorem body_sound {f : FuncId} {as : List A} {pos : List PO} {out : Out} (hP : E.P = P) (hM : P.follows .mixedOrders = true) (hS : SoundG P E) (h : body lp0 E f as pos = some (.ret out)) : Sound P (modesOf E f) f as pos out := by
 rw [body_bodyS] at h
 obtain ⟨h1, h2, h3⟩ := bodyS_calls hP hM hS h
 exact ⟨h1, h2, fun X w FZ β xs hX hO hl ht => h3 X w FZ β xs hO hl ht ⟨β, hO, Ext.refl _ _, ht, fun t hlt => inTm_none as 0 t (by omega)⟩⟩
noncomputable def stNn (as : List A) (sz : Nat) (rs : List (List T)) : St := { tm := upd (inTm as 0) 0 (.sl 7 true 0 (sLen rs) sz), objs := putS (entry as []) 7 true (some (.rows .ro sz rs)) }
noncomputable def stNl (as : List A) (sz : Nat) : St := { tm := upd (inTm as 0) 0 (.nl sz), objs := entry as [] }
theorem nil_sound {f : FuncId} {as : List A} {out : Out} {sz : Nat} {rs : List (List T)} (hP : E.P = P) (hM : P.follows .mixedOrders = true) (hS : SoundG P E)
  (h1 : bodyS lp0 E f (.c (.sl .ro sz rs) :: as) [] (stNn (.c (.sl .ro sz rs) :: as) sz rs) = some (.ret out))
  (h2 : rs = [] → bodyS lp0 E f (.c (.sl .ro sz rs) :: as) [] (stNl (.c (.sl .ro sz rs) :: as) sz) = some (.ret out)) : Sound P (modesOf E f) f (.c (.sl .ro sz rs) :: as) [] out := by
 obtain ⟨c1, c2, c3⟩ := bodyS_calls hP hM hS h1
 refine ⟨c1, c2, fun X w FZ β xs hX hO hl ht => ?_⟩
 have hx0 : xs[0]? = some (xs[0]'(by rw [hl]; simp)) := List.getElem?_eq_getElem _
 have h0 := ht 0 _ hx0
 generalize xs[0]'(by rw [hl]; simp) = x0 at hx0 h0
 have htm : inTm (.c (.sl .ro sz rs) :: as) 0 0 = .sl (nArg 0) true 0 (sLen rs) sz := by
  have := inTm_get (.c (.sl .ro sz rs) :: as) 0 0 _ rfl
  exact this
 rw [htm] at h0
 have hob : (entry (.c (.sl .ro sz rs) :: as) [] (nArg 0)).o = some (.rows .ro sz rs) := by
  show (putS (inArgs as 1 fun _ => ⟨0, none⟩) (nArg 0) true (some (.rows .ro sz rs)) (nArg 0)).o = _
  rw [putS_same]
 have hrep : Ow w X.RO FZ (.sl .ro sz rs) (β (nArg 0)) := hO.rep _ _ hob
 have hsm : (A.c (.sl .ro sz rs) :: as).all A.small = true ∧ as.length ≤ 100 := by
  unfold smallAll at c2
  simp only [Bool.and_eq_true] at c2
  exact ⟨c2.1.1.1, by have := Nat.le_of_ble_eq_true c2.1.2; simp at this; omega⟩
 have h7 : (entry (.c (.sl .ro sz rs) :: as) [] 7).ver = 0 := by
  show (inArgs (.c (.sl .ro sz rs) :: as) 0 (fun _ => ⟨0, none⟩) 7).ver = 0
  rw [inArgs_ne _ 0 _ hsm.1 (by unfold nArg; omega)]
 by_cases hx : x0 = .slice none 0 0
 ·subst hx
  have hrs : rs = [] := by
   have hl0 : sLen rs = 0 := by generalize sLen rs = m at h0; cases h0; rfl
   rw [sLen_eq] at hl0
   exact List.length_eq_zero_iff.1 hl0
  obtain ⟨_, _, d3⟩ := bodyS_calls hP hM hS (h2 hrs)
  refine d3 X w FZ β xs hO hl ht ⟨β, hO, Ext.refl _ _, fun j x hj => ?_, fun t hlt => ?_⟩
  ·show RepV _ β (upd (inTm _ 0) 0 (.nl sz) j) x
   by_cases e : j = 0
   ·subst e
    rw [upd_same]
    rw [hx0] at hj
    injection hj with hj
    subst hj
    exact .nl
   ·rw [upd_ne _ _ e]; exact ht j x hj
  ·show upd (inTm _ 0) 0 (.nl sz) t = .no
   rw [upd_ne _ _ (by simp at hlt; omega)]
   exact inTm_none _ 0 t (by simpa using hlt)
 ·have noB : ∀ b, ¬ Blk w (.sl .ro sz rs) (β (nArg 0)) b := fun b hb => by
   generalize β (nArg 0) = y at hb
   cases hb
  have hO1 := hO.add (pend := []) hrep (fun u b _ => noB b) (fun b hb => absurd hb (noB b))
  have hO2 := OK.place (pend := []) hO1 h7
  have hx2 := ext_new (β := β) h7 (some (.rows .ro sz rs)) (β (nArg 0))
  refine c3 X w FZ β xs hO hl ht ⟨_, hO2, hx2, fun j x hj => ?_, fun t hlt => ?_⟩
  ·show RepV _ _ (upd (inTm _ 0) 0 (.sl 7 true 0 (sLen rs) sz) j) x
   by_cases e : j = 0
   ·subst e
    rw [upd_same]
    rw [hx0] at hj
    injection hj with hj
    subst hj
    have hv : 1 ≤ vers (putS (entry (.c (.sl .ro sz rs) :: as) []) 7 true (some (.rows .ro sz rs))) 7 := by rw [vers, putS_bump]; omega
    have hb : upd β 7 (β (nArg 0)) 7 = β (nArg 0) := upd_same _ _ _
    generalize sLen rs = m at h0
    cases h0 with
    | sl0 => exact absurd rfl hx
    | se _ g => exact .se hv (hb.trans g)
    | sl _ g g1 g2 g3 g4 g5 => exact .sl hv (hb.trans g) g1 g2 g3 g4 g5
   ·rw [upd_ne _ _ e]; exact (ht j x hj).ext hx2
  ·show upd (inTm _ 0) 0 (.sl 7 true 0 (sLen rs) sz) t = .no
   rw [upd_ne _ _ (by simp at hlt; omega)]
   exact inTm_none _ 0 t (by simpa using hlt)
end Go.Vm
namespace Go.Vm
set_option linter.unusedVariables false
set_option linter.unusedSimpArgs false
inductive KT where
 | int (k : IntKind) | bool | str | sl (row : List KT)
mutual
def okKT : KT → T → Bool
 | .int k, .im (.int k' n) => decide (k = k') && (Lit.int k n).wf
 | .bool, .im (.bool _) => true
 | .str, .im (.string s) => decide (s.size ≤ reachBytes)
 | .sl row, .sl .ro sz rs => Nat.beq sz row.length && decide (rs.length ≤ reachBytes) && okKRs row rs
 | _, _ => false
def okKRs : List KT → List (List T) → Bool
 | _, [] => true
 | row, r :: rs => okKR row r && okKRs row rs
def okKR : List KT → List T → Bool
 | [], [] => true
 | k :: ks, t :: ts => okKT k t && okKR ks ts
 | _, _ => false
end
def Opv (P : Program) (t : TypeId) (ks : List KT) : Prop :=
 ∀ (H : Type) (enc : TypeId × Value → H) (w : World) (base : Nat) (held : Bool) (fuel : Nat) (cs : List Value) (y : DataW H × List MemPlace),
  DataW.trod enc P w base (fun _ => true) held fuel t cs = some y → (∀ n ∈ y.1.weights P t, n ≤ reachBytes) →
  ∃ ts, okKR ks ts = true ∧ ts.length = cs.length ∧ ∀ (j : Nat) (u : T) (v : Value), ts[j]? = some u → cs[j]? = some v → Im w (fun b => b < w.heap.size) u v
theorem opv_int {P : Program} {t : TypeId} {k : IntKind} (ht : P.underlying t = some (.int k)) : Opv P t [.int k] := by
 intro H enc w base held fuel cs y h _
 obtain ⟨n, rfl, _, hw⟩ := DataW.trod_int ht h
 refine ⟨[.im (.int k n)], by simp [okKR, okKT, hw], rfl, fun j u v hu hv => ?_⟩
 cases j with
 | zero =>
  simp only [List.getElem?_cons_zero, Option.some.injEq] at hu hv
  subst hu hv; exact .im trivial
 | succ j => simp at hu
theorem opv_bool {P : Program} {t : TypeId} (ht : P.underlying t = some .bool) : Opv P t [.bool] := by
 intro H enc w base held fuel cs y h _
 obtain ⟨b, rfl, _⟩ := DataW.trod_bool ht h
 refine ⟨[.im (.bool b)], by simp [okKR, okKT], rfl, fun j u v hu hv => ?_⟩
 cases j with
 | zero =>
  simp only [List.getElem?_cons_zero, Option.some.injEq] at hu hv
  subst hu hv; exact .im trivial
 | succ j => simp at hu
theorem opv_string {P : Program} {t : TypeId} (ht : P.underlying t = some .string) : Opv P t [.str] := by
 intro H enc w base held fuel cs y h hw
 obtain ⟨s, rfl, rfl, _⟩ := DataW.trod_string ht h
 have hs := hw s.data.toList.length (by simp [DataW.weights])
 refine ⟨[.im (.string s)], by simp only [okKR, okKT, Bool.and_true, decide_eq_true_eq]; simpa using hs, rfl, fun j u v hu hv => ?_⟩
 cases j with
 | zero =>
  simp only [List.getElem?_cons_zero, Option.some.injEq] at hu hv
  subst hu hv; exact .im trivial
 | succ j => simp at hu
theorem okKR_length : ∀ {ks : List KT} {ts : List T}, okKR ks ts = true → ts.length = ks.length
 | [], [], _ => rfl
 | k :: ks, t :: ts, h => by
  rw [okKR, Bool.and_eq_true] at h
  simp [okKR_length h.2]
 | [], _ :: _, h => by cases h
 | _ :: _, [], h => by cases h
theorem okKRs_all : ∀ {row : List KT} {rs : List (List T)}, (∀ r ∈ rs, okKR row r = true) → okKRs row rs = true
 | row, [], _ => by unfold okKRs; rfl
 | row, r :: rs, h => by
  rw [okKRs, h r List.mem_cons_self, okKRs_all fun r hr => h r (List.mem_cons_of_mem _ hr)]; rfl
theorem exists_rows {α : Type} (n : Nat) (Q : Nat → α → Prop) (h : ∀ i, i < n → ∃ x, Q i x) : ∃ xs : List α, xs.length = n ∧ ∀ i x, xs[i]? = some x → Q i x := by
 induction n with
 | zero => exact ⟨[], rfl, fun i x h => by simp at h⟩
 | succ n ih =>
  obtain ⟨xs, hl, hx⟩ := ih (fun i hi => h i (by omega))
  obtain ⟨y, hy⟩ := h n (by omega)
  refine ⟨xs ++ [y], by simp [hl], fun i x hi => ?_⟩
  rcases Nat.lt_or_ge i n with hlt | hge
  ·rw [List.getElem?_append_left (by omega)] at hi
   exact hx i x hi
  ·have : i = n := by
    have := (List.getElem?_eq_some_iff.1 hi).1
    simp at this
    omega
   subst this
   rw [List.getElem?_append_right (by omega), hl] at hi
   simp at hi
   subst hi
   exact hy
theorem weightsAll_mem {H : Type} {P : Program} {e : TypeId} : ∀ {l : List (DataW H)} {i : Nat} {d : DataW H}, l[i]? = some d → ∀ n ∈ d.weights P e, n ∈ DataW.weightsAll P e l
 | [], i, d, h, n, hn => by simp at h
 | d0 :: l, 0, d, h, n, hn => by
  simp only [List.getElem?_cons_zero, Option.some.injEq] at h
  subst h
  simp only [DataW.weightsAll, List.mem_append]
  exact .inl hn
 | d0 :: l, i + 1, d, h, n, hn => by
  simp only [List.getElem?_cons_succ] at h
  simp only [DataW.weightsAll, List.mem_append]
  exact .inr (weightsAll_mem h n hn)
theorem cell_row {w : World} {a : Addr} {v : Value} (h : w.cell? a = some v) : ∃ c, Rw w a.block c ∧ a.spot = none ∧ c[a.off]? = some v := by
 have hs := World.cell?_spot h
 unfold World.cell? at h
 split at h
 ·rename_i c t fr hh
  rw [hs] at h
  exact ⟨c, ⟨t, fr, hh⟩, hs, h⟩
 ·cases h
theorem cell_of {w : World} {a : Addr} {c : Array Value} {v : Value} (hr : Rw w a.block c) (k : Nat) (h : w.cell? (a.add k) = some v) : c[a.off + k]? = some v := by
 obtain ⟨c', hr', hs, hv⟩ := cell_row h
 have e1 : (a.add k).block = a.block := by unfold Addr.add; split <;> rfl
 have e2 : (a.add k).off = a.off + k := by
  unfold Addr.add; split
  ·rename_i h0; rw [h0]; rfl
  ·rfl
 rw [e1] at hr'
 rw [e2] at hv
 rw [hr.inj hr']; exact hv
theorem opv_slice {P : Program} {t e : TypeId} {row : List KT} (ht : P.underlying t = some (.slice e)) (hc : P.cellsOf e = row.length) (hp : 0 < row.length) (hby0 : Nat.blt 0 (P.bytesOf e) = true) (hd : Opv P e row) : Opv P t [.sl row] := by
 intro H enc w base held fuel cs y h hw
 have hby : 0 < P.bytesOf e := by simpa [Nat.blt_eq] using hby0
 have nil : okKT (.sl row) (.sl .ro row.length []) = true := by simp [okKT, okKRs]
 rcases Go.Deep.open_slice ht h with ⟨rfl, rfl⟩ | ⟨a, len, cap, m, n, D, Pl, rfl, hb, hl, hm, hmm, rfl, hi⟩
 ·refine ⟨[.sl .ro row.length []], by rw [okKR, nil]; simp [okKR], rfl, fun j u v hu hv => ?_⟩
  cases j with
  | zero =>
   simp only [List.getElem?_cons_zero, Option.some.injEq] at hu hv
   subst hu hv; exact .nil
  | succ j => simp at hu
 ·have hmc : m = cap := by rw [hmm]; simp
  subst hmc
  rcases Nat.eq_zero_or_pos m with h0 | h0
  ·subst h0
   obtain rfl : len = 0 := by omega
   refine ⟨[.sl .ro row.length []], by rw [okKR, nil]; simp [okKR], rfl, fun j u v hu hv => ?_⟩
   cases j with
   | zero =>
    simp only [List.getElem?_cons_zero, Option.some.injEq] at hu hv
    subst hu hv; exact .emp
   | succ j => simp at hu
  ·have hel : ∀ i, i < len → ∃ r, okKR row r = true ∧ ∀ (j : Nat) (u : T) (v : Value), r[j]? = some u → w.cell? (a.add (i * row.length + j)) = some v → Im w (fun b => b < w.heap.size) u v := by
    intro i hlt
    obtain ⟨c, h1, h2⟩ := hi i (by omega)
    obtain ⟨r, hk, hrl, hr⟩ := hd H enc w base held n c _ h2 (fun q hq => hw q (by
     simp only [DataW.weights, ht, List.mem_cons, List.mem_append]
     refine .inr (.inl (weightsAll_mem (i := i) (d := D i) ?_ q hq))
     simp [hlt]))
    refine ⟨r, hk, fun j u v hu hv => hr j u v hu ?_⟩
    obtain ⟨_, hcl, hat⟩ := World.cells?_some h1
    have hj : j < P.cellsOf e := by
     have := (List.getElem?_eq_some_iff.1 hu).1
     omega
    rw [← hat j hj, Go.Deep.add_add, hc]; exact hv
   obtain ⟨rs, hlen, hf⟩ := exists_rows len _ hel
   have hcell : ∀ i, i < m → ∀ j, j < row.length → ∃ v, w.cell? (a.add (i * row.length + j)) = some v := by
    intro i him j hj
    obtain ⟨c, h1, _⟩ := hi i him
    obtain ⟨_, hcl, hat⟩ := World.cells?_some h1
    refine ⟨c[j]'(by omega), ?_⟩
    have := hat j (by omega)
    rw [Go.Deep.add_add, hc] at this
    rw [this]
    exact List.getElem?_eq_getElem _
   obtain ⟨v0, hv0⟩ := hcell 0 h0 0 hp
   have hv0 : w.cell? a = some v0 := by simpa [Addr.add] using hv0
   obtain ⟨c, hr, hs, _⟩ := cell_row hv0
   obtain ⟨vl, hvl⟩ := hcell (m - 1) (by omega) (row.length - 1) (by omega)
   have hlast := (Array.getElem?_eq_some_iff.1 (cell_of hr _ hvl)).1
   have hsz : a.off + m * row.length ≤ c.size := by
    have : (m - 1) * row.length + row.length = m * row.length := by
     obtain ⟨k, rfl⟩ : ∃ k, m = k + 1 := ⟨m - 1, by omega⟩
     simp [Nat.succ_mul]
    omega
   have hrow : okKRs row rs = true := okKRs_all fun r hr => by
    obtain ⟨i, hi'⟩ := List.mem_iff_getElem?.1 hr
    exact (hf i r hi').1
   have hle : rs.length ≤ reachBytes := by
    rw [hlen]
    have := hw ((len + (m - len)) * P.bytesOf e) (by simp [DataW.weights, ht])
    refine Nat.le_trans ?_ this
    calc len ≤ (len + (m - len)) * 1 := by omega
     _ ≤ _ := Nat.mul_le_mul_left _ hby
   refine ⟨[.sl .ro row.length rs], by simp [okKR, okKT, hrow, hle], rfl, fun j u v hu hv => ?_⟩
   cases j with
   | zero =>
    simp only [List.getElem?_cons_zero, Option.some.injEq] at hu hv
    subst hu hv
    obtain ⟨b, o, sp⟩ := a
    obtain rfl : sp = none := hs
    rw [← hlen]
    refine .sl hr (hr.lt) (by omega) hsz (fun r hr => ?_) (fun i j t v ht hv => ?_)
    ·obtain ⟨i, hi'⟩ := List.mem_iff_getElem?.1 hr
     exact okKR_length (hf i r hi').1
    ·obtain ⟨r, h1, h2⟩ := ht
     have hj : j < row.length := by
      have := (List.getElem?_eq_some_iff.1 h2).1
      rw [okKR_length (hf i r h1).1] at this
      exact this
     have hil : i < len := by
      have := (List.getElem?_eq_some_iff.1 h1).1
      omega
     obtain ⟨v', hv'⟩ := hcell i (by omega) j hj
     have := cell_of hr _ hv'
     rw [show (⟨b, o, none⟩ : Addr).off + (i * row.length + j) = o + i * row.length + j by simp [Nat.add_assoc]] at this
     rw [this] at hv
     injection hv with hv
     subst hv
     exact (hf i r h1).2 j t _ h2 hv'
   | succ j => simp at hu
def OpvF (P : Program) (l : List Field) (off : Nat) (ks : List KT) : Prop :=
 ∀ (H : Type) (enc : TypeId × Value → H) (w : World) (base : Nat) (held : Bool) (n : Nat) (cs : List Value) (ys : List (DataW H × List MemPlace)),
  (∀ (i : Nat) (f : Field), l[i]? = some f → DataW.trod enc P w base (fun _ => true) held n f.type ((cs.drop f.offset).take (P.cellsOf f.type)) = ys[i]?) → ys.length = l.length →
  (∀ q ∈ DataW.weightsEach P (l.map (·.type)) (ys.map (·.1)), q ≤ reachBytes) → cs.length = off + ks.length →
  ∃ ts, okKR ks ts = true ∧ ∀ (j : Nat) (u : T) (v : Value), ts[j]? = some u → cs[off + j]? = some v → Im w (fun b => b < w.heap.size) u v
theorem opvF_nil {P : Program} {off : Nat} : OpvF P [] off [] := by
 intro H enc w base held n cs ys hy hl hw hcs
 exact ⟨[], by simp [okKR], fun j u v hu => by simp at hu⟩
theorem okKR_app : ∀ {a b : List KT} {ts us : List T}, okKR a ts = true → okKR b us = true → okKR (a ++ b) (ts ++ us) = true
 | [], b, [], us, _, h => h
 | k :: ks, b, t :: ts, us, h, h' => by
  rw [okKR, Bool.and_eq_true] at h
  rw [List.cons_append, List.cons_append, okKR, h.1, okKR_app h.2 h']; rfl
 | [], _, _ :: _, _, h, _ => by cases h
 | _ :: _, _, [], _, h, _ => by cases h
theorem opvF_cons {P : Program} {f : Field} {l : List Field} {off : Nat} {a b : List KT} (ho : f.offset = off) (hc : P.cellsOf f.type = a.length) (ha : Opv P f.type a) (hb : OpvF P l (off + a.length) b) : OpvF P (f :: l) off (a ++ b) := by
 intro H enc w base held n cs ys hy hl hw hcs
 match ys, hl with
 | y :: ys, hl =>
  rw [List.length_append] at hcs
  have h1 := hy 0 f rfl
  rw [ho, hc] at h1
  obtain ⟨ts, hk, htl, hx⟩ := ha H enc w base held n _ y h1 (fun q hq => hw q (by simp [DataW.weightsEach, hq]))
  obtain ⟨us, hk', hx'⟩ := hb H enc w base held n cs ys (fun i g hg => hy (i + 1) g hg) (by simpa using hl) (fun q hq => hw q (by simp [DataW.weightsEach, hq])) (by omega)
  have htl' : ts.length = a.length := okKR_length hk
  refine ⟨ts ++ us, okKR_app hk hk', fun j u v hu hv => ?_⟩
  rcases Nat.lt_or_ge j ts.length with hj | hj
  ·rw [List.getElem?_append_left hj] at hu
   refine hx j u v hu ?_
   rw [List.getElem?_take, if_pos (by omega), List.getElem?_drop]; exact hv
  ·rw [List.getElem?_append_right hj] at hu
   refine hx' _ u v hu ?_
   rw [← hv]; congr 1; omega
theorem opv_struct {P : Program} {t : TypeId} {fs : Array Field} {ks : List KT} (ht : P.underlying t = some (.struct fs)) (hc : P.cellsOf t = ks.length) (hf : OpvF P fs.toList 0 ks) : Opv P t ks := by
 intro H enc w base held fuel cs y h hw
 obtain ⟨xs, n, _, rfl, hlen, hxl, hg⟩ := DataW.trod_struct ht h
 obtain ⟨ts, hk, hx⟩ := hf H enc w base held n cs xs (fun i f hi => hg i f (by simpa using hi)) (by simpa using hxl) (fun q hq => hw q (by simpa [DataW.weights, ht] using hq)) (by omega)
 exact ⟨ts, hk, by rw [okKR_length hk, hlen, hc], fun j u v hu hv => hx j u v hu (by rw [Nat.zero_add]; exact hv)⟩
def ArgD (w : World) (a : A) (x : Value) : Prop :=
 match a with
 | .c t => Im w (fun b => b < w.heap.size) t x
 | .ag ts => ∃ cs : Array Value, x = .agg cs ∧ ts.length = cs.size ∧ ∀ (j : Nat) (u : T) (v : Value), ts[j]? = some u → cs[j]? = some v → Im w (fun b => b < w.heap.size) u v
 | _ => False
def okKA (a : A) (ks : List KT) : Bool :=
 match a with
 | .c t => okKR ks [t]
 | .ag ts => okKR ks ts
 | _ => false
section
variable {H : Type} {enc : TypeId × Value → H} {P : Program} {W : World} {base : Nat} {held : Bool} {t : TypeId} {k : KT} {ks : List KT} {ts : List TypeId} {ds : List (DataW H)} {r : Reach} {b : Nat} {v : Value} {y : DataW H} {ps : List MemPlace}
theorem arg_c (ho : Opv P t [k]) (hv : v.cells = #[v]) (h : DataW.Trod enc P W base (fun _ => true) held t v y ps) (hw : ∀ n ∈ y.weights P t, n ≤ reachBytes) : ∃ u, okKT k u = true ∧ ArgD W (.c u) v := by
 obtain ⟨fuel, hf⟩ := h
 rw [hv] at hf
 obtain ⟨ts, hk, hl, hx⟩ := ho H enc W base held fuel _ _ hf hw
 match ts, hl with
 | [u], _ =>
  rw [okKR, Bool.and_eq_true] at hk
  exact ⟨u, hk.1, hx 0 u v rfl rfl⟩
theorem arg_slice {e : TypeId} {row : List KT} (ht : P.underlying t = some (.slice e)) (ho : Opv P t [.sl row]) (hv : Value.okWide P W r b t v) (h : DataW.Trod enc P W base (fun _ => true) held t v y ps) (hw : ∀ n ∈ y.weights P t, n ≤ reachBytes) :
  ∃ rs, okKRs row rs = true ∧ rs.length ≤ reachBytes ∧ ArgD W (.c (.sl .ro row.length rs)) v := by
 obtain ⟨a, len, cap, rfl⟩ := Go.WideShapes.okWide_slice ht hv
 obtain ⟨u, hk, hx⟩ := arg_c ho rfl h hw
 cases u with
 | im v => cases hx; cases hk
 | no => cases hk
 | sl f sz rs =>
  cases f with
  | own => cases hk
  | fz => cases hk
  | ro =>
   simp only [okKT, Bool.and_eq_true, decide_eq_true_eq] at hk
   obtain rfl := beq_eq hk.1.1
   exact ⟨rs, hk.2, hk.1.2, hx⟩
theorem arg_struct {fs : Array Field} (ht : P.underlying t = some (.struct fs)) (ho : Opv P t ks) (hv : Value.okWide P W r b t v) (h : DataW.Trod enc P W base (fun _ => true) held t v y ps) (hw : ∀ n ∈ y.weights P t, n ≤ reachBytes) :
  ∃ ts, okKR ks ts = true ∧ ArgD W (.ag ts) v := by
 obtain ⟨cs, rfl, _⟩ := Go.WideShapes.okWide_struct ht hv
 obtain ⟨fuel, hf⟩ := h
 obtain ⟨ts, hk, hl, hx⟩ := ho H enc W base held fuel _ _ hf hw
 exact ⟨ts, hk, cs, rfl, by simpa [Value.cells] using hl, fun j u v hu hv => hx j u v hu (by simpa [Value.cells] using hv)⟩
theorem arg_int {k : IntKind} (ht : P.underlying t = some (.int k)) (hv : Value.okWide P W r b t v) (h : DataW.Trod enc P W base (fun _ => true) held t v y ps) : ∃ n, v = .int k n ∧ (Lit.int k n).wf = true ∧ ArgD W (.c (.im (.int k n))) v := by
 obtain ⟨n, rfl, _, _, hw⟩ := Go.ChangeShapes.open_int ht hv h
 exact ⟨n, rfl, hw, .im trivial⟩
theorem arg_string (ht : P.underlying t = some .string) (hv : Value.okWide P W r b t v) (h : DataW.Trod enc P W base (fun _ => true) held t v y ps) (hw : ∀ n ∈ y.weights P t, n ≤ reachBytes) : ∃ s, v = .string s ∧ s.size ≤ reachBytes ∧ ArgD W (.c (.im (.string s))) v := by
 obtain ⟨s, rfl, rfl, _, _⟩ := Go.ChangeMaps.open_string ht hv h
 refine ⟨s, rfl, ?_, .im trivial⟩
 have := hw s.data.toList.length (by simp [DataW.weights])
 simpa using this
theorem weights_le (h : (DataW.weightsEach P ts ds).all (· ≤ reachBytes) = true) {j : Nat} {t : TypeId} {d : DataW H} (ht : ts[j]? = some t) (hd : ds[j]? = some d) : ∀ n ∈ d.weights P t, n ≤ reachBytes := by
 intro n hn
 have := List.all_eq_true.1 h _ (DataW.weights_mem_each ht hd n hn)
 simpa using this
end
end Go.Vm
namespace Go.Vm
set_option linter.unusedVariables false
set_option linter.unusedSimpArgs false
def A.tree : A → Nat → T
 | .c t, 0 => t
 | .ag ts, m => ts.getD m .no
 | _, _ => .no
def slOf : T → Sl
 | .sl f sz rs => ⟨1, some (.rows f sz rs)⟩
 | _ => ⟨0, none⟩
theorem putL_at : ∀ (ts : List T) (n : Nat) (s : Objs) (c : Nat), (∀ i, n ≤ i → s i = ⟨0, none⟩) → putL n ts s (n + c) = slOf (ts.getD c .no)
 | [], n, s, c, h => by
  rw [putL, h _ (by omega)]; rfl
 | t :: ts, n, s, 0, h => by
  have h0 : putL (n + 1) ts s n = ⟨0, none⟩ := by rw [putL_ne _ _ _ (.inl (by omega))]; exact h n (by omega)
  rw [putL, Nat.add_zero]
  cases t with
  | im v => exact h0
  | no => exact h0
  | sl f sz rs =>
   show putS (putL (n + 1) ts s) n true _ n = _
   simp [putS, h0, slOf]
 | t :: ts, n, s, c + 1, h => by
  rw [putL, putT_ne _ _ (by omega)]
  have := putL_at ts (n + 1) s c fun i hi => h i (by omega)
  rw [show n + (c + 1) = n + 1 + c by omega, this]
  rfl
theorem putA_at {a : A} {n : Nat} {s : Objs} (c : Nat) (h : ∀ i, n ≤ i → s i = ⟨0, none⟩) : putA n a s (n + c) = slOf (a.tree c) := by
 have h0 : ∀ k, s (n + k) = ⟨0, none⟩ := fun k => h _ (by omega)
 cases a with
 | c t =>
  cases c with
  | zero =>
   show putT n t s n = slOf t
   cases t with
   | im v => exact h0 0
   | no => exact h0 0
   | sl f sz rs =>
    show putS s n true _ n = _
    have : s n = ⟨0, none⟩ := h0 0
    simp [putS, this, slOf]
  | succ c =>
   show putT n t s _ = _
   rw [putT_ne _ _ (by omega)]
   exact h0 _
 | ag ts => exact putL_at ts n s c h
 | pt => cases c <;> exact h0 _
 | fn => cases c <;> exact h0 _
 | no => cases c <;> exact h0 _
theorem putA_ne {a : A} {n i : Nat} {s : Objs} (hs : a.small = true) (h : i < n ∨ n + 64 ≤ i) : putA n a s i = s i := by
 cases a with
 | c t => exact putT_ne _ _ (by omega)
 | ag ts =>
  have : ts.length ≤ 64 := Nat.le_of_ble_eq_true hs
  exact putL_ne _ _ _ (by omega)
 | _ => rfl
theorem inArgs_at : ∀ (as : List A) (j k c : Nat) (a : A), as.all A.small = true → as[k]? = some a → c < 64 → inArgs as j (fun _ => ⟨0, none⟩) (nArg (j + k) + c) = slOf (a.tree c)
 | [], j, k, c, a, hs, h, hc => by simp at h
 | a0 :: as, j, 0, c, a, hs, h, hc => by
  simp only [List.getElem?_cons_zero, Option.some.injEq] at h
  subst h
  rw [List.all_cons, Bool.and_eq_true] at hs
  rw [inArgs]
  show putA (nArg j) a0 (inArgs as (j + 1) fun _ => ⟨0, none⟩) (nArg j + c) = _
  have h1 : ∀ i, nArg j ≤ i → i < nArg j + 64 → inArgs as (j + 1) (fun _ => ⟨0, none⟩) i = ⟨0, none⟩ := fun i _ hi =>
   inArgs_ne as (j + 1) _ hs.2 (.inl (by unfold nArg at *; omega))
  have e : putA (nArg j) a0 (inArgs as (j + 1) fun _ => ⟨0, none⟩) (nArg j + c) = putA (nArg j) a0 (fun _ => ⟨0, none⟩) (nArg j + c) := by
   have hp : ∀ (t : T) (q : Nat) (s s' : Objs) (i : Nat), s i = s' i → putT q t s i = putT q t s' i := fun t q s s' i hi => by
    cases t with
    | sl f sz rs =>
     show putS s q true _ i = putS s' q true _ i
     by_cases hq : i = q
     ·subst hq; simp [putS, hi]
     ·rw [putS_ne _ _ _ hq, putS_ne _ _ _ hq]; exact hi
    | _ => exact hi
   have hpl : ∀ (ts : List T) (q : Nat) (s s' : Objs) (i : Nat), s i = s' i → putL q ts s i = putL q ts s' i := by
    intro ts
    induction ts with
    | nil => intro q s s' i hi; exact hi
    | cons t ts ih => intro q s s' i hi; exact hp _ _ _ _ _ (ih _ _ _ _ hi)
   cases a0 with
   | c t => exact hp _ _ _ _ _ (h1 _ (by omega) (by omega))
   | ag ts => exact hpl _ _ _ _ _ (h1 _ (by omega) (by omega))
   | _ => exact h1 _ (by omega) (by omega)
  rw [e]
  exact putA_at c fun _ _ => rfl
 | a0 :: as, j, k + 1, c, a, hs, h, hc => by
  rw [List.all_cons, Bool.and_eq_true] at hs
  rw [inArgs, putA_ne hs.1 (.inr (by unfold nArg; omega))]
  have := inArgs_at as (j + 1) k c a hs.2 (by simpa using h) hc
  rw [show j + (k + 1) = j + 1 + k by omega]; exact this
def bEnt (xs : List Value) (id : Nat) : Value := (xs.getD ((id - 10000) / 64) undef).cells.getD ((id - 10000) % 64) undef
theorem bEnt_at {xs : List Value} {j c : Nat} {x : Value} (hx : xs[j]? = some x) (hc : c < 64) : bEnt xs (nArg j + c) = x.cells.getD c undef := by
 unfold bEnt nArg
 rw [show (10000 + 64 * j + c - 10000) / 64 = j by omega, show (10000 + 64 * j + c - 10000) % 64 = c by omega]
 simp [List.getD, hx]
theorem ent_cases {as : List A} {id : Nat} {o : O} (hs : as.all A.small = true) (h : (inArgs as 0 (fun _ => ⟨0, none⟩) id).o = some o) : ∃ k c a, id = nArg k + c ∧ c < 64 ∧ as[k]? = some a ∧ slOf (a.tree c) = ⟨1, some o⟩ := by
 have far : nArg 0 ≤ id ∧ id < nArg (0 + as.length) := by
  by_cases h1 : id < nArg 0 ∨ nArg (0 + as.length) ≤ id
  ·rw [inArgs_ne as 0 _ hs h1] at h; cases h
  ·omega
 have hk : (id - 10000) / 64 < as.length := by unfold nArg at far; omega
 have hid : id = nArg ((id - 10000) / 64) + (id - 10000) % 64 := by unfold nArg at *; omega
 refine ⟨_, _, _, hid, by omega, List.getElem?_eq_getElem hk, ?_⟩
 have := inArgs_at as 0 _ ((id - 10000) % 64) _ hs (List.getElem?_eq_getElem hk) (by omega)
 rw [Nat.zero_add, ← hid] at this
 rw [this] at h
 generalize as[(id - 10000) / 64].tree ((id - 10000) % 64) = t at h ⊢
 cases t with
 | sl f sz rs => simp only [slOf] at h ⊢; rw [h]
 | _ => simp [slOf] at h
def cxAll (w : World) : Cx := ⟨fun b => b < w.heap.size, fun _ => False, w.heap.size, w⟩
def roT : T → Bool
 | .sl .ro _ _ => true
 | .sl _ _ _ => false
 | _ => true
def A.ro : A → Bool
 | .c t => roT t
 | .ag ts => ts.all roT
 | _ => false
theorem A.ro_tree {a : A} {c : Nat} {f : Fl} {sz : Nat} {rs : List (List T)} (h : a.ro = true) (e : a.tree c = .sl f sz rs) : f = .ro := by
 have key : ∀ t, roT t = true → t = .sl f sz rs → f = .ro := fun t ht e => by
  subst e; cases f <;> first | rfl | cases ht
 cases a with
 | c t => cases c with
  | zero => exact key t h e
  | succ c => cases e
 | ag ts =>
  have hm : ts[c]? = some (.sl f sz rs) := by
   have : ts.getD c .no = .sl f sz rs := e
   rw [List.getD_eq_getElem?_getD] at this
   cases hc : ts[c]? with
   | none => rw [hc] at this; cases this
   | some t => rw [hc] at this; simpa using this
  exact key _ (List.all_eq_true.1 h _ (List.mem_of_getElem? hm)) rfl
 | _ => cases h
theorem ArgD.tree {w : World} {a : A} {x : Value} (h : ArgD w a x) {c : Nat} {f : Fl} {sz : Nat} {rs : List (List T)} (e : a.tree c = .sl f sz rs) : Im w (fun b => b < w.heap.size) (.sl f sz rs) (x.cells.getD c undef) := by
 cases a with
 | c t => cases c with
  | zero =>
   obtain rfl : t = .sl f sz rs := e
   have h : Im w _ _ x := h
   have : x.cells.getD 0 undef = x := by cases h <;> rfl
   rw [this]; exact h
  | succ c => cases e
 | ag ts =>
  obtain ⟨cs, rfl, hl, hx⟩ := h
  have e : ts.getD c .no = .sl f sz rs := e
  rw [List.getD_eq_getElem?_getD] at e
  cases hc : ts[c]? with
  | none => rw [hc] at e; cases e
  | some t =>
   rw [hc] at e
   have hlt := (List.getElem?_eq_some_iff.1 hc).1
   have hcs : cs[c]? = some (cs.getD c undef) := by simp [Array.getD, show c < cs.size by omega]
   have := hx c t _ hc hcs
   simp only [Option.getD_some] at e
   subst e; exact this
 | _ => cases h
theorem Im.repV {w : World} {A : Nat → Prop} {t : T} {x : Value} {vr : Nat → Nat} {β : Nat → Value} {n : Nat} (hz : n ≠ 7) (h : Im w A t x) (hb : ∀ f sz rs, t = .sl f sz rs → 1 ≤ vr n ∧ β n = x) : RepV vr β (unT n t) x := by
 cases h with
 | im h => exact .im h
 | no h => exact .no
 | nil =>
  obtain ⟨h1, h2⟩ := hb _ _ _ rfl
  show RepV vr β (.sl n true 0 (sLen []) _) _
  rw [sLen_eq]; exact .sl0 hz h1 h2
 | emp =>
  obtain ⟨h1, h2⟩ := hb _ _ _ rfl
  show RepV vr β (.sl n true 0 (sLen []) _) _
  rw [sLen_eq]; exact .se h1 h2
 | sl hr ha hl hbd hw hc =>
  obtain ⟨h1, h2⟩ := hb _ _ _ rfl
  show RepV vr β (.sl n true 0 (sLen _) _) _
  rw [sLen_eq]
  exact .sl h1 h2 (by omega) (by omega) hl (fun _ => ⟨by omega, by omega⟩) (.inl (by omega))
section
variable {w : World} {as : List A} {xs : List Value}
theorem ent_ok (hs : as.all A.small = true) (hro : as.all A.ro = true) (hl : xs.length = as.length) (hd : ∀ (j : Nat) (a : A) (x : Value), as[j]? = some a → xs[j]? = some x → ArgD w a x) (hg : glob w) :
  OK (cxAll w) w (fun _ => False) (bEnt xs) (entry as []) [] := by
 have key : ∀ id o, ((entry as []) id).o = some o → ∃ sz rs, o = .rows .ro sz rs ∧ Im w (fun b => b < w.heap.size) (.sl .ro sz rs) (bEnt xs id) := by
  intro id o ho
  have ho : (inArgs as 0 (fun _ => ⟨0, none⟩) id).o = some o := ho
  obtain ⟨k, c, a, rfl, hc, ha, he⟩ := ent_cases hs ho
  cases ht : a.tree c with
  | im v => rw [ht] at he; cases he
  | no => rw [ht] at he; cases he
  | sl f sz rs =>
   rw [ht] at he
   simp only [slOf, Sl.mk.injEq, Option.some.injEq, true_and] at he
   subst he
   obtain rfl := A.ro_tree (List.all_eq_true.1 hro _ (List.mem_of_getElem? ha)) ht
   have hk := (List.getElem?_eq_some_iff.1 ha).1
   have hx : xs[k]? = some xs[k] := List.getElem?_eq_getElem (by omega)
   refine ⟨sz, rs, rfl, ?_⟩
   rw [bEnt_at hx hc]
   exact (hd k a _ ha hx).tree ht
 have noBl : ∀ u b, ¬ Bl w (bEnt xs) (entry as []) [] u b := by
  rintro (id | k) b ⟨o, ho, hb⟩
  ·obtain ⟨sz, rs, rfl, _⟩ := key id o ho
   have hb : Blk w (.sl .ro sz rs) (bEnt xs id) b := hb
   cases hb
  ·simp at ho
 refine ⟨fun id o ho => ?_, fun k p hp => by simp at hp, fun u u' b _ hb => absurd hb (noBl u b), fun u b hb => absurd hb (noBl u b), fun b hb => ⟨hb, fun h => h⟩, fun b h => h.elim, Nat.le_refl _, fun id o ho => ?_, fun b hb => ⟨hb, rfl⟩, hg⟩
 ·obtain ⟨sz, rs, rfl, h⟩ := key id o ho
  exact Ow.ro h
 ·have ho' : (inArgs as 0 (fun _ => ⟨0, none⟩) id).o = some o := ho
  obtain ⟨k, c, a, rfl, hc, ha, he⟩ := ent_cases hs ho'
  have := inArgs_at as 0 k c a hs ha hc
  rw [Nat.zero_add] at this
  show 1 ≤ (inArgs as 0 (fun _ => ⟨0, none⟩) _).ver
  rw [this, he]; exact Nat.le_refl _
theorem ent_rep (hs : as.all A.small = true) (hl : xs.length = as.length) (hd : ∀ (j : Nat) (a : A) (x : Value), as[j]? = some a → xs[j]? = some x → ArgD w a x) :
  ∀ (j : Nat) (x : Value), xs[j]? = some x → RepV (vers (entry as [])) (bEnt xs) (inTm as 0 j) x := by
 intro j x hx
 have hj := (List.getElem?_eq_some_iff.1 hx).1
 have ha : as[j]? = some (as[j]'(by omega)) := List.getElem?_eq_getElem _
 have hg := inTm_get as 0 j _ ha
 rw [Nat.zero_add] at hg
 rw [hg]
 refine rep_unA0 ?_
 have hdx := hd j _ x ha hx
 have hv : ∀ c f sz rs, c < 64 → (as[j]'(by omega)).tree c = .sl f sz rs → 1 ≤ vers (entry as []) (nArg j + c) := fun c f sz rs hc e => by
  have := inArgs_at as 0 j c _ hs ha hc
  rw [Nat.zero_add] at this
  show 1 ≤ (inArgs as 0 (fun _ => ⟨0, none⟩) _).ver
  rw [this, e]; exact Nat.le_refl _
 generalize hae : as[j]'(by omega) = a at ha hdx hv
 cases a with
 | c t =>
  have hdx : Im w _ t x := hdx
  refine Im.repV (by unfold nArg; omega) hdx fun f sz rs e => ⟨by have := hv 0 f sz rs (by omega) e; simpa using this, ?_⟩
  have := bEnt_at (c := 0) hx (by omega)
  rw [Nat.add_zero] at this
  rw [this]
  subst e
  cases hdx <;> rfl
 | ag ts =>
  obtain ⟨cs, rfl, hcl, hcx⟩ := hdx
  have hsm : ts.length ≤ 64 := by
   have := List.all_eq_true.1 hs _ (List.mem_of_getElem? ha)
   exact Nat.le_of_ble_eq_true this
  refine .ag (by rw [unL_length]; exact hcl) (fun i y hy => ?_) (fun i v y hv' hy => ?_)
  ·have hi := (Array.getElem?_eq_some_iff.1 hy).1
   exact (hcx i _ y (List.getElem?_eq_getElem (by omega)) hy).flatV
  ·have hi := (Array.getElem?_eq_some_iff.1 hy).1
   have ht : ts[i]? = some (ts[i]'(by omega)) := List.getElem?_eq_getElem _
   rw [unL_get ts (nArg j) i _ ht] at hv'
   injection hv' with hv'
   subst hv'
   refine Im.repV (by unfold nArg; omega) (hcx i _ y ht hy) fun f sz rs e => ⟨hv i f sz rs (by omega) (by show ts.getD i .no = _; simp [List.getD, show i < ts.length by omega, e]), ?_⟩
   rw [bEnt_at hx (by omega)]
   show cs.getD i undef = y
   rw [Array.getElem?_eq_some_iff] at hy
   obtain ⟨_, rfl⟩ := hy
   simp [Array.getD, hi]
 | pt => cases hdx
 | fn => cases hdx
 | no => cases hdx
theorem law_true {P : Program} {ms : List Mode} {f : FuncId} (hS : Sound P ms f as [] ⟨[.c (.im (.bool true))], [], []⟩) (hro : as.all A.ro = true) (hl : xs.length = as.length)
  (hd : ∀ (j : Nat) (a : A) (x : Value), as[j]? = some a → xs[j]? = some x → ArgD w a x) (hg : glob w := by trivial) : Calls P f xs.toArray w fun e w' => e = .returned (.bool true) ∧ RowKit.Below w.heap.size w w' := by
 obtain ⟨_, hsm, hc⟩ := hS
 have hs : as.all A.small = true := by
  unfold smallAll at hsm
  simp only [Bool.and_eq_true] at hsm
  exact hsm.1.1.1
 refine (hc (cxAll w) w (fun _ => False) (bEnt xs) xs rfl (ent_ok hs hro hl hd hg) hl (ent_rep hs hl hd)).mono fun e w' he => ?_
 obtain ⟨x, rfl, FZ', sB, lb, lr, rvs, wd, h1, hOK, hB, hA, rfl⟩ := he
 refine ⟨?_, wd.os, wd.tape, wd.output, wd.size, fun b hb => wd.old b hb (fun h => h)⟩
 cases hA with
 | @c _ y _ _ _ hA' =>
  cases hA' with
  | nil =>
   have hm : ((T.im (.bool true), y) : T × Value) ∈ (([] : List T).zip ((iosOf ms as 0).map (ioVal xs))) ++ (lb ++ [(T.im (.bool true), y)]) := by simp
   obtain ⟨k, hk⟩ := List.mem_iff_getElem?.1 hm
   have := hOK.pow k _ hk
   cases this with
   | im h => rfl
end
end Go.Vm
namespace Go.Vm
set_option linter.unusedVariables false
set_option linter.unusedSimpArgs false
noncomputable section
@[match_pattern] abbrev tI (n : Int) : T := .im (.int .i64 n)
@[match_pattern] abbrev tB (b : Bool) : T := .im (.bool b)
@[match_pattern] abbrev aI (n : Int) : A := .c (tI n)
@[match_pattern] abbrev aB (b : Bool) : A := .c (tB b)
abbrev oB (b : Bool) : Out := ⟨[aB b], [], []⟩
abbrev oI (b : Int) : Out := ⟨[aI b], [], []⟩
abbrev gNo : Bool × Out := (false, ⟨[], [], []⟩)
def cI (r : List T) (j : Nat) : Int := iT (r.getD j .no)
def okRow : List Kd → List T → Bool
 | [], [] => true
 | .sl sz :: ks, t :: ts => isSl sz t && okRow ks ts
 | k :: ks, t :: ts => T.okK .own k t && okRow ks ts
 | _, _ => false
end
abbrev GFn := List A → List PO → Bool × Out
noncomputable def look : List (Nat × GFn) → Nat → GFn
 | [], _ => fun _ _ => gNo
 | (f', g) :: l, f => bif Nat.beq f f' then g else look l f
noncomputable def EE (P : Program) (md : FuncId → Option (List Mode)) (fl : FuncId → Fl) (l : List (Nat × GFn)) : Env := { P := P, G := look l, modes := md, flag := fl, freeze := [] }
inductive Good (P : Program) (md : FuncId → Option (List Mode)) (fl : FuncId → Fl) : List (Nat × GFn) → Prop
 | nil : Good P md fl []
 | cons {f : Nat} {g : GFn} {l : List (Nat × GFn)} (h : ∀ as pos, (g as pos).1 = true → body lp0 (EE P md fl l) f as pos = some (.ret (g as pos).2)) (hl : Good P md fl l) : Good P md fl ((f, g) :: l)
 | nil1 {f : Nat} {g : GFn} {l : List (Nat × GFn)} (h : ∀ as pos, (g as pos).1 = true → ∃ sz rs as', as = .c (.sl .ro sz rs) :: as' ∧ pos = [] ∧ bodyS lp0 (EE P md fl l) f (.c (.sl .ro sz rs) :: as') [] (stNn (.c (.sl .ro sz rs) :: as') sz rs) = some (.ret (g as pos).2) ∧
   (rs = [] → bodyS lp0 (EE P md fl l) f (.c (.sl .ro sz rs) :: as') [] (stNl (.c (.sl .ro sz rs) :: as') sz) = some (.ret (g as pos).2))) (hl : Good P md fl l) : Good P md fl ((f, g) :: l)
 | ext {f : Nat} {g : GFn} {l : List (Nat × GFn)} (h : ∀ as pos, (g as pos).1 = true → SoundG P (EE P md fl l) → Sound P (modesOf (EE P md fl l) f) f as pos (g as pos).2) (hl : Good P md fl l) : Good P md fl ((f, g) :: l)
theorem Good.soundG {P : Program} {md : FuncId → Option (List Mode)} {fl : FuncId → Fl} {l : List (Nat × GFn)} (hM : P.follows .mixedOrders = true) (h : Good P md fl l) : SoundG P (EE P md fl l) := by
 induction h with
 | nil => intro f as pos hf; cases hf
 | @cons f g l hb _ ih =>
  intro f' as pos hf
  have hf : ((bif Nat.beq f' f then g else look l f') as pos).1 = true := hf
  show Sound P (modesOf (EE P md fl l) f') f' as pos ((bif Nat.beq f' f then g else look l f') as pos).2
  cases hb' : Nat.beq f' f with
  | true =>
   obtain rfl := beq_eq hb'
   rw [hb', cond_true] at hf
   exact body_sound rfl hM ih (hb as pos hf)
  | false =>
   rw [hb', cond_false] at hf
   exact ih f' as pos hf
 | @nil1 f g l hb _ ih =>
  intro f' as pos hf
  have hf : ((bif Nat.beq f' f then g else look l f') as pos).1 = true := hf
  show Sound P (modesOf (EE P md fl l) f') f' as pos ((bif Nat.beq f' f then g else look l f') as pos).2
  cases hb' : Nat.beq f' f with
  | true =>
   obtain rfl := beq_eq hb'
   rw [hb', cond_true] at hf
   obtain ⟨sz, rs, as', e1, e2, h1, h2⟩ := hb as pos hf
   rw [cond_true]
   generalize hgo : (g as pos).2 = o at h1 h2 ⊢
   subst e1 e2
   exact nil_sound rfl hM ih h1 h2
  | false =>
   rw [hb', cond_false] at hf
   exact ih f' as pos hf
 | @ext f g l hb _ ih =>
  intro f' as pos hf
  have hf : ((bif Nat.beq f' f then g else look l f') as pos).1 = true := hf
  show Sound P (modesOf (EE P md fl l) f') f' as pos ((bif Nat.beq f' f then g else look l f') as pos).2
  cases hb' : Nat.beq f' f with
  | true =>
   obtain rfl := beq_eq hb'
   rw [hb', cond_true] at hf
   exact hb as pos hf ih
  | false =>
   rw [hb', cond_false] at hf
   exact ih f' as pos hf
theorem lp0_findN {F : List T → Option LRes} (d : Nat → List T) (n : Nat) (Q : Nat → Option Out) {x : List T}
  (h : ∀ i, i < n → F (d i) = some (match Q i with | some o => .ret o | none => .next (d (i + 1)))) (he : F (d n) = some (.brk x)) :
  ∀ k i, i + k = n → lp0 F (d i) = some (match (List.range' i k).findSome? Q with | some o => .ret o | none => .brk x) := by
 intro k
 induction k with
 | zero =>
  intro i hi
  obtain rfl : i = n := by omega
  rw [lp0_eq, he]; rfl
 | succ k ih =>
  intro i hi
  rw [lp0_eq, h i (by omega), List.range'_succ, List.findSome?_cons]
  cases hQ : Q i with
  | some o => rfl
  | none => exact ih (i + 1) (by omega)
theorem lp0_find {F : List T → Option LRes} (d : Nat → List T) (n : Nat) (Q : Nat → Option Out) {x : List T}
  (h : ∀ i, i < n → F (d i) = some (match Q i with | some o => .ret o | none => .next (d (i + 1)))) (he : F (d n) = some (.brk x)) :
  lp0 F (d 0) = some (match (List.range n).findSome? Q with | some o => .ret o | none => .brk x) := by
 rw [List.range_eq_range']
 exact lp0_findN d n Q h he n 0 (by omega)
theorem lp0_for {F : List T → Option LRes} (d : Nat → List T) (n : Nat) {x : List T}
  (h : ∀ i, i < n → F (d i) = some (.next (d (i + 1)))) (he : F (d n) = some (.brk x)) : lp0 F (d 0) = some (.brk x) := by
 have := lp0_find d n (fun _ => none) h he
 rw [this]
 have : (List.range n).findSome? (fun _ => (none : Option Out)) = none := by
  rw [List.findSome?_eq_none_iff]; exact fun _ _ => rfl
 rw [this]
theorem lp0_for0 {F : List T → Option LRes} (d : Nat → List T) (n : Nat) {x ds0 : List T} (h0 : ds0 = d 0)
  (h : ∀ i, i < n → F (d i) = some (.next (d (i + 1)))) (he : F (d n) = some (.brk x)) : lp0 F ds0 = some (.brk x) := by rw [h0]; exact lp0_for d n h he
theorem lp0_find0 {F : List T → Option LRes} (d : Nat → List T) (n : Nat) (Q : Nat → Option Out) {x ds0 : List T} (h0 : ds0 = d 0)
  (h : ∀ i, i < n → F (d i) = some (match Q i with | some o => .ret o | none => .next (d (i + 1)))) (he : F (d n) = some (.brk x)) :
  lp0 F ds0 = some (match (List.range n).findSome? Q with | some o => .ret o | none => .brk x) := by rw [h0]; exact lp0_find d n Q h he
theorem range_all {α β : Type} (l : List α) (q : α → Bool) (o : β) (Q : Nat → Option β) (h : ∀ i (hi : i < l.length), Q i = bif q l[i] then none else some o) :
  (List.range l.length).findSome? Q = bif l.all q then none else some o := by
 cases ha : l.all q with
 | true =>
  rw [cond_true, List.findSome?_eq_none_iff]
  intro i hi
  have hi := List.mem_range.1 hi
  rw [h i hi, List.all_eq_true.1 ha _ (List.getElem_mem hi)]; rfl
 | false =>
  rw [cond_false]
  rw [List.all_eq_false] at ha
  obtain ⟨x, hx, hq⟩ := ha
  obtain ⟨i, hi, rfl⟩ := List.mem_iff_getElem.1 hx
  cases hf : (List.range l.length).findSome? Q with
  | none =>
   rw [List.findSome?_eq_none_iff] at hf
   have := hf i (List.mem_range.2 hi)
   rw [h i hi] at this
   simp only [Bool.not_eq_true] at hq
   rw [hq] at this; cases this
  | some y =>
   obtain ⟨j, hj, hy⟩ := List.exists_of_findSome?_eq_some hf
   rw [h j (List.mem_range.1 hj)] at hy
   cases hqj : q (l[j]'(List.mem_range.1 hj)) with
   | true => rw [hqj] at hy; cases hy
   | false => rw [hqj] at hy; exact hy.symm
theorem range_idxN {α β : Type} (q : α → Bool) (o : Nat → β) : ∀ (l : List α) (i0 : Nat) (Q : Nat → Option β), (∀ i (hi : i < l.length), Q (i0 + i) = bif q l[i] then some (o (i0 + i)) else none) →
  (List.range' i0 l.length).findSome? Q = (l.findIdx? q).map fun i => o (i0 + i)
 | [], i0, Q, h => rfl
 | x :: l, i0, Q, h => by
  rw [List.length_cons, List.range'_succ, List.findSome?_cons, List.findIdx?_cons]
  have h0 := h 0 (by simp)
  simp only [Nat.add_zero, List.getElem_cons_zero] at h0
  rw [h0]
  cases hq : q x with
  | true => simp
  | false =>
   have := range_idxN q o l (i0 + 1) Q fun i hi => by
    have := h (i + 1) (by simpa using hi)
    simp only [List.getElem_cons_succ] at this
    rw [show i0 + 1 + i = i0 + (i + 1) by omega]; exact this
   rw [cond_false, this]
   cases hf : l.findIdx? q with
   | none => rfl
   | some k => simp [Nat.add_assoc, Nat.add_comm 1]
theorem range_idx {α β : Type} (l : List α) (q : α → Bool) (o : Nat → β) (Q : Nat → Option β) (h : ∀ i (hi : i < l.length), Q i = bif q l[i] then some (o i) else none) :
  (List.range l.length).findSome? Q = (l.findIdx? q).map o := by
 rw [List.range_eq_range', range_idxN q o l 0 Q fun i hi => by rw [Nat.zero_add]; exact h i hi]
 simp
theorem okRow_cells {rs : List (List T)} {i : Nat} (hi : i < rs.length) : ∀ (ks : List Kd) (j : Nat), okRow ks (rs[i].drop j) = true → okCells ks rs i j = true
 | [], j, h => rfl
 | k :: ks, j, h => by
  cases hd : rs[i].drop j with
  | nil => rw [hd] at h; cases k <;> cases h
  | cons t ts =>
   rw [hd] at h
   have hlt : j < rs[i].length := by
    rcases Nat.lt_or_ge j rs[i].length with h1 | h1
    ·exact h1
    ·rw [List.drop_eq_nil_of_le h1] at hd; cases hd
   have ht : cell rs i j = t := by
    have : rs.getD i [] = rs[i] := by simp [List.getD, hi]
    rw [cell, this]
    have h2 := List.drop_eq_getElem_cons hlt
    rw [hd] at h2
    injection h2 with h2 h3
    simp [List.getD, hlt, h2]
   have hts : ts = rs[i].drop (j + 1) := by
    have h2 := List.drop_eq_getElem_cons hlt
    rw [hd] at h2
    injection h2 with h2 h3
   cases k with
   | sl sz => have h' : (isSl sz t && okRow ks ts) = true := h; rw [Bool.and_eq_true] at h'; show (isSl sz (cell rs i j) && okCells ks rs i (j + 1)) = true; rw [ht, Bool.and_eq_true]; exact ⟨h'.1, okRow_cells hi ks (j + 1) (hts ▸ h'.2)⟩
   | int kd => have h' : (T.okK .own (.int kd) t && okRow ks ts) = true := h; rw [Bool.and_eq_true] at h'; show (T.okK .own (.int kd) (cell rs i j) && okCells ks rs i (j + 1)) = true; rw [ht, Bool.and_eq_true]; exact ⟨h'.1, okRow_cells hi ks (j + 1) (hts ▸ h'.2)⟩
   | bool => have h' : (T.okK .own (.bool) t && okRow ks ts) = true := h; rw [Bool.and_eq_true] at h'; show (T.okK .own (.bool) (cell rs i j) && okCells ks rs i (j + 1)) = true; rw [ht, Bool.and_eq_true]; exact ⟨h'.1, okRow_cells hi ks (j + 1) (hts ▸ h'.2)⟩
   | str => have h' : (T.okK .own (.str) t && okRow ks ts) = true := h; rw [Bool.and_eq_true] at h'; show (T.okK .own (.str) (cell rs i j) && okCells ks rs i (j + 1)) = true; rw [ht, Bool.and_eq_true]; exact ⟨h'.1, okRow_cells hi ks (j + 1) (hts ▸ h'.2)⟩
   | oth => have h' : (T.okK .own (.oth) t && okRow ks ts) = true := h; rw [Bool.and_eq_true] at h'; show (T.okK .own (.oth) (cell rs i j) && okCells ks rs i (j + 1)) = true; rw [ht, Bool.and_eq_true]; exact ⟨h'.1, okRow_cells hi ks (j + 1) (hts ▸ h'.2)⟩
theorem cell_get {rs : List (List T)} {i : Nat} (hi : i < rs.length) (j : Nat) : cell rs i j = rs[i].getD j .no := by
 have : rs.getD i [] = rs[i] := by simp [List.getD, hi]
 rw [cell, this]
theorem wrap64 {n : Int} (h1 : -9223372036854775808 ≤ n) (h2 : n ≤ 9223372036854775807) : IntKind.i64.wrap n = n := by
 rw [IntKind.wrap_i64]; omega
theorem setRow_fill {rs : List (List T)} {z : List T} {i : Nat} (hi : i < rs.length) (hl : z.length = rs[i].length) :
  setRow (rs.take i ++ List.replicate (rs.length - i) z) i 0 rs[i] = rs.take (i + 1) ++ List.replicate (rs.length - (i + 1)) z := by
 have e1 : (rs.take i).length = i := by rw [List.length_take]; omega
 obtain ⟨k, hk⟩ : ∃ k, rs.length - i = k + 1 := ⟨rs.length - i - 1, by omega⟩
 have e2 : rs.length - (i + 1) = k := by omega
 have e3 : (rs.take i ++ List.replicate (k + 1) z).getD i [] = z := by
  rw [List.getD_eq_getElem?_getD, List.getElem?_append_right (by omega), e1, Nat.sub_self]; simp [List.replicate_succ]
 unfold setRow
 rw [hk, e2, e3]
 have e4 : splice z 0 rs[i] = rs[i] := by simp [splice, hl]
 rw [e4, List.set_append_right _ _ (by omega), e1, Nat.sub_self, List.replicate_succ, List.set_cons_zero, List.take_succ_eq_append_getElem hi, List.append_assoc]
 rfl
theorem tAt0 (t : T) (ts : List T) : tAt (t :: ts) 0 = t := by rw [tAt_eq]; rfl
theorem tAtS (t : T) (ts : List T) (n : Nat) : tAt (t :: ts) (n + 1) = tAt ts n := by rw [tAt_eq, tAt_eq]; rfl
theorem tAt1 (t u : T) (ts : List T) : tAt (t :: u :: ts) 1 = u := by rw [tAt_eq]; rfl
theorem tAt2 (t u v : T) (ts : List T) : tAt (t :: u :: v :: ts) 2 = v := by rw [tAt_eq]; rfl
theorem tAt3 (t u v x : T) (ts : List T) : tAt (t :: u :: v :: x :: ts) 3 = x := by rw [tAt_eq]; rfl
theorem vAt0 (v : Value) (vs : List Value) : vAt (v :: vs) 0 = v := by rw [vAt_eq]; rfl
theorem iT_im (k : IntKind) (n : Int) : iT (.im (.int k n)) = n := by rw [iT_eq]; rfl
theorem bT_im (b : Bool) : bT (.im (.bool b)) = b := by rw [bT_eq]; rfl
theorem rT_sl (f : Fl) (sz : Nat) (rs : List (List T)) : rT (.sl f sz rs) = rs := by rw [rT_eq]; rfl
theorem okT_i (f : Fl) (n : Int) : okT f (.int .i64) (.im (.int .i64 n)) = true := by rw [okT_eq]; rfl
theorem okT_b (f : Fl) (b : Bool) : okT f .bool (.im (.bool b)) = true := by rw [okT_eq]; rfl
theorem okT_s (f : Fl) (sz : Nat) (rs : List (List T)) : okT f (.sl sz) (.sl f sz rs) = true := by rw [okT_eq]; simp only [T.okK, Bool.and_eq_true]; exact ⟨by cases f <;> rfl, Nat.beq_refl sz⟩
theorem okVl_b (b : Bool) : okVl .bool (.bool b) = true := by rw [okVl_eq]; rfl
theorem bV_b (b : Bool) : bV (.bool b) = b := by rw [bV_eq]; rfl
theorem okVl_i (n : Int) : okVl (.int .i64) (.int .i64 n) = true := by rw [okVl_eq]; rfl
theorem iV_i (k : IntKind) (n : Int) : iV (.int k n) = n := by rw [iV_eq]; rfl
theorem lt_len {rs : List (List T)} {i : Nat} (hi : i < rs.length) : sLt (i : Int) (Int.ofNat (sLen rs)) = true := by
 rw [sLt_eq, sLen_eq]; exact decide_eq_true (by have : Int.ofNat rs.length = (rs.length : Int) := rfl; omega)
theorem lt_len' {rs : List (List T)} : sLt (rs.length : Int) (Int.ofNat (sLen rs)) = false := by
 rw [sLt_eq, sLen_eq]; exact decide_eq_false (by have : Int.ofNat rs.length = (rs.length : Int) := rfl; omega)
theorem le_0 (i : Nat) : sLe 0 (i : Int) = true := by rw [sLe_eq]; exact decide_eq_true (by omega)
theorem cell_at {rs : List (List T)} {i : Nat} (hi : i < rs.length) (j : Nat) : sCell rs ((i : Int).toNat + 0) j = rs[i].getD j .no := by rw [sCell_eq]; exact cell_get hi j
theorem okc_at {rs : List (List T)} {i : Nat} {ks : List Kd} (hi : i < rs.length) (h : rs.all (okRow ks) = true) : sOkC ks rs ((i : Int).toNat + 0) 0 = true := by
 rw [sOkC_eq]
 exact okRow_cells hi ks 0 (List.all_eq_true.1 h _ (List.getElem_mem hi))
theorem add1 {i : Nat} (h : i < 4611686018427387904) : sAdd .i64 (i : Int) 1 = ((i + 1 : Nat) : Int) := by
 rw [sAdd_eq, wrap64 (by omega) (by omega)]; omega
end Go.Vm
