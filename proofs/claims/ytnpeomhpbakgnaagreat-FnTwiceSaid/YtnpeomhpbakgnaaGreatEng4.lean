/- The symbolic executor over the model of Go, with its proof; part 4. It speaks of no law by itself. -/
import Derived.Test.YtnpeomhpbakgnaaGreatEng3
import Derived.Orders
set_option linter.unusedVariables false
set_option linter.unusedSimpArgs false
namespace Go.Eng
open Go.RowKit

section
variable {E : Env} {w0 : World} {C : List Nat} {n : Nat} {L : LS} {ρ : Val} {a : Act} {w : World} {bs : List (Nat × Blk)} {rs : List (Nat × Option Row)} {g : Option Bool} {A : Sides}

theorem InR.ha (hr : ∀ r x, L.r r = some (some x) → RowOk E w (ρ.ra r) (ρ.rc r) x) (hb : ∀ k b, L.b k = some b → BlkOk w L ρ (ρ.bl k) b) (hs : Sd A) (hg : GT g) :
  ∀ {ts : List ATy} {ms : List Mode} {d : denA ts} {xs : List SA} {R kl mt rf : List Nat} {vs : List Value}, InR bs rs g A ts ms d xs R kl mt rf → OkAs L ρ xs vs →
  (∀ r ∈ R, L.r r = find rs r) → (∀ r ∈ kl ++ mt, L.r r = find rs r ∧ ∃ t ys, find rs r = some (some ⟨t, ys, true, none⟩)) → (∀ k ∈ rf, L.b k = find bs k) →
  (∀ a ∈ ts, ∀ t, CT.row t ∈ a.cts → ∃ e, E.eid t = some e) →
  HA E w ts ms d vs (R.filterMap (bk ρ)) (kl.filterMap (bk ρ)) (mt.filterMap (bk ρ)) (rf.map ρ.bl)
 | [], [], d, xs, R, kl, mt, rf, vs, ⟨h1, h2, h3, h4, h5⟩, ho, _, _, _, _ => by
  subst h1 h2 h3 h4 h5
  cases ho
  exact ⟨rfl, rfl, rfl, rfl, rfl⟩
 | t :: ts, .ro :: ms, (d, ds), xs, R, kl, mt, rf, vs, ⟨x, xs', l, ps, h1, h2, h3, h4, R', h5, h6⟩, ho, hR, hK, hF, hE => by
  subst h1 h5
  cases ho with
  | cons hv ho =>
   obtain ⟨us, hu, hok⟩ := shapeS_ok h4 hv
   refine ⟨_, _, us, _, rfl, h2.hc hs hg hr h3 (fun r hr => hR r (List.mem_append_left _ hr)) hok (fun h => by cases h), hu, _, by rw [List.filterMap_append], ?_⟩
   exact InR.ha hr hb hs hg h6 ho (fun r hr => hR r (List.mem_append_right _ hr)) hK hF fun a ha => hE a (List.mem_cons_of_mem _ ha)
 | t :: ts, .own :: ms, (d, ds), xs, R, kl, mt, rf, vs, ⟨x, xs', l, ps, h1, h2, h3, h4, R', h5, h6⟩, ho, hR, hK, hF, hE => by
  subst h1 h5
  cases ho with
  | cons hv ho =>
   obtain ⟨us, hu, hok⟩ := shapeS_ok h4 hv
   refine ⟨_, _, us, _, rfl, h2.hc hs hg hr h3 (fun r hr => (hK r (by simp [hr])).1) hok (fun _ => ⟨fun r hr => (hK r (by simp [hr])).2, fun t' ht => hE t List.mem_cons_self t' ht⟩), hu, _, by rw [List.filterMap_append], ?_⟩
   exact InR.ha hr hb hs hg h6 ho hR (fun r hr => hK r (by rw [List.append_assoc]; exact List.mem_append_right _ hr)) hF fun a ha => hE a (List.mem_cons_of_mem _ ha)
 | t :: ts, .mut :: ms, (d, ds), xs, R, kl, mt, rf, vs, ⟨x, xs', l, ps, h1, h2, h3, h4, R', h5, h6⟩, ho, hR, hK, hF, hE => by
  subst h1 h5
  cases ho with
  | cons hv ho =>
   obtain ⟨us, hu, hok⟩ := shapeS_ok h4 hv
   refine ⟨_, _, us, _, rfl, h2.hc hs hg hr h3 (fun r hr => (hK r (by simp [hr])).1) hok (fun _ => ⟨fun r hr => (hK r (by simp [hr])).2, fun t' ht => hE t List.mem_cons_self t' ht⟩), hu, _, by rw [List.filterMap_append], ?_⟩
   exact InR.ha hr hb hs hg h6 ho hR (fun r hr => hK r (by
    rcases List.mem_append.1 hr with h | h
    ·simp [h]
    ·simp [h])) hF fun a ha => hE a (List.mem_cons_of_mem _ ha)
 | t :: ts, .ref :: ms, (d, ds), xs, R, kl, mt, rf, vs, ⟨x, xs', l, ps, h1, h2, h3, k, ty, R', rf', h4, h5, h6, h7, h8⟩, ho, hR, hK, hF, hE => by
  subst h1 h4 h6 h7
  cases ho with
  | cons hv ho =>
   obtain ⟨_, hv⟩ := hv
   have hbk := hb k _ ((hF k List.mem_cons_self).trans h5)
   obtain ⟨us, hh, hok⟩ := hbk
   refine ⟨_, _, us.toList, _, rfl, h2.hc hs hg hr h3 (fun r hr => hR r (List.mem_append_left _ hr)) hok (fun h => by cases h), ρ.bl k, ty, _, _, hv, by simpa using hh, by rw [List.filterMap_append], rfl, ?_⟩
   exact InR.ha hr hb hs hg h8 ho (fun r hr => hR r (List.mem_append_right _ hr)) hK (fun k hk => hF k (List.mem_cons_of_mem _ hk)) fun a ha => hE a (List.mem_cons_of_mem _ ha)
 | t :: ts, .giv :: ms, (d, ds), xs, R, kl, mt, rf, vs, ⟨x, xs', l, ps, h1, h2, h3, k, ty, kl', rf', h4, h5, h6, h7, h8⟩, ho, hR, hK, hF, hE => by
  subst h1 h4 h6 h7
  cases ho with
  | cons hv ho =>
   obtain ⟨_, hv⟩ := hv
   have hbk := hb k _ ((hF k List.mem_cons_self).trans h5)
   obtain ⟨us, hh, hok⟩ := hbk
   refine ⟨_, _, us.toList, _, rfl, h2.hc hs hg hr h3 (fun r hr => (hK r (by simp [hr])).1) hok (fun _ => ⟨fun r hr => (hK r (by simp [hr])).2, fun t' ht => hE t List.mem_cons_self t' ht⟩), ρ.bl k, ty, _, _, hv, by simpa using hh, by rw [List.filterMap_append], rfl, ?_⟩
   exact InR.ha hr hb hs hg h8 ho hR (fun r hr => hK r (by rw [List.append_assoc]; exact List.mem_append_right _ hr)) (fun k hk => hF k (List.mem_cons_of_mem _ hk)) fun a ha => hE a (List.mem_cons_of_mem _ ha)
 | [], _ :: _, d, xs, R, kl, mt, rf, vs, h, _, _, _, _, _ => h.elim
 | _ :: _, [], d, xs, R, kl, mt, rf, vs, h, _, _, _, _, _ => h.elim

def UpOk (E : Env) (rs : List (Nat × Option Row)) (ρ : Val) (w' : World) (r : Nat) (y : Row) : Prop :=
 y.own = true ∧ y.g = none ∧ OwnR E w' y.t (ρ.ra r) (ρ.rc r) y.xs ∧ ∃ x, find rs r = some (some x) ∧ y.xs.length = x.xs.length ∧ y.t.n = x.t.n

theorem mutK_out {K : List (Nat × Row) → Prop} {l : List SC} {ps : List PD} (h : PDs rs g A l ps) : ∀ {cts : List CT} {d0 d : denC cts} {K : List (Nat × Row) → Prop}, parseC cts ps = some d0 → mutK cts d l K →
  ∃ up, K up ∧ (∀ r, (∃ y, (r, y) ∈ up) ↔ r ∈ rowNames l) ∧ ∀ (L : LS) (ρ : Val) (w' : World) (us : List Value) (B : List Nat), Sd A → GT g → (∀ r ∈ rowNames l, L.r r = find rs r) → Oks L ρ l us → HC E w' true cts d us B →
   ∀ r y, (r, y) ∈ up → UpOk E rs ρ w' r y := by
 induction h with
 | nil =>
  intro cts d0 d K hp hK
  cases cts with
  | nil => exact ⟨[], hK, fun r => by simp [rowNames], fun _ _ _ _ _ _ _ _ _ _ r y hy => by cases hy⟩
  | cons c cts => simp [parseC] at hp
 | leaf hx ih =>
  rename_i x l ds
  intro cts d0 d K hp hK
  cases cts with
  | nil => simp [parseC] at hp
  | cons c cts =>
   simp only [parseC] at hp
   split at hp
   ·rename_i d1 h1
    split at hp
    ·rename_i d2 h2
     cases c with
     | row t => simp [CT.get] at h1
     | leaf lt =>
      obtain ⟨e, es⟩ := d
      obtain ⟨up, hk, hm, hok⟩ := ih h2 (show mutK cts es l K from hK)
      refine ⟨up, hk, hm, fun L ρ w' us B hs hg hL ho hc => ?_⟩
      obtain ⟨us', rfl, hc⟩ := hc
      cases ho with
      | cons _ ho => exact hok L ρ w' us' B hs hg hL ho hc
    ·cases hp
   ·cases hp
 | null hx ih =>
  rename_i l ds
  intro cts d0 d K hp hK
  cases cts with
  | nil => simp [parseC] at hp
  | cons c cts =>
   simp only [parseC] at hp
   split at hp
   ·rename_i d1 h1
    split at hp
    ·rename_i d2 h2
     cases c with
     | leaf t => simp [CT.get] at h1
     | row t =>
      obtain ⟨e, es⟩ := d
      obtain ⟨up, hk, hm, hok⟩ := ih h2 (show mutK cts es l K from hK)
      refine ⟨up, hk, hm, fun L ρ w' us B hs hg hL ho hc => ?_⟩
      obtain ⟨_, _, us', B', rfl, _, _, hc⟩ := hc
      cases ho with
      | cons _ ho => exact hok L ρ w' us' B' hs hg hL ho hc
    ·cases hp
   ·cases hp
 | row hf hl hx ih =>
  rename_i r x l ds
  intro cts d0 d K hp hK
  cases cts with
  | nil => simp [parseC] at hp
  | cons c cts =>
   simp only [parseC] at hp
   split at hp
   ·rename_i d1 h1
    split at hp
    ·rename_i d2 h2
     cases c with
     | leaf lt => simp [CT.get] at h1
     | row t =>
      obtain ⟨t', xs, own', q⟩ := x
      obtain ⟨rfl, hh⟩ := parseC_row (t := t) (t' := t') (xs := xs) (d := d1) h1
      obtain ⟨e, es⟩ := d
      obtain ⟨up, hk, hm, hok⟩ := ih h2 (show mutK cts es l (fun up => K ((r, ⟨t', e, true, none⟩) :: up)) from hK)
      refine ⟨_, hk, fun r' => ?_, fun L ρ w' us B hs hg hL ho hc => ?_⟩
      ·constructor
       ·rintro ⟨y, hy⟩
        rcases List.mem_cons.1 hy with hy | hy
        ·cases hy; exact List.mem_cons_self
        ·exact List.mem_cons_of_mem _ ((hm r').1 ⟨y, hy⟩)
       ·intro hr
        rcases List.mem_cons.1 hr with rfl | hr
        ·exact ⟨_, List.mem_cons_self⟩
        ·obtain ⟨y, hy⟩ := (hm r').2 hr
         exact ⟨y, List.mem_cons_of_mem _ hy⟩
      ·obtain ⟨a, c, us', B', rfl, how, _, hc⟩ := hc
       cases ho with
       | cons hv ho =>
        have hrest := hok L ρ w' us' B' hs hg (fun r hr => hL r (List.mem_cons_of_mem _ hr)) ho hc
        intro r' y hy
        rcases List.mem_cons.1 hy with hy | hy
        ·cases hy
         have hLr := (hL r List.mem_cons_self).trans hf
         have hv' := row_val hv hLr (hl hs hg)
         simp only [Value.slice.injEq] at hv'
         obtain ⟨e1, e2, e3⟩ := hv'
         refine ⟨rfl, rfl, ?_, _, hf, e2, rfl⟩
         rw [← e1, ← e3]
         exact how
        ·exact hrest r' y hy
    ·cases hp
   ·cases hp

theorem refK_out : ∀ {cts : List CT} {d : denC cts} {cs : List SC} {K : List SC → Prop}, refK cts d cs K →
  ∃ cs', K cs' ∧ ∀ (L : LS) (ρ : Val) (us us' : List Value), Oks L ρ cs us → RefV cts d us us' → Oks L ρ cs' us'
 | [], d, cs, K, h => ⟨[], h, fun L ρ us us' _ hr => by rw [hr.2]; exact .nil⟩
 | .leaf l :: cts, (d, ds), [], K, h => h.elim
 | .row t :: cts, (d, ds), [], K, h => h.elim
 | .leaf l :: cts, (d, ds), x :: cs, K, h => by
  obtain ⟨cs', hK, ho⟩ := refK_out (cts := cts) (d := ds) (cs := cs) h
  refine ⟨_, hK, fun L ρ us us' hu hr => ?_⟩
  obtain ⟨u, r, r', rfl, rfl, hr⟩ := hr
  cases hu with
  | cons _ hu => exact .cons rfl (ho L ρ _ _ hu hr)
 | .row t :: cts, (d, ds), x :: cs, K, h => by
  obtain ⟨cs', hK, ho⟩ := refK_out (cts := cts) (d := ds) (cs := cs) h
  refine ⟨_, hK, fun L ρ us us' hu hr => ?_⟩
  obtain ⟨u, r, r', rfl, rfl, hr⟩ := hr
  cases hu with
  | cons h0 hu => exact .cons h0 (ho L ρ _ _ hu hr)

theorem updsK_out : ∀ {ts : List ATy} {ms : List Mode} {d0 d : denA ts} {xs : List SA} {R kl mt rf : List Nat} {K : List (Nat × Row) → List (Nat × List SC) → Prop}, InR bs rs g A ts ms d0 xs R kl mt rf → updsK bs ts ms d xs K →
  ∃ up sb, K up sb ∧ (∀ r, (∃ y, (r, y) ∈ up) ↔ r ∈ mt) ∧ ((∀ k, (∃ cs, (k, cs) ∈ sb) → k ∈ rf) ∧ ∀ k ∈ rf, (∃ cs, (k, cs) ∈ sb) ∨ ∃ j : Nat, ms[j]? = some Mode.giv ∧ xs[j]? = some (SA.c (.ptr k 0))) ∧
   ∀ (L : LS) (ρ : Val) (w w' : World) (vs : List Value), Sd A → GT g → (∀ r ∈ mt, L.r r = find rs r) → (∀ k ∈ rf, L.b k = find bs k) → (∀ k b, L.b k = some b → BlkOk w L ρ (ρ.bl k) b) → OkAs L ρ xs vs → Back E w w' ts ms d vs →
    (∀ r y, (r, y) ∈ up → UpOk E rs ρ w' r y) ∧ (∀ k cs, (k, cs) ∈ sb → ∃ ty cs0 us', L.b k = some ⟨ty, cs0⟩ ∧ w'.heap[ρ.bl k]? = some (.cells us' ty (0, 0)) ∧ Oks L ρ cs us'.toList)
 | [], [], d0, d, xs, R, kl, mt, rf, K, ⟨h1, h2, h3, h4, h5⟩, h => by
  subst h1 h2 h3 h4 h5
  exact ⟨[], [], h, fun r => by simp, ⟨fun k => by simp, fun k hk => by simp at hk⟩, fun _ _ _ _ _ _ _ _ _ _ _ _ => ⟨fun r y hy => (by cases hy), fun k cs hk => (by cases hk)⟩⟩
 | t :: ts, .ro :: ms, (d0, ds0), (d, ds), xs, R, kl, mt, rf, K, ⟨x, xs', l, ps, h1, h2, h3, h4, R', h5, h6⟩, h => by
  subst h1 h5
  obtain ⟨up, sb, hK, hm, hf, ho⟩ := updsK_out h6 (show updsK bs ts ms ds xs' K from h)
  refine ⟨up, sb, hK, hm, ⟨hf.1, fun k hk => (hf.2 k hk).imp id fun ⟨j, a, b⟩ => ⟨j + 1, by simpa using a, by simpa using b⟩⟩, fun L ρ w w' vs a1 a2 a3 a4 a5 a6 a7 => ?_⟩
  cases a6 with
  | cons _ a6 =>
   obtain ⟨v, vs', e, hb, _⟩ := a7
   cases e
   exact ho L ρ w w' _ a1 a2 a3 a4 a5 a6 hb
 | t :: ts, .own :: ms, (d0, ds0), (d, ds), xs, R, kl, mt, rf, K, ⟨x, xs', l, ps, h1, h2, h3, h4, R', h5, h6⟩, h => by
  subst h1 h5
  obtain ⟨up, sb, hK, hm, hf, ho⟩ := updsK_out h6 (show updsK bs ts ms ds xs' K from h)
  refine ⟨up, sb, hK, hm, ⟨hf.1, fun k hk => (hf.2 k hk).imp id fun ⟨j, a, b⟩ => ⟨j + 1, by simpa using a, by simpa using b⟩⟩, fun L ρ w w' vs a1 a2 a3 a4 a5 a6 a7 => ?_⟩
  cases a6 with
  | cons _ a6 =>
   obtain ⟨v, vs', e, hb, _⟩ := a7
   cases e
   exact ho L ρ w w' _ a1 a2 a3 a4 a5 a6 hb
 | t :: ts, .mut :: ms, (d0, ds0), (d, ds), xs, R, kl, mt, rf, K, ⟨x, xs', l, ps, h1, h2, h3, h4, R', h5, h6⟩, h => by
  subst h1 h5
  simp only [updsK] at h
  obtain ⟨l', h, hs'⟩ := shapeK_out h
  have hl : l' = l := by
   revert h4 hs'
   unfold shapeS
   split
   ·intro e1 e2; rw [e1] at e2; cases e2; rfl
   ·rintro ⟨c, e1, rfl⟩ ⟨c', e2, rfl⟩
    rw [e1] at e2; cases e2; rfl
  subst hl
  obtain ⟨u1, h, hm1, ho1⟩ := mutK_out (E := E) (K := fun _ => True) h2 h3 h
  obtain ⟨up, sb, hK, hm, hf, ho⟩ := updsK_out h6 h
  have hK := appK_out hK
  refine ⟨_, sb, hK, fun r => ?_, ⟨hf.1, fun k hk => (hf.2 k hk).imp id fun ⟨j, a, b⟩ => ⟨j + 1, by simpa using a, by simpa using b⟩⟩, fun L ρ w w' vs a1 a2 a3 a4 a5 a6 a7 => ?_⟩
  ·rw [List.mem_append, ← hm1 r, ← hm r]
   constructor
   ·rintro ⟨y, hy⟩
    rcases List.mem_append.1 hy with hy | hy
    ·exact .inl ⟨y, hy⟩
    ·exact .inr ⟨y, hy⟩
   ·rintro (⟨y, hy⟩ | ⟨y, hy⟩)
    ·exact ⟨y, List.mem_append_left _ hy⟩
    ·exact ⟨y, List.mem_append_right _ hy⟩
  ·cases a6 with
   | cons hv a6 =>
    obtain ⟨v, vs', e, hb, us, B, hsv, hc⟩ := a7
    cases e
    obtain ⟨r1, r2⟩ := ho L ρ w w' _ a1 a2 (fun r hr => a3 r (List.mem_append_right _ hr)) a4 a5 a6 hb
    obtain ⟨us2, hu, hok⟩ := shapeS_ok h4 hv
    have hus : us2 = us := by
     revert hu hsv
     unfold shapeV
     split
     ·intro e1 e2
      rw [e1] at e2
      injection e2 with e2
      have := congrArg Array.toList e2
      simpa using this.symm
     ·intro e1 e2; rw [e1, e2]
    subst hus
    refine ⟨fun r y hy => ?_, r2⟩
    rcases List.mem_append.1 hy with hy | hy
    ·exact ho1 L ρ w' us2 B a1 a2 (fun r hr => a3 r (List.mem_append_left _ hr)) hok hc r y hy
    ·exact r1 r y hy
 | t :: ts, .ref :: ms, (d0, ds0), (d, ds), xs, R, kl, mt, rf, K, ⟨x, xs', l, ps, h1, h2, h3, k, ty, R', rf', h4, h5, h6, h7, h8⟩, h => by
  subst h1 h4 h6 h7
  simp only [updsK] at h
  obtain ⟨b, hbf, h⟩ := lookK_out h
  rw [h5] at hbf
  obtain rfl := Option.some.inj hbf
  obtain ⟨cs', h, ho1⟩ := refK_out h
  obtain ⟨up, sb, hK, hm, hf, ho⟩ := updsK_out h8 h
  refine ⟨up, _, hK, hm, ⟨?_, ?_⟩, fun L ρ w w' vs a1 a2 a3 a4 a5 a6 a7 => ?_⟩
  ·rintro j ⟨cs, hc⟩
   rcases List.mem_cons.1 hc with hc | hc
   ·cases hc; exact List.mem_cons_self
   ·exact List.mem_cons_of_mem _ (hf.1 j ⟨cs, hc⟩)
  ·intro j hj
   rcases List.mem_cons.1 hj with rfl | hj
   ·exact .inl ⟨_, List.mem_cons_self⟩
   ·rcases hf.2 j hj with ⟨cs, hc⟩ | ⟨q, a, b⟩
    ·exact .inl ⟨cs, List.mem_cons_of_mem _ hc⟩
    ·exact .inr ⟨q + 1, by simpa using a, by simpa using b⟩
  ·cases a6 with
   | cons hv a6 =>
    obtain ⟨v, vs', e, hb, g', us, us', ty', hp, hh, hh', hr⟩ := a7
    cases e
    obtain ⟨r1, r2⟩ := ho L ρ w w' _ a1 a2 a3 (fun k hk => a4 k (List.mem_cons_of_mem _ hk)) a5 a6 hb
    refine ⟨r1, fun j cs hj => ?_⟩
    rcases List.mem_cons.1 hj with hj | hj
    ·cases hj
     obtain ⟨_, hv⟩ := hv
     rw [hp] at hv
     have hg' : g' = ρ.bl k := by injection hv with hv; injection hv with hv; injection hv
     subst hg'
     have hLb := (a4 k List.mem_cons_self).trans h5
     obtain ⟨us0, hh0, hok⟩ := a5 k _ hLb
     rw [hh] at hh0
     have e1 := Option.some.inj hh0
     injection e1 with e1 e2 e3
     refine ⟨ty, l, us'.toArray, hLb, ?_, ?_⟩
     ·rw [hh', e2]
     ·have := ho1 L ρ us us' (by rw [← e1] at hok; simpa using hok) hr
      simpa using this
    ·exact r2 j cs hj
 | t :: ts, .giv :: ms, (d0, ds0), (d, ds), xs, R, kl, mt, rf, K, ⟨x, xs', l, ps, h1, h2, h3, k, ty, kl', rf', h4, h5, h6, h7, h8⟩, h => by
  subst h1 h4 h6 h7
  obtain ⟨up, sb, hK, hm, hf, ho⟩ := updsK_out h8 (show updsK bs ts ms ds xs' K from h)
  refine ⟨up, sb, hK, hm, ⟨fun j hj => List.mem_cons_of_mem _ (hf.1 j hj), fun j hj => ?_⟩, fun L ρ w w' vs a1 a2 a3 a4 a5 a6 a7 => ?_⟩
  ·rcases List.mem_cons.1 hj with rfl | hj
   ·exact .inr ⟨0, rfl, rfl⟩
   ·exact (hf.2 j hj).imp id fun ⟨q, a, b⟩ => ⟨q + 1, by simpa using a, by simpa using b⟩
  ·cases a6 with
   | cons _ a6 =>
    obtain ⟨v, vs', e, hb, _⟩ := a7
    cases e
    exact ho L ρ w w' _ a1 a2 a3 (fun k hk => a4 k (List.mem_cons_of_mem _ hk)) a5 a6 hb
 | [], _ :: _, d0, d, xs, R, kl, mt, rf, K, h, _ => h.elim
 | _ :: _, [], d0, d, xs, R, kl, mt, rf, K, h, _ => h.elim
end
end Go.Eng

namespace Go.Eng
open Go.RowKit

theorem quietK_out {g : Option Bool} {l : List Nat} {K : Prop} (h : quietK g l K) : K ∧ ∀ p, g = some p → l = [] := by
 unfold quietK at h
 split at h
 ·exact ⟨h, fun p hp => by cases hp⟩
 ·exact ⟨h, fun p hp => rfl⟩
 ·exact h.elim

theorem partG_live {p : Bool} {g : Option Bool} (h : GT g) : ∀ q, partG p g = some q → q = true := fun q hq => by
 cases p with
 | false => exact h q hq
 | true => cases g with
  | none => cases hq; rfl
  | some _ => exact h q hq

theorem rowAs_ok {E : Env} {w : World} {p : Bool} {g : Option Bool} {x : Row} {a : Option Addr} {c : Nat} (ho : x.own = true) (hg : x.g = partG p g) (h : rowAs E w (!p) x a c) : RowOk E w a c x := by
 cases p with
 | false => exact OwnR.ok h ho
 | true =>
  obtain ⟨t, xs, own, q⟩ := x
  cases ho
  intro _
  cases q with
  | none => cases g <;> cases hg
  | some q => exact h

theorem as_ok {E : Env} {w : World} {x : Row} {a : Option Addr} {c : Nat} (h : rowAs E w x.own x a c) : RowOk E w a c x := by
 obtain ⟨t, xs, own, q⟩ := x
 cases own with
 | true => exact OwnR.ok h rfl
 | false => exact fun _ => h

theorem ownPK_out {part : Bool} {rs : List (Nat × Option Row)} : ∀ {l : List Nat} {K : Prop}, ownPK part rs l K → K ∧ ∀ r ∈ l, ∃ t xs q, find rs r = some (some ⟨t, xs, true, q⟩) ∧ (part = false → q = none)
 | [], K, h => ⟨h, fun r hr => by cases hr⟩
 | r :: l, K, h => by
  obtain ⟨x, hf, h1⟩ := lookK_out h
  split at h1
  ·obtain ⟨hK, hl⟩ := ownPK_out h1
   refine ⟨hK, fun r' hr => ?_⟩
   rcases List.mem_cons.1 hr with rfl | hr
   ·exact ⟨_, _, _, hf, fun _ => rfl⟩
   ·exact hl r' hr
  ·split at h1
   ·obtain ⟨hK, hl⟩ := ownPK_out h1
    refine ⟨hK, fun r' hr => ?_⟩
    rcases List.mem_cons.1 hr with rfl | hr
    ·exact ⟨_, _, _, hf, fun h => by cases h⟩
    ·exact hl r' hr
   ·exact h1.elim
  ·exact h1.elim

theorem ownK_out {rs : List (Nat × Option Row)} : ∀ {l : List Nat} {K : Prop}, ownK rs l K → K ∧ ∀ r ∈ l, ∃ t xs, find rs r = some (some ⟨t, xs, true, none⟩)
 | [], K, h => ⟨h, fun r hr => by cases hr⟩
 | r :: l, K, h => by
  obtain ⟨x, hf, h1⟩ := lookK_out h
  split at h1
  ·obtain ⟨hK, hl⟩ := ownK_out h1
   refine ⟨hK, fun r' hr => ?_⟩
   rcases List.mem_cons.1 hr with rfl | hr
   ·exact ⟨_, _, hf⟩
   ·exact hl r' hr
  ·exact h1.elim

theorem resSV_out {g : Option Bool} {ys : List SA} {K : SV → Prop} (h : resSV g ys K) : ∃ v, K v ∧ (∀ p, g = some p → ∃ x, v = .grd p x) ∧
  ∀ (L : LS) (ρ : Val) (us : List Value) (u : Value), GT g → OkAs L ρ ys us → resV us u → SV.ok L ρ v u := by
 unfold resSV at h
 split at h
 ·refine ⟨_, h, fun p hp => (by cases hp), fun L ρ us u _ ho hr => ?_⟩
  cases ho with
  | cons h0 h1 => cases h1; cases hr; exact h0
 ·rename_i x p
  refine ⟨_, h, fun p hp => (by cases hp; exact ⟨_, rfl⟩), fun L ρ us u hg ho hr => ?_⟩
  cases ho with
  | cons h0 h1 =>
   cases h1; cases hr
   refine ⟨fun _ => h0, fun hf => ?_⟩
   have := hg p rfl
   rw [hf] at this
   cases this
 ·rename_i hne
  refine ⟨_, h, fun p hp => (by cases hp), fun L ρ us u _ ho hr => ?_⟩
  refine ⟨us, ?_, ho⟩
  unfold resV at hr
  split at hr
  ·cases ho with
   | cons h0 h1 => cases h1; exact (hne _ rfl).elim
  ·exact hr
 ·exact h.elim

theorem outR_g {g : Option Bool} : ∀ {cts : List CT} {b : Nat} {d : denC cts} {r : Nat} {x : Row}, (r, x) ∈ outR g b cts d → x.g = g ∧ x.own = true
 | [], b, d, r, x, h => by cases h
 | .leaf l :: cts, b, (d, ds), r, x, h => outR_g (cts := cts) (b := b + 1) (d := ds) h
 | .row t :: cts, b, (d, ds), r, x, h => by
  rcases List.mem_cons.1 h with h | h
  ·cases h; exact ⟨rfl, rfl⟩
  ·exact outR_g (cts := cts) (b := b + 1) (d := ds) h

theorem outsR_g {g : Option Bool} : ∀ {ts : List ATy} {b : Nat} {d : denA ts} {r : Nat} {x : Row}, (r, x) ∈ outsR g b ts d → x.g = g ∧ x.own = true
 | [], b, d, r, x, h => by cases h
 | t :: ts, b, (d, ds), r, x, h => by
  rcases List.mem_append.1 h with h | h
  ·exact outR_g h
  ·exact outsR_g h

theorem PDs.live {rs : List (Nat × Option Row)} {g : Option Bool} {A : Sides} {l : List SC} {ds : List PD} (h : PDs rs g A l ds) : ∀ r ∈ rowNames l, ∃ x, find rs r = some (some x) ∧ (Sd A → GT g → x.live) := by
 induction h with
 | nil => intro r hr; cases hr
 | leaf _ ih => exact ih
 | null _ ih => exact ih
 | row h1 h2 _ ih =>
  intro r hr
  rcases List.mem_cons.1 hr with rfl | hr
  ·exact ⟨_, h1, h2⟩
  ·exact ih r hr

theorem InR.live {bs : List (Nat × Blk)} {rs : List (Nat × Option Row)} {g : Option Bool} {A : Sides} : ∀ {ts : List ATy} {ms : List Mode} {d : denA ts} {xs : List SA} {R kl mt rf : List Nat},
  InR bs rs g A ts ms d xs R kl mt rf → (∀ r ∈ R, ∃ x, find rs r = some (some x) ∧ (Sd A → GT g → x.live)) ∧ ∀ k ∈ rf, ∃ b, find bs k = some b
 | [], [], d, xs, R, kl, mt, rf, ⟨h1, h2, h3, h4, h5⟩ => by subst h2 h5; exact ⟨fun r hr => (by cases hr), fun r hr => (by cases hr)⟩
 | t :: ts, .ro :: ms, (d, ds), xs, R, kl, mt, rf, ⟨x, xs', l, ps, h1, h2, h3, h4, R', h5, h6⟩ => by
  subst h5
  obtain ⟨i1, i2⟩ := InR.live h6
  refine ⟨fun r hr => ?_, i2⟩
  rcases List.mem_append.1 hr with hr | hr
  ·exact h2.live r hr
  ·exact i1 r hr
 | t :: ts, .own :: ms, (d, ds), xs, R, kl, mt, rf, ⟨x, xs', l, ps, h1, h2, h3, h4, R', h5, h6⟩ => InR.live h6
 | t :: ts, .mut :: ms, (d, ds), xs, R, kl, mt, rf, ⟨x, xs', l, ps, h1, h2, h3, h4, R', h5, h6⟩ => InR.live h6
 | t :: ts, .giv :: ms, (d, ds), xs, R, kl, mt, rf, ⟨x, xs', l, ps, h1, h2, h3, k, ty, kl', rf', h4, h5, h6, h7, h8⟩ => by
  subst h6 h7
  obtain ⟨i1, i2⟩ := InR.live h8
  refine ⟨i1, fun k' hk => ?_⟩
  rcases List.mem_cons.1 hk with rfl | hk
  ·exact ⟨_, h5⟩
  ·exact i2 k' hk
 | t :: ts, .ref :: ms, (d, ds), xs, R, kl, mt, rf, ⟨x, xs', l, ps, h1, h2, h3, k, ty, R', rf', h4, h5, h6, h7, h8⟩ => by
  subst h6 h7
  obtain ⟨i1, i2⟩ := InR.live h8
  refine ⟨fun r hr => ?_, fun k' hk => ?_⟩
  ·rcases List.mem_append.1 hr with hr | hr
   ·exact h2.live r hr
   ·exact i1 r hr
  ·rcases List.mem_cons.1 hk with rfl | hk
   ·exact ⟨_, h5⟩
   ·exact i2 k' hk
 | [], _ :: _, d, xs, R, kl, mt, rf, h => h.elim
 | _ :: _, [], d, xs, R, kl, mt, rf, h => h.elim

theorem noGiv_at : ∀ {ms : List Mode}, noGiv ms = true → ∀ j : Nat, ms[j]? ≠ some Mode.giv
 | [], _, j => by simp
 | m :: ms, h, j => by
  cases m with
  | giv => cases h
  | _ =>
   cases j with
   | zero => simp
   | succ j => simpa using noGiv_at (ms := ms) h j

theorem InR.quiet {bs : List (Nat × Blk)} {rs : List (Nat × Option Row)} {g : Option Bool} {A : Sides} : ∀ {ts : List ATy} {ms : List Mode} {d : denA ts} {xs : List SA} {R kl mt rf : List Nat},
  InR bs rs g A ts ms d xs R kl mt rf → roModes ms = true → kl = [] ∧ mt = [] ∧ rf = []
 | [], [], d, xs, R, kl, mt, rf, ⟨h1, h2, h3, h4, h5⟩, _ => ⟨h3, h4, h5⟩
 | t :: ts, .ro :: ms, (d, ds), xs, R, kl, mt, rf, ⟨x, xs', l, ps, h1, h2, h3, h4, R', h5, h6⟩, h => InR.quiet h6 h
 | t :: ts, .own :: ms, (d, ds), xs, R, kl, mt, rf, _, h => by cases h
 | t :: ts, .mut :: ms, (d, ds), xs, R, kl, mt, rf, _, h => by cases h
 | t :: ts, .ref :: ms, (d, ds), xs, R, kl, mt, rf, _, h => by cases h
 | t :: ts, .giv :: ms, (d, ds), xs, R, kl, mt, rf, _, h => by cases h
 | [], _ :: _, d, xs, R, kl, mt, rf, h, _ => h.elim
 | _ :: _, [], d, xs, R, kl, mt, rf, h, _ => h.elim

theorem InR.giv0 {bs : List (Nat × Blk)} {rs : List (Nat × Option Row)} {g : Option Bool} {A : Sides} : ∀ {ts : List ATy} {ms : List Mode} {d : denA ts} {xs : List SA} {R kl mt rf : List Nat} {ms' : List Mode} {k : Nat} {xs' : List SA},
  InR bs rs g A ts ms d xs R kl mt rf → ms = .giv :: ms' → xs = .c (.ptr k 0) :: xs' → k ∈ rf ∧ ∃ ty l, find bs k = some ⟨ty, l⟩
 | t :: ts, .giv :: ms, (d, ds), xs, R, kl, mt, rf, ms', k, xs', ⟨x, xs1, l, ps, h1, h2, h3, k1, ty, kl', rf', h4, h5, h6, h7, h8⟩, _, e => by
  subst h4 h7
  rw [h1] at e
  cases e
  exact ⟨List.mem_cons_self, ty, l, h5⟩
 | [], _, d, xs, R, kl, mt, rf, ms', k, xs', h, e, _ => by subst e; exact h.elim

theorem okAs_head {L : LS} {ρ : Val} {x : SA} {xs : List SA} {vals : List Value} (h : OkAs L ρ (x :: xs) vals) : ∃ v, vals.head? = some v ∧ SA.ok L ρ x v := by
 cases h with
 | cons h0 h1 => exact ⟨_, rfl, h0⟩

inductive ViaOut (v : Via) (ms : List Mode) (part : Bool) (g : Option Bool) (d : Nat) (xs ys : List SA) (nr : List (Nat × Row)) (sb : List (Nat × List SC)) : SV → Option Blk → List (Nat × List SC) → Prop where
 | ret {V : SV} : v = .ret → noGiv ms = true → (∀ p, g = some p → ∃ x, V = .grd p x) → (∀ (L : LS) (ρ : Val) (us : List Value) (u : Value), GT g → OkAs L ρ ys us → resV us u → SV.ok L ρ V u) → ViaOut v ms part g d xs ys nr sb V none sb
 | into {ms' : List Mode} {k : Nat} {xs' : List SA} {cs : List SC} : v = .into → ms = .giv :: ms' → xs = .c (.ptr k 0) :: xs' → ys = [.agg cs] → g = none → part = false → noGiv ms' = true → ViaOut v ms part g d xs ys nr sb (.tup []) none ((k, cs) :: sb)
 | new {t : TypeId} {x : SC} {xs' : List SA} {cs : List SC} : v = .new t → roModes ms = true → xs = .c x :: xs' → ys = [.agg cs] → g = none → nr = [] → ViaOut v ms part g d xs ys nr sb (.a (.c (.ptr d 0))) (some ⟨t, x :: cs⟩) sb

theorem viaK_out {v : Via} {ms : List Mode} {part : Bool} {g : Option Bool} {d : Nat} {xs ys : List SA} {nr : List (Nat × Row)} {sb : List (Nat × List SC)} {K : SV → Option Blk → List (Nat × List SC) → Prop}
  (h : viaK v ms part g d xs ys nr sb K) : ∃ V nb sb', K V nb sb' ∧ ViaOut v ms part g d xs ys nr sb V nb sb' := by
 unfold viaK at h
 split at h
 ·split at h
  ·rename_i hn
   obtain ⟨V, hK, h1, h2⟩ := resSV_out h
   exact ⟨V, none, sb, hK, .ret rfl hn h1 h2⟩
  ·exact h.elim
 ·split at h
  ·split at h
   ·rename_i hn
    exact ⟨_, _, _, h, .into rfl rfl rfl rfl rfl rfl hn⟩
   ·exact h.elim
  ·exact h.elim
 ·split at h
  ·rename_i hn
   exact ⟨_, _, _, h, .new rfl hn rfl rfl rfl rfl⟩
  ·exact h.elim

theorem nodup_filterMap {α : Type} {f : α → Option Nat} : ∀ {l : List α}, l.Nodup → (∀ x ∈ l, ∀ y ∈ l, x ≠ y → ∀ g, f x = some g → f y ≠ some g) → (l.filterMap f).Nodup
 | [], _, _ => List.nodup_nil
 | x :: l, hn, hi => by
  rw [List.nodup_cons] at hn
  have ih := nodup_filterMap hn.2 fun y hy z hz => hi y (List.mem_cons_of_mem _ hy) z (List.mem_cons_of_mem _ hz)
  rw [List.filterMap_cons]
  cases hx : f x with
  | none => exact ih
  | some g =>
   refine List.nodup_cons.2 ⟨fun hm => ?_, ih⟩
   obtain ⟨y, hy, hyg⟩ := List.mem_filterMap.1 hm
   exact hi x List.mem_cons_self y (List.mem_cons_of_mem _ hy) (fun e => hn.1 (e ▸ hy)) g hx hyg

theorem nodup_map {α β : Type} {f : α → β} : ∀ {l : List α}, l.Nodup → (∀ x y, f x = f y → x = y) → (l.map f).Nodup
 | [], _, _ => List.nodup_nil
 | x :: l, hn, hi => by
  rw [List.nodup_cons] at hn
  refine List.nodup_cons.2 ⟨fun hm => ?_, nodup_map hn.2 hi⟩
  obtain ⟨y, hy, e⟩ := List.mem_map.1 hm
  exact hn.1 (hi _ _ e ▸ hy)

theorem find_some_of_mem {α : Type} : ∀ {l : List (Nat × α)} {r : Nat} {x : α}, (r, x) ∈ l → ∃ z, find l r = some z
 | (k, y) :: l, r, x, h => by
  by_cases e : k = r
  ·exact ⟨y, by simp [find, e]⟩
  ·rcases List.mem_cons.1 h with h | h
   ·cases h; exact (e rfl).elim
   ·obtain ⟨z, hz⟩ := find_some_of_mem h
    exact ⟨z, by simp [find, e, hz]⟩

def sliceAt (US : List Value) (j : Nat) : Option Addr × Nat :=
 match US[j]? with
 | some (.slice a _ c) => (a, c)
 | _ => (none, 0)

theorem run_call {P : Program} {w : World} {o : Oper} {c : Call} {f : Nat} {fn : Func} (ho : o.op = .call c) (hc : c.callee = .value (.func f)) (hf : P.funcs[f]? = some fn) (hn : (fn.name == "runtime.NumGoroutine") = false) (hb : fn.body.isSome = true) (a : Act) :
  (execOp a.eval o).run P w = .ok (.enter f (c.args.map a.eval)) w := by
 have hb' : fn.body.isNone = false := by cases h : fn.body <;> simp_all
 have e : a.eval (.func f) = .func (.func f) #[] #[] := rfl
 simp only [execOp, ho, resolve, hc, e, Deferred.ofValue, Sem.run_bind, Sem.run_pure, Result.andThen_ok, invoke, callFunc]
 rw [show (program : Sem Program).run P w = .ok P w from rfl]
 simp only [Result.andThen_ok, hf, hn, hb', Bool.false_eq_true, if_false, Sem.run_pure]
 simp

section
variable {E : Env} {vs : List SV} {bs : List (Nat × Blk)} {rs : List (Nat × Option Row)} {o : Oper} {g : Option Bool} {A : Sides}

theorem eff_callK {Γ : List (Nat × Ctr)} (hΓ : ∀ f c, find Γ f = some c → c.holds E f) {c : Call} {f : Nat} (ho : o.op = .call c) (hc : c.callee = .value (.func f)) {K : Eff → Sides → Prop} {A1 : Sides} {xs : List SA} {d : Nat} (hd : o.dst = some d) (s1 : ∀ p ∈ A, p ∈ A1) (a1 : ArgsR vs g A1 c.args.toList xs)
  (h1 : callK Γ f bs rs g A1 d xs K) : ∃ e A', K e A' ∧ (∀ p ∈ A, p ∈ A') ∧ EffOk E vs bs rs o g A' e := by
  unfold callK at h1
  obtain ⟨ct, hct, h1⟩ := lookK_out h1
  have hh := hΓ f ct hct
  obtain ⟨x0, A2, Rn, kn, mn, fn, R2, kl2, mt2, rf2, h1, s2, hi, p1, p2, p3, p4⟩ := insMK_out h1
  obtain ⟨h1, q1⟩ := quietK_out h1
  obtain ⟨h1, q2⟩ := quietK_out h1
  obtain ⟨h1, q3⟩ := quietK_out h1
  have h1 := appK_out h1
  split at h1
  ·rename_i n1 n2 n3
   have n1 := nodupB_out n1
   have n2 := disjB_out n2
   have n3 := nodupB_out n3
   obtain ⟨h1, hown⟩ := ownK_out h1
   have h1 := h1 _ rfl
   have h1 := outsK_out h1
   obtain ⟨up, sb, h1, hm, hk, hupd⟩ := updsK_out (E := E) hi h1
   obtain ⟨V, nb, sb', h1, hvo⟩ := viaK_out h1
   have h1 := appK_out h1
   rw [List.append_nil] at p1 p2 p3 p4
   have pm : (kl2 ++ mt2).Perm (kn ++ mn) := p2.append p3
   have n1' : (kn ++ mn).Nodup := pm.nodup_iff.1 n1
   have n3' : fn.Nodup := p4.nodup_iff.1 n3
   have hsbq : ∀ p, g = some p → sb = [] := fun p hp => by
    cases sb with
    | nil => rfl
    | cons y sb =>
     have : y.1 ∈ fn := hk.1 y.1 ⟨y.2, List.mem_cons_self⟩
     have := p4.mem_iff.2 this
     rw [q3 p hp] at this
     cases this
   refine ⟨_, _, h1, fun p hp => side_mem (s2 p (s1 p hp)), ⟨fun p hp _ => ⟨?_, q1 p hp, ?_, ?_, ?_, fun k x hx => ?_⟩, ?_⟩⟩
   ·cases hvo with
    | ret => rfl
    | into _ _ _ _ e => exact nomatch (e.symm.trans hp)
    | new _ _ _ _ e => exact nomatch (e.symm.trans hp)
   ·cases up with
    | nil => rfl
    | cons y up =>
     have : y.1 ∈ mn := (hm y.1).1 ⟨y.2, List.mem_cons_self⟩
     have := p3.mem_iff.2 this
     rw [q2 p hp] at this
     cases this
   ·cases hvo with
    | ret => exact hsbq p hp
    | into _ _ _ _ e => exact nomatch (e.symm.trans hp)
    | new _ _ _ _ e => exact nomatch (e.symm.trans hp)
   ·cases hvo with
    | ret _ _ hVq => exact hVq p hp
    | into _ _ _ _ e => exact nomatch (e.symm.trans hp)
    | new _ _ _ _ e => exact nomatch (e.symm.trans hp)
   ·rw [(outsR_g (mem_of_find hx)).1, hp]
    cases ct.part <;> rfl
   ·intro w0 C L ρ a w next Q hL hR hB hs hg hD hfr hnx
    have hpre : ct.pre x0 := side_out hs hg
    have hs2 : Sd A2 := hs.mono fun p hp => side_mem hp
    obtain ⟨fu, hfu, hfn, hfb⟩ := hh.fn
    have hok := (a1.mono s2).ok (L := L) (ρ := ρ) (a := a) hD.size (fun t ht => hL t (by simpa [ho, Op.operands, Call.operands] using .inr (by simpa using ht))) hD.slots hs2 hg
    have hRn : ∀ r ∈ Rn, L.r r = find rs r := fun r hr => hR r (List.mem_append_right _ (p1.mem_iff.2 hr))
    have hKM : ∀ r ∈ kn ++ mn, L.r r = find rs r ∧ ∃ t ys, find rs r = some (some ⟨t, ys, true, none⟩) := fun r hr => ⟨hR r (List.mem_append_left _ (pm.mem_iff.2 hr)), hown r (pm.mem_iff.2 hr)⟩
    have hFn : ∀ k ∈ fn, L.b k = find bs k := fun k hk => hB k (p4.mem_iff.2 hk)
    have hRow : ∀ r ∈ kn ++ mn, L.own (.r r) := fun r hr => by
     obtain ⟨e1, t, ys, e2⟩ := hKM r hr
     exact ⟨_, e1.trans e2, rfl, Row.live_none⟩
    obtain ⟨l1, l2⟩ := hi.live
    have hBlk : ∀ k ∈ fn, L.own (.b k) := fun k hk => by
     obtain ⟨b, hb⟩ := l2 k hk
     exact ⟨b, (hFn k hk).trans hb⟩
    have hha := hi.ha hD.rows hD.blks hs2 hg hok hRn hKM hFn fun a ha => hh.eids a (.inl ha)
    have hX : kn.filterMap (bk ρ) ++ mn.filterMap (bk ρ) ++ fn.map ρ.bl = ((kn ++ mn).map Key.r ++ fn.map Key.b).filterMap ρ.at := by
     rw [List.filterMap_append, List.filterMap_map, List.filterMap_map, List.filterMap_append]
     congr 1
     exact (congrFun (List.filterMap_eq_map (f := ρ.bl)) fn).symm
    have hkeys : ∀ z ∈ (kn ++ mn).map Key.r ++ fn.map Key.b, L.own z := fun z hz => by
     rcases List.mem_append.1 hz with hz | hz
     ·obtain ⟨r, hr, rfl⟩ := List.mem_map.1 hz; exact hRow r hr
     ·obtain ⟨k, hk, rfl⟩ := List.mem_map.1 hz; exact hBlk k hk
    have hnd : (kn.filterMap (bk ρ) ++ mn.filterMap (bk ρ) ++ fn.map ρ.bl).Nodup := by
     rw [hX]
     refine nodup_filterMap (List.nodup_append.2 ⟨nodup_map n1' fun _ _ h => (by injection h), nodup_map n3' fun _ _ h => (by injection h), ?_⟩) fun y hy z hz hne g' hg1 hg2 => ?_
     ·intro y hy z hz e
      obtain ⟨r, _, rfl⟩ := List.mem_map.1 hy
      obtain ⟨k, _, rfl⟩ := List.mem_map.1 hz
      cases e
     ·exact hD.apart y z (hkeys y hy) (LS.own_has (hkeys z hz)) hne g' hg1 hg2
    have hdis : ∀ g' ∈ kn.filterMap (bk ρ) ++ mn.filterMap (bk ρ) ++ fn.map ρ.bl, g' ∉ Rn.filterMap (bk ρ) := by
     intro g' hg' hro
     rw [hX] at hg'
     obtain ⟨z, hz, hzg⟩ := List.mem_filterMap.1 hg'
     obtain ⟨r, hr, hrg⟩ := List.mem_filterMap.1 hro
     obtain ⟨y, hy, hyl⟩ := l1 r hr
     refine hD.apart z (.r r) (hkeys z hz) ⟨y, (hRn r hr).trans hy, hyl hs2 hg⟩ (fun e => ?_) g' hzg hrg
     subst e
     rcases List.mem_append.1 hz with hz | hz
     ·obtain ⟨r', hr', e⟩ := List.mem_map.1 hz
      cases e
      exact n2 r (pm.mem_iff.2 hr') (p1.mem_iff.2 hr)
     ·obtain ⟨k, _, e⟩ := List.mem_map.1 hz
      cases e
    have hcall := hh.call x0 w _ _ _ _ _ hpre hha hnd hdis
    unfold Oper.wp
    rw [run_call ho hc hfu hfn hfb, Oper.upon_enter]
    have earr : (c.args.toList.map a.eval).toArray = c.args.map a.eval := by apply Array.ext'; simp
    rw [earr] at hcall
    refine hcall.mono fun e w' he => ?_
    cases e with
    | panicked _ => exact he.elim
    | outgrown => exact he.elim
    | returned v =>
     obtain ⟨hkept, ⟨ys, US, B, hres, hos, hBn, hBo⟩, hback⟩ := he
     obtain ⟨u1, u2⟩ := hupd L ρ w w' _ hs2 hg (fun r hr => (hKM r (List.mem_append_right _ hr)).1) hFn hD.blks hok hback
     have hrow := fun r x => hos.rows (b := Nat.mul d 64) (g := partG ct.part g) r x
     have hlive : ∀ (x : Row), x.g = partG ct.part g → x.live := fun x hx q hq => partG_live hg q (by rw [← hx]; exact hq)
     have hadr : ∀ r x, find (outsR (partG ct.part g) (Nat.mul d 64) ct.outs (ct.model x0)) r = some x → ∃ j a c, r = Nat.mul d 64 + j ∧ US[j]? = some (.slice a x.xs.length c) ∧ sliceAt US (r - Nat.mul d 64) = (a, c) ∧ x.own = true ∧ x.live ∧ RowOk E w' a c x := fun r x hx => by
      obtain ⟨j, a, c, e1, e2, e3, e4, e5⟩ := hrow r x (mem_of_find hx)
      refine ⟨j, a, c, e1, e2, ?_, e4, hlive x e3, rowAs_ok e4 e3 e5⟩
      rw [e1, Nat.add_sub_cancel_left]
      simp [sliceAt, e2]
     have hat : ∀ (ρ1 : Val), (∀ r x, find (outsR (partG ct.part g) (Nat.mul d 64) ct.outs (ct.model x0)) r = some x → ρ1.ra r = (sliceAt US (r - Nat.mul d 64)).1 ∧ ρ1.rc r = (sliceAt US (r - Nat.mul d 64)).2) → Knows ρ1 (Nat.mul d 64) US := fun ρ1 h j a n c hj => by
      obtain ⟨y, hy⟩ := hos.isRow (b := Nat.mul d 64) (g := partG ct.part g) j a n c hj
      obtain ⟨k1, k2⟩ := h _ _ (find_of_mem outsR_keys.2 hy)
      rw [Nat.add_sub_cancel_left] at k1 k2
      rw [k1, k2]
      simp [sliceAt, hj]
     have hB0 := hos.blocks (g := partG ct.part g) (hat ⟨ρ.bl, fun r => (sliceAt US (r - Nat.mul d 64)).1, fun r => (sliceAt US (r - Nat.mul d 64)).2⟩ fun _ _ _ => ⟨rfl, rfl⟩)
     cases hvo with
     | ret hvia hng hVq hV =>
      obtain ⟨ρ', hD'⟩ := hD.call (d := o.dst) (nr := outsR (partG ct.part g) (Nat.mul d 64) ct.outs (ct.model x0)) (kl := kl2) (up := up) (sb := sb) (rd := (kl2 ++ mt2) ++ R2) (rf := rf2) (V := V) (v := v) (w' := w') (fun r => sliceAt US (r - Nat.mul d 64)) (kn.filterMap (bk ρ) ++ mn.filterMap (bk ρ) ++ fn.map ρ.bl)
       hfr.r (fun r hr => hRow r (List.mem_append_left _ (p2.mem_iff.1 hr)))
       (fun r y hy => by
        have hmem := mem_of_find hy
        have hrm : r ∈ mn := (hm r).1 ⟨y, hmem⟩
        obtain ⟨o1, o2, o3, z, o4, o5, o6⟩ := u1 r y hmem
        obtain ⟨e1, t, ys', e2⟩ := hKM r (List.mem_append_right _ hrm)
        rw [e2] at o4
        obtain rfl := Option.some.inj (Option.some.inj o4)
        refine ⟨fun hk => ?_, o1, o2, o3, _, e1.trans e2, rfl, Row.live_none, o5, o6⟩
        exact (List.nodup_append.1 n1).2.2 r hk r (p3.mem_iff.2 hrm) rfl)
       (fun k cs hk => by
        obtain ⟨ty, cs0, us', b1, b2, b3⟩ := u2 k cs (mem_of_find hk)
        exact ⟨ty, cs0, us', b1, b2, fun L' ρ' hle _ => b3.mono hle⟩)
       (fun g' hg' => by
        rcases List.mem_append.1 hg' with hg' | hg'
        ·rcases List.mem_append.1 hg' with hg' | hg'
         ·obtain ⟨r, hr, hb⟩ := List.mem_filterMap.1 hg'
          exact .inl ⟨r, p2.mem_iff.2 hr, hb⟩
         ·obtain ⟨r, hr, hb⟩ := List.mem_filterMap.1 hg'
          obtain ⟨y, hy⟩ := (hm r).2 hr
          obtain ⟨z, hz⟩ := find_some_of_mem hy
          exact .inr (.inl ⟨r, z, hz, hb⟩)
        ·obtain ⟨k, hk', hb⟩ := List.mem_map.1 hg'
         rcases hk.2 k hk' with hy | ⟨q, hq, _⟩
         ·obtain ⟨y, hy⟩ := hy
          obtain ⟨z, hz⟩ := find_some_of_mem hy
          exact .inr (.inr ⟨k, z, hz, hb⟩)
         ·exact (noGiv_at hng q hq).elim)
       hkept
       (fun r y hy => by
        obtain ⟨j, a', c', e1, e2, e3, e4, e5, e6⟩ := hadr r y hy
        simp only [e3]
        exact ⟨e4, e5, e6⟩)
       (fun r y g' hy hg' => by
        have hmem : g' ∈ B := by rw [hB0]; exact List.mem_filterMap.2 ⟨(r, y), mem_of_find hy, hg'⟩
        rcases hBo g' hmem with h | h
        ·exact .inl h
        ·obtain ⟨r', hr', hb⟩ := List.mem_filterMap.1 h
         exact .inr ⟨r', p2.mem_iff.2 hr', hb⟩)
       (fun r r' y y' hy hy' hne g' h1 h2 => by
        rw [hB0] at hBn
        exact filterMap_ne hBn (mem_of_find hy) (mem_of_find hy') (fun e => hne (congrArg Prod.fst e)) g' h1 h2)
       (fun L' ρ' _ hn => hV L' ρ' ys v hg (hos.oks (g := partG ct.part g) (fun r y hy => ⟨y, (hn r y (find_of_mem outsR_keys.2 hy)).1, rfl⟩) (hat ρ' fun r y hy => (hn r y hy).2)) (by rw [hvia] at hres; exact hres))
      exact hnx ρ' v w' hD'

     | @into ms0 k0 xs0 cs0 hvia hms hxs hysa hgn hpt hng =>
      obtain ⟨hk0, ty0, l0, hf0⟩ := hi.giv0 hms hxs
      have hL0 : L.b k0 = some ⟨ty0, l0⟩ := (hFn k0 hk0).trans hf0
      obtain ⟨v0, hav0, hv0⟩ := okAs_head (hxs ▸ hok)
      obtain ⟨_, hv0⟩ := hv0
      subst hv0
      obtain ⟨ρ', hD'⟩ := hD.call (d := o.dst) (nr := outsR (partG ct.part g) (Nat.mul d 64) ct.outs (ct.model x0)) (kl := kl2) (up := up) (sb := (k0, cs0) :: sb) (rd := (kl2 ++ mt2) ++ R2) (rf := rf2) (V := .tup []) (v := v) (w' := w') (fun r => sliceAt US (r - Nat.mul d 64)) (kn.filterMap (bk ρ) ++ mn.filterMap (bk ρ) ++ fn.map ρ.bl)
       hfr.r (fun r hr => hRow r (List.mem_append_left _ (p2.mem_iff.1 hr)))
       (fun r y hy => by
        have hmem := mem_of_find hy
        have hrm : r ∈ mn := (hm r).1 ⟨y, hmem⟩
        obtain ⟨o1, o2, o3, z, o4, o5, o6⟩ := u1 r y hmem
        obtain ⟨e1, t, ys', e2⟩ := hKM r (List.mem_append_right _ hrm)
        rw [e2] at o4
        obtain rfl := Option.some.inj (Option.some.inj o4)
        refine ⟨fun hk => ?_, o1, o2, o3, _, e1.trans e2, rfl, Row.live_none, o5, o6⟩
        exact (List.nodup_append.1 n1).2.2 r hk r (p3.mem_iff.2 hrm) rfl)
       (fun k cs hk => by
        by_cases ek : k0 = k
        ·subst ek
         have : cs0 = cs := by simpa [find] using hk
         subst this
         obtain ⟨us0, hh0, _⟩ := hD.blks k0 _ hL0
         rw [hvia] at hres
         obtain ⟨g1, us1, us2, ty1, _, hga, hw1, hw2, hys, _⟩ := hres
         have hg1 : g1 = ρ.bl k0 := by
          rw [hav0] at hga
          injection hga with hga
          injection hga with hga
          injection hga with hga
          injection hga with hga
          exact hga.symm
         rw [hg1, hh0] at hw1
         injection hw1 with hw1
         injection hw1 with _ hw1
         refine ⟨ty0, l0, us2, hL0, by rw [← hg1, hw2, ← hw1], fun L' ρ' hle hn => ?_⟩
         have hoks := hos.oks (L := L') (ρ := ρ') (g := partG ct.part g) (b := Nat.mul d 64) (fun r y hy => ⟨y, (hn r y (find_of_mem outsR_keys.2 hy)).1, rfl⟩) (hat ρ' fun r y hy => (hn r y hy).2)
         rw [hysa, hys] at hoks
         cases hoks with
         | cons h0 _ =>
          obtain ⟨us3, e3, o3⟩ := h0
          injection e3 with e3
          rw [e3]
          simpa using o3
        ·have hk' : find sb k = some cs := by simpa [find, ek] using hk
         obtain ⟨ty, cs1, us', b1, b2, b3⟩ := u2 k cs (mem_of_find hk')
         exact ⟨ty, cs1, us', b1, b2, fun L' ρ' hle _ => b3.mono hle⟩)
       (fun g' hg' => by
        rcases List.mem_append.1 hg' with hg' | hg'
        ·rcases List.mem_append.1 hg' with hg' | hg'
         ·obtain ⟨r, hr, hb⟩ := List.mem_filterMap.1 hg'
          exact .inl ⟨r, p2.mem_iff.2 hr, hb⟩
         ·obtain ⟨r, hr, hb⟩ := List.mem_filterMap.1 hg'
          obtain ⟨y, hy⟩ := (hm r).2 hr
          obtain ⟨z, hz⟩ := find_some_of_mem hy
          exact .inr (.inl ⟨r, z, hz, hb⟩)
        ·obtain ⟨k, hk', hb⟩ := List.mem_map.1 hg'
         by_cases ek : k0 = k
         ·exact .inr (.inr ⟨k, cs0, by simp [find, ek], hb⟩)
         ·rcases hk.2 k hk' with hy | ⟨q, hq, hxq⟩
          ·obtain ⟨y, hy⟩ := hy
           obtain ⟨z, hz⟩ := find_some_of_mem hy
           exact .inr (.inr ⟨k, z, by simp [find, ek, hz], hb⟩)
          ·rw [hms] at hq
           cases q with
           | zero =>
            rw [hxs] at hxq
            simp only [List.getElem?_cons_zero, Option.some.injEq, SA.c.injEq, SC.ptr.injEq] at hxq
            exact (ek hxq.1).elim
            | succ q => exact (noGiv_at hng q (by simpa using hq)).elim)
       hkept
       (fun r y hy => by
        obtain ⟨j, a', c', e1, e2, e3, e4, e5, e6⟩ := hadr r y hy
        simp only [e3]
        exact ⟨e4, e5, e6⟩)
       (fun r y g' hy hg' => by
        have hmem : g' ∈ B := by rw [hB0]; exact List.mem_filterMap.2 ⟨(r, y), mem_of_find hy, hg'⟩
        rcases hBo g' hmem with h | h
        ·exact .inl h
        ·obtain ⟨r', hr', hb⟩ := List.mem_filterMap.1 h
         exact .inr ⟨r', p2.mem_iff.2 hr', hb⟩)
       (fun r r' y y' hy hy' hne g' h1 h2 => by
        rw [hB0] at hBn
        exact filterMap_ne hBn (mem_of_find hy) (mem_of_find hy') (fun e => hne (congrArg Prod.fst e)) g' h1 h2)
       (fun L' ρ' _ hn => by
        rw [hvia] at hres
        obtain ⟨_, _, _, _, _, _, _, _, _, hv⟩ := hres
        exact ⟨[], hv, .nil⟩)
      exact hnx ρ' v w' hD'

     | @new t0 sc0 xs0 cs0 hvia hro hxs hysa hgn hnr0 =>
      obtain ⟨e1, e2, e3⟩ := hi.quiet hro
      subst e1 e2 e3
      have e1 := p2.eq_nil
      have e2 := p3.eq_nil
      have e3 := p4.eq_nil
      have e4 : up = [] := by
       cases up with
       | nil => rfl
       | cons y up => exact absurd ((hm y.1).1 ⟨y.2, List.mem_cons_self⟩) (by simp)
      have e5 : sb = [] := by
       cases sb with
       | nil => rfl
       | cons y up => exact absurd (hk.1 y.1 ⟨y.2, List.mem_cons_self⟩) (by simp)
      subst e1 e2 e3 e4 e5
      rw [hvia] at hres
      obtain ⟨g1, u1, us1, _, hga, hge, hw2, hys, hv⟩ := hres
      obtain ⟨v0, hav0, hv0⟩ := okAs_head (hxs ▸ hok)
      rw [hav0] at hga
      obtain rfl := Option.some.inj hga
      subst hv
      obtain ⟨kk, hkk, hLb⟩ := hfr.b _ rfl
      obtain rfl : d = kk := Option.some.inj (hd.symm.trans hkk)
      rw [hnr0, hd] at hnx
      obtain ⟨ρ', hD'⟩ := hD.callNew (rd := ([] ++ []) ++ R2) (rf := []) (cs := sc0 :: cs0) hLb (by simpa using hkept) hge hw2 (fun L' ρ' hle => by
       have hoks := hos.oks (L := L') (ρ := ρ') (g := partG ct.part g) (b := Nat.mul d 64) (fun r y hy => by rw [hnr0] at hy; cases hy) (hat ρ' fun r y hy => by rw [hnr0] at hy; cases hy)
       rw [hysa, hys] at hoks
       refine .cons (SC.ok_mono hle hv0) ?_
       cases hoks with
       | cons h0 _ =>
        obtain ⟨us3, e3, o3⟩ := h0
        injection e3 with e3
        have := congrArg Array.toList e3
        simp at this
        rw [this]
        exact o3)
      show next (a.put o.dst _) w'
      rw [hd]
      exact hnx ρ' _ w' hD'
  ·exact h1.elim

theorem skipK_out {p : Bool} {ts : List ATy} {A : Sides} {K : Eff → Sides → Prop} (h : skipK p ts A K) : ∃ z, K ⟨.grd p z, none, [], [], [], [], [], []⟩ A := by
 unfold skipK at h
 split at h
 ·split at h
  ·exact ⟨_, h⟩
  ·exact h.elim
 ·exact h.elim

theorem eff_call {Γ : List (Nat × Ctr)} (hΓ : ∀ f c, find Γ f = some c → c.holds E f) {c : Call} {f : Nat} (ho : o.op = .call c) (hc : c.callee = .value (.func f)) {K : Eff → Sides → Prop}
  (h : argsK vs g c.args.toList A fun xs A => match o.dst with
    | some d => callG Γ f bs rs g A d xs K
    | none => False) : ∃ e A', K e A' ∧ (∀ p ∈ A, p ∈ A') ∧ EffOk E vs bs rs o g A' e := by
 obtain ⟨xs, A1, h1, s1, a1⟩ := argsK_out h
 clear h
 split at h1
 ·rename_i d hd
  unfold callG at h1
  split at h1
  ·exact eff_callK hΓ ho hc hd s1 a1 h1
  ·rename_i p
   obtain ⟨ct, _, h1⟩ := lookK_out h1
   split at h1
   ·exact eff_callK hΓ ho hc hd s1 a1 h1
   ·cases p with
    | true =>
     have hgt : GT (some true) := fun q hq => by cases hq; rfl
     obtain ⟨e, A', hK, s2, _, hr⟩ := eff_callK hΓ ho hc hd s1 (a1.free hgt) (h1.1 rfl)
     exact ⟨e, A', hK, s2, (by intro q hq hf; cases hq; cases hf), fun w0 C L ρ a w next Q q1 q2 q3 q4 _ q6 q7 q8 => hr w0 C L ρ a w next Q q1 q2 q3 q4 GT_none q6 q7 q8⟩
    | false =>
     obtain ⟨z, hK⟩ := skipK_out (h1.2 rfl)
     exact ⟨_, A1, hK, s1, (by intro q hq _; cases hq; exact ⟨rfl, rfl, rfl, rfl, ⟨_, rfl⟩, fun k x hx => by cases hx⟩), fun w0 C L ρ a w next Q q1 q2 q3 q4 q5 => by cases q5 false rfl⟩
 ·exact h1.elim
end
end Go.Eng

namespace Go.Eng
open Go.RowKit

section
variable {E : Env} {vs : List SV} {bs : List (Nat × Blk)} {rs : List (Nat × Option Row)} {o : Oper} {g : Option Bool} {A : Sides}

theorem eff_sound (hE : EnvOk E) {Γ : List (Nat × Ctr)} (hΓ : ∀ f c, find Γ f = some c → c.holds E f) {K : Eff → Sides → Prop} (h : effK E Γ o g ⟨vs, bs, rs⟩ A K) :
  ∃ e A', K e A' ∧ (∀ p ∈ A, p ∈ A') ∧ EffOk E vs bs rs o g A' e := by
 unfold effK at h
 dsimp only at h
 split at h
 ·rename_i x ho; exact eff_move (.inl ho) h
 ·rename_i x ho; exact eff_move (.inr ho) h
 ·rename_i c x y ho; exact eff_pick ho h
 ·rename_i t ho; exact eff_alloc ho h
 ·rename_i t x ho; exact eff_box ho h
 ·rename_i t p ho; exact eff_build ho h
 ·rename_i t n p ho; exact eff_buildSlice hE ho h
 ·rename_i t x ho; exact eff_load ho h
 ·rename_i x ho; exact eff_nilCheck ho h
 ·rename_i op t x y yt ho; exact eff_bin ho h
 ·rename_i op t x ho; exact eff_un ho h
 ·rename_i s t x ho; exact eff_conv ho h
 ·rename_i t l c ho; exact eff_makeSlice hE ho h
 ·rename_i t x lo hi ho; exact eff_slice ho h
 ·rename_i t x f ho; exact eff_field ho h
 ·rename_i t x i ho; exact eff_index ho h
 ·rename_i x i ho; exact eff_extract ho h
 ·rename_i c ho
  split at h
  ·rename_i b hc; exact eff_builtin hE ho hc h
  ·rename_i f hc; exact eff_call hΓ ho hc h
  ·exact h.elim
 ·exact h.elim
end


theorem killK_out : ∀ {l : List Nat} {rs : List (Nat × Option Row)} {K : List (Nat × Option Row) → Prop}, killK l rs K →
  ∃ rs', K rs' ∧ ∀ j, find rs' j = if j ∈ l then some none else find rs j
 | [], rs, K, h => ⟨rs, h, fun j => by simp⟩
 | r :: l, rs, K, h => by
  obtain ⟨rs1, h1, _, f1⟩ := updK_out h
  obtain ⟨rs2, h2, f2⟩ := killK_out h1
  refine ⟨rs2, h2, fun j => ?_⟩
  rw [f2, f1]
  by_cases e1 : j ∈ l
  ·simp [e1]
  ·by_cases e2 : r = j
   ·simp [e2]
   ·have e3 : ¬ j = r := fun e => e2 e.symm
    simp [e1, e2, e3]

theorem killK_has {rs : List (Nat × Option Row)} : ∀ {l : List Nat} {rs : List (Nat × Option Row)} {K : List (Nat × Option Row) → Prop}, killK l rs K → ∀ j ∈ l, ∃ e, find rs j = some e
 | [], rs, K, h => fun j hj => by cases hj
 | r :: l, rs, K, h => fun j hj => by
  obtain ⟨rs1, h1, ⟨x, hx⟩, f1⟩ := updK_out h
  by_cases e : r = j
  ·subst e; exact ⟨x, hx⟩
  ·rcases List.mem_cons.1 hj with e' | hj
   ·exact (e e'.symm).elim
   ·obtain ⟨y, hy⟩ := killK_has (rs := rs) h1 j hj
    rw [f1, if_neg e] at hy
    exact ⟨y, hy⟩

theorem updRowsK_out : ∀ {l : List (Nat × Row)} {rs : List (Nat × Option Row)} {K : List (Nat × Option Row) → Prop}, updRowsK l rs K →
  ∃ rs', K rs' ∧ ∀ j, (find rs' j = match find l j with | some x => some (some x) | none => find rs j) ∧ (∀ x, find l j = some x → ∃ e, find rs j = some e)
 | [], rs, K, h => ⟨rs, h, fun j => ⟨rfl, fun x hx => by cases hx⟩⟩
 | (r, y) :: l, rs, K, h => by
  obtain ⟨rs1, h1, f1⟩ := updRowsK_out (l := l) (K := fun rs => updK rs r (some y) K) h
  obtain ⟨rs2, h2, ⟨z, hz⟩, f2⟩ := updK_out h1
  refine ⟨rs2, h2, fun j => ?_⟩
  by_cases e : r = j
  ·subst e
   refine ⟨by simp [find, f2], fun x _ => ?_⟩
   rw [(f1 r).1] at hz
   cases hl : find l r with
   | none => rw [hl] at hz; exact ⟨z, hz⟩
   | some x => exact (f1 r).2 x hl
  ·refine ⟨by simp [find, f2, e, (f1 j).1], fun x hx => ?_⟩
   simp only [find, e, if_false] at hx
   exact (f1 j).2 x hx

theorem newRowsK_out : ∀ {l : List (Nat × Row)} {rs : List (Nat × Option Row)} {K : List (Nat × Option Row) → Prop}, newRowsK l rs K →
  ∃ rs', K rs' ∧ ∀ j, (find rs' j = match find l j with | some x => some (some x) | none => find rs j) ∧ (∀ x, find l j = some x → find rs j = none)
 | [], rs, K, h => ⟨rs, h, fun j => ⟨rfl, fun x hx => by cases hx⟩⟩
 | (r, y) :: l, rs, K, h => by
  obtain ⟨hf, h⟩ := freshK_out h
  obtain ⟨rs1, h1, f1⟩ := newRowsK_out h
  refine ⟨rs1, h1, fun j => ?_⟩
  by_cases e : r = j
  ·subst e
   refine ⟨?_, fun x _ => hf⟩
   rw [(f1 r).1]
   cases hl : find l r with
   | none => simp [find]
   | some x =>
    have := (f1 r).2 x hl
    simp [find] at this
  ·refine ⟨?_, fun x hx => ?_⟩
   ·rw [(f1 j).1]
    simp [find, e]
   ·simp only [find, e, if_false] at hx
    have := (f1 j).2 x hx
    simpa [find, e] using this

theorem updBlkK_out : ∀ {l : List (Nat × List SC)} {bs : List (Nat × Blk)} {K : List (Nat × Blk) → Prop}, updBlkK l bs K →
  ∃ bs', K bs' ∧ ∀ j, find bs' j = match find l j with | some cs => (find bs j).map fun b => ⟨b.t, cs⟩ | none => find bs j
 | [], bs, K, h => ⟨bs, h, fun j => rfl⟩
 | (k, cs) :: l, bs, K, h => by
  obtain ⟨bs1, h1, f1⟩ := updBlkK_out (l := l) (K := fun bs => lookK bs k fun b => match b with
   | ⟨t, _⟩ => updK bs k ⟨t, cs⟩ K) h
  obtain ⟨b, hb, h1⟩ := lookK_out h1
  obtain ⟨t, old⟩ := b
  obtain ⟨bs2, h2, _, f2⟩ := updK_out h1
  refine ⟨bs2, h2, fun j => ?_⟩
  by_cases e : k = j
  ·subst e
   rw [f2, if_pos rfl]
   simp only [find, if_true]
   rw [f1] at hb
   cases hl : find l k with
   | none =>
    rw [hl] at hb
    have hb' : find bs k = some ⟨t, old⟩ := hb
    rw [hb']; rfl
   | some c =>
    rw [hl] at hb
    obtain ⟨b', hb', e⟩ := Option.map_eq_some_iff.1 (show (find bs k).map (fun b => (⟨b.t, c⟩ : Blk)) = some ⟨t, old⟩ from hb)
    rw [hb']
    injection e with e1 e2
    rw [← e1]; rfl
  ·rw [f2, if_neg e, f1]
   simp [find, e]

def lk (fb : Nat → Option Nat) (fr : Nat → Option (Option Addr × Nat)) (S : St) : LS := ⟨fun i => S.vs.getD i .any, find S.bs, find S.rs, fb, fr⟩

theorem LS.same {L L' : LS} (h1 : ∀ i, L.v i = L'.v i) (h2 : ∀ i, L.b i = L'.b i) (h3 : ∀ i, L.r i = L'.r i) (h4 : L.fb = L'.fb) (h5 : L.fr = L'.fr) : L = L' := by
 obtain ⟨a, b, c, d, e⟩ := L
 obtain ⟨a', b', c', d', e'⟩ := L'
 obtain rfl : a = a' := funext h1
 obtain rfl : b = b' := funext h2
 obtain rfl : c = c' := funext h3
 obtain rfl : d = d' := h4
 obtain rfl : e = e' := h5
 rfl

theorem applyK_out {fb : Nat → Option Nat} {fr : Nat → Option (Option Addr × Nat)} {S : St} {d : Option Nat} {e : Eff} {K : St → Prop} (h : applyK S d e K) :
  ∃ S', K S' ∧ S'.vs.length = S.vs.length ∧ lk fb fr S' = (lk fb fr S).app d e ∧ Fresh (lk fb fr S) d e := by
 obtain ⟨vs, bs, rs⟩ := S
 obtain ⟨v, nb, nr, kill, upd, sb, rd, bd⟩ := e
 unfold applyK at h
 dsimp only at h
 obtain ⟨rs1, h, f1⟩ := killK_out h
 obtain ⟨rs2, h, f2⟩ := updRowsK_out h
 obtain ⟨rs3, h, f3⟩ := newRowsK_out h
 obtain ⟨bs1, h, fb1⟩ := updBlkK_out h
 have hr : ∀ j, find rs3 j = match find nr j with | some x => some (some x) | none => match find upd j with | some x => some (some x) | none => if j ∈ kill then some none else find rs j := fun j => by
  rw [(f3 j).1, (f2 j).1, f1]
 have hfr : ∀ k x, find nr k = some x → find rs k = none := fun k x hx => by
  have h2 := (f3 k).2 x hx
  rw [(f2 k).1] at h2
  cases hu : find upd k with
  | some y => rw [hu] at h2; cases h2
  | none =>
   rw [hu, f1] at h2
   dsimp only at h2
   split at h2
   ·cases h2
   ·exact h2
 cases d with
 | none =>
  cases nb with
  | none =>
   refine ⟨_, h, rfl, ?_, ⟨fun b hb => (by cases hb), hfr⟩⟩
   refine LS.same (fun i => ?_) (fun k => ?_) (fun j => hr j) rfl rfl
   ·simp [lk, LS.app]
   ·show find bs1 k = _
    rw [fb1]
    simp only [lk, LS.app, reduceCtorEq, if_false]
    rfl
  | some b => exact h.elim
 | some d =>
  obtain ⟨hlt, h⟩ := setK_out h
  have hv : (fun i => (vs.set d v).getD i SV.any) = fun i => if some d = some i then v else vs.getD i SV.any := funext fun i => by
   simp only [List.getD_eq_getElem?_getD, List.getElem?_set, Option.some.injEq]
   by_cases e : d = i
   ·subst e; simp [hlt]
   ·simp [e]
  cases nb with
  | none =>
   refine ⟨_, h, by simp, ?_, ⟨fun b hb => (by cases hb), hfr⟩⟩
   refine LS.same (fun i => congrFun hv i) (fun k => ?_) (fun j => hr j) rfl rfl
   show find bs1 k = _
   rw [fb1]
   have : (if some d = some k then (none : Option Blk) else none) = none := by split <;> rfl
   simp only [lk, LS.app, this]
   rfl
  | some b =>
   obtain ⟨hfb, h⟩ := freshK_out h
   have hbn : find bs d = none := by
    rw [fb1] at hfb
    cases hs : find sb d with
    | none => rw [hs] at hfb; exact hfb
    | some cs => rw [hs] at hfb; simpa using hfb
   refine ⟨_, h, by simp, ?_, ⟨fun b' hb => ⟨d, rfl, hbn⟩, hfr⟩⟩
   refine LS.same (fun i => congrFun hv i) (fun k => ?_) (fun j => hr j) rfl rfl
   show find ((d, b) :: bs1) k = _
   by_cases e : d = k
   ·subst e; simp [find, lk, LS.app]
   ·have e' : ¬ (some d = some k) := fun h => e (Option.some.inj h)
    simp only [find, e, e', if_false, fb1, lk, LS.app]
    rfl
end Go.Eng

namespace Go.Eng
open Go.RowKit

theorem splice (A B D ls : List Value) (off m : Nat) (hm : ls.length = m) (h : off + m ≤ B.length) :
  (A ++ (B ++ D)).take (A.length + off) ++ ls ++ (A ++ (B ++ D)).drop (A.length + off + m) = A ++ (B.take off ++ ls ++ B.drop (off + m)) ++ D := by
 have h1 : (A ++ (B ++ D)).take (A.length + off) = A ++ B.take off := by
  rw [List.take_append, List.take_of_length_le (by omega), show A.length + off - A.length = off by omega, List.take_append_of_le_length (by omega)]
 have h2 : (A ++ (B ++ D)).drop (A.length + off + m) = B.drop (off + m) ++ D := by
  rw [List.drop_append, List.drop_eq_nil_of_le (by omega), show A.length + off + m - A.length = off + m by omega, List.drop_append_of_le_length (by omega), List.nil_append]
 rw [h1, h2]
 simp [List.append_assoc]

theorem take_splice (cur ls : List Value) (N p m : Nat) (hm : ls.length = m) (h : p + m ≤ N) (hN : N ≤ cur.length) :
  (cur.take p ++ ls ++ cur.drop (p + m)).take N = (cur.take N).take p ++ ls ++ (cur.take N).drop (p + m) := by
 obtain ⟨A, B, rfl, hA⟩ : ∃ A B, cur = A ++ B ∧ A.length = N := ⟨cur.take N, cur.drop N, (List.take_append_drop N cur).symm, by simp; omega⟩
 have h1 : (A ++ B).take N = A := by rw [← hA]; simp
 rw [h1, List.take_append_of_le_length (by omega : p ≤ A.length), List.drop_append_of_le_length (by omega : p + m ≤ A.length), ← List.append_assoc]
 have h2 : (A.take p ++ ls ++ A.drop (p + m)).length = N := by simp only [List.length_append, List.length_take, List.length_drop]; omega
 rw [List.take_append_of_le_length (by omega), List.take_of_length_le (by omega)]

theorem add_mk (g n : Nat) : (Addr.add ⟨g, 0, none⟩ n) = ⟨g, n, none⟩ := by
 unfold Addr.add
 split <;> simp_all

theorem add_mk2 (g o n : Nat) : (Addr.add ⟨g, o, none⟩ n) = ⟨g, o + n, none⟩ := by
 unfold Addr.add
 split <;> simp_all

theorem leavesK_len {cs : List SC} {ls : List Leaf} (h : cs = ls.map .leaf) : cs.length = ls.length := by rw [h]; simp

section
variable {E : Env} {w0 : World} {C : List Nat} {L : LS} {ρ : Val} {a : Act} {w : World} {vs : List SV} {bs : List (Nat × Blk)} {rs : List (Nat × Option Row)} {A : Sides} {o : Oper}

theorem OwnR.put {t : ETy} {ad : Option Addr} {c : Nat} {xs : List t.T} (h : OwnR E w t ad c xs) {i off : Nat} (hi : i < xs.length) {z : t.T} {ls : List Leaf} (hoff : off + ls.length ≤ t.n)
  (hz : t.lv z = (t.lv (xs.getD i t.zero)).take off ++ ls ++ (t.lv (xs.getD i t.zero)).drop (off + ls.length)) :
  ∃ g o cur e, ad = some ⟨g, o, none⟩ ∧ w.heap[g]? = some (.cells cur e (0, 0)) ∧ o + (i * t.n + off) + ls.length ≤ cur.size ∧
   OwnR E (w.setRow g (cur.toList.take (o + (i * t.n + off)) ++ ls.map Leaf.val ++ cur.toList.drop (o + (i * t.n + off) + ls.length)).toArray) t ad c (xs.set i z) := by
 obtain ⟨e, he, h2⟩ := h
 rcases h2 with ⟨_, _, h0⟩ | ⟨g, o, cur, hv1, hg, hn, hcap, hsz, htake⟩
 ·subst h0; simp at hi
 ·have hmul : (i + 1) * t.n ≤ xs.length * t.n := Nat.mul_le_mul_right _ hi
  rw [Nat.add_mul, Nat.one_mul] at hmul
  have hmul2 : xs.length * t.n ≤ c * t.n := Nat.mul_le_mul_right _ hn
  have hcl : cur.toList.length = cur.size := by simp
  refine ⟨g, o, cur, e, hv1, hg, by omega, e, he, .inr ⟨g, o, _, hv1, setRow_heap w g cur _ e (0, 0) hg, by rw [List.length_set]; exact hn, hcap, ?_, ?_⟩⟩
  ·simp only [List.size_toArray, List.length_append, List.length_take, List.length_map, List.length_drop]
   omega
  ·rw [List.length_set]
   simp only
   have hd : (cur.toList.take (o + (i * t.n + off)) ++ ls.map Leaf.val ++ cur.toList.drop (o + (i * t.n + off) + ls.length)).drop o = (cur.toList.drop o).take (i * t.n + off) ++ ls.map Leaf.val ++ (cur.toList.drop o).drop (i * t.n + off + ls.length) := by
    rw [List.append_assoc, List.drop_append_of_le_length (by rw [List.length_take]; omega), List.drop_take, List.drop_drop, List.append_assoc]
    congr 2
    ·omega
    ·congr 1; omega
   rw [hd, take_splice (cur.toList.drop o) (ls.map Leaf.val) (xs.length * t.n) (i * t.n + off) ls.length (by simp) (by omega) (by simp; omega), htake]
   have hx : xs.set i (xs.getD i t.zero) = xs := by
    apply List.ext_getElem?
    intro j
    rw [List.getElem?_set]
    by_cases e : i = j
    ·subst e
     simp [List.getD, hi]
    ·simp [e]
   have hc := cells_set t xs i hi (xs.getD i t.zero)
   rw [hx] at hc
   have hA : ((cells t xs).take (i * t.n)).length = i * t.n := by rw [List.length_take, cells_length]; omega
   have hB : ((t.lv (xs.getD i t.zero)).map Leaf.val).length = t.n := by rw [List.length_map, ETy.lv_length]
   rw [cells_set t xs i hi z, hz]
   generalize (cells t xs).take (i * t.n) = A at hc hA ⊢
   generalize (cells t xs).drop (i * t.n + t.n) = D at hc ⊢
   generalize hBB : (t.lv (xs.getD i t.zero)).map Leaf.val = B at hc hB
   rw [List.append_assoc] at hc
   rw [hc, ← hA, splice A B D (ls.map Leaf.val) off ls.length (by simp) (by omega)]
   simp only [List.map_append, List.map_take, List.map_drop, hBB]

theorem kept_setRow {g : Nat} (arr : Array Value) : Kept [g] w (w.setRow g arr) :=
 ⟨rfl, rfl, rfl, by simp, fun k hk hn => setRow_other w g k arr (by simpa using hn)⟩

theorem store_out {t : TypeId} {x y : Operand} {K : List (Nat × Blk) → List (Nat × Option Row) → Sides → Prop} (ho : o.op = .store t x y) (hd : o.dst = none) (h : storeK E t vs bs rs A x y K) :
  ∃ bs' rs' A', K bs' rs' A' ∧ (∀ p ∈ A, p ∈ A') ∧ ∀ (fb : Nat → Option Nat) (fr : Nat → Option (Option Addr × Nat)) (w0 : World) (C : List Nat) (ρ : Val) (a : Act) (w : World) (next : Act → World → Prop) (Q : Exit → Act → World → Prop),
   Sd A' → Den E w0 C vs.length (lk fb fr ⟨vs, bs, rs⟩) ρ a w → (∀ ρ' w', Den E w0 C vs.length (lk fb fr ⟨vs, bs', rs'⟩) ρ' a w' → next a w') → o.wp E.P a w next Q := by
 unfold storeK at h
 obtain ⟨p, A1, h1, s1, a1⟩ := argK_out h
 clear h
 obtain ⟨v, A2, h2, s2, a2⟩ := argK_out h1
 clear h1
 obtain ⟨cs, h, hcs⟩ := cellsK_out h2
 clear h2
 have hwp : ∀ (a : Act) (w w' : World) (next : Act → World → Prop) (Q : Exit → Act → World → Prop), (Instr.storeAt t (a.eval x) (a.eval y)).run E.P w = .ok () w' → next a w' → o.wp E.P a w next Q := fun a w w' next Q hr hn => by
  unfold Oper.wp
  have : (execOp a.eval o).run E.P w = .ok .skip w' := by
   simp only [execOp, ho]
   rw [Sem.run_bind, hr]
   rfl
  rw [this, Oper.upon_skip, hd]
  exact hn
 split at h
 ·rename_i n hn
  split at h
  ·rename_i hlen
   have hlen := beq_true hlen
   split at h
   ·rename_i k off
    obtain ⟨b, hb, h⟩ := lookK_out h
    obtain ⟨bt, old⟩ := b
    obtain ⟨hle, h⟩ := splK_out h
    obtain ⟨bs', h, _, hf⟩ := updK_out h
    refine ⟨bs', rs, A2, h, fun p hp => s2 p (s1 p hp), fun fb fr w0 C ρ a w next Q hs hD hnx => ?_⟩
    have hvx : SA.ok _ ρ _ (a.eval x) := (a1.mono s2) (lk fb fr ⟨vs, bs, rs⟩) ρ a hD.size (fun t _ => rfl) hD.slots hs GT_none
    have hvy : SA.ok _ ρ _ (a.eval y) := a2 (lk fb fr ⟨vs, bs, rs⟩) ρ a hD.size (fun t _ => rfl) hD.slots hs GT_none
    have hoy := hcs _ _ _ hvy
    obtain ⟨_, hp⟩ := hvx
    obtain ⟨us, hg, hok⟩ := hD.blks k ⟨bt, old⟩ hb
    have hl1 := hok.length
    have hl2 := hoy.length
    simp only [Array.length_toList] at hl1 hl2
    have hrun := run_storeBlk (P := E.P) (w := w) hn hg (v := a.eval y) (off := off) (by omega) (by omega) (fun u hu => (hoy.one u hu).2)
    obtain ⟨ρ', hD'⟩ := hD.call (d := none) (nr := []) (kl := []) (up := []) (sb := [(k, old.take off ++ cs ++ old.drop (off + cs.length))]) (rd := []) (rf := []) (V := .any) (v := undef) (w' := w.setRow (ρ.bl k) (us.toList.take off ++ (a.eval y).cells.toList ++ us.toList.drop (off + n)).toArray) (fun _ => (none, 0)) [ρ.bl k]
     (fun r x hx => by cases hx) (fun r hr => by cases hr) (fun r y hy => by cases hy)
     (fun k' cs' hk => by
      obtain ⟨rfl, rfl⟩ := find_one_eq hk
      refine ⟨bt, old, _, hb, setRow_heap w _ us _ bt (0, 0) hg, ?_⟩
      rw [hlen]
      exact fun L' ρ' hle _ => Oks.mono hle (by simpa using ((hok.take off).append hoy).append (hok.drop (off + n))))
     (fun g hg' => by
      obtain rfl : g = ρ.bl k := by simpa using hg'
      exact .inr (.inr ⟨k, _, find_one _ _, rfl⟩))
     (kept_setRow _)
     (fun r x hx => by cases hx) (fun r x g hx => by cases hx) (fun r r' x x' hx => by cases hx) (fun _ _ _ _ => trivial)
    refine hwp a w _ next Q (by rw [hp]; exact hrun) (hnx ρ' _ ?_)
    have e : (lk fb fr ⟨vs, bs, rs⟩).app none ⟨.any, none, [], [], [], [(k, old.take off ++ cs ++ old.drop (off + cs.length))], [], []⟩ = lk fb fr ⟨vs, bs', rs⟩ := by
     refine LS.same (fun i => by simp [LS.app, lk]) (fun j => ?_) (fun j => by simp [LS.app, lk, find]) rfl rfl
     show _ = find bs' j
     rw [hf]
     by_cases e : k = j
     ·subst e; simp [LS.app, lk, find, hb]
     ·simp [LS.app, lk, find, e]
    rw [e] at hD'
    exact hD'
   ·rename_i r i off
    obtain ⟨z0, hf0, h⟩ := lookK_out h
    split at h
    ·rename_i ty xs
     obtain ⟨ls, h3, hlseq⟩ := leavesK_out h
     subst hlseq
     clear h
     obtain ⟨hle, h⟩ := splK_out h3
     split at h
     ·rename_i z hz
      have hz := ETy.lv_of hz
      have h := h _ rfl
      obtain ⟨rs', h, _, hf⟩ := updK_out h
      refine ⟨bs, rs', A2, h, fun p hp => s2 p (s1 p hp), fun fb fr w0 C ρ a w next Q hs hD hnx => ?_⟩
      have hvx : SA.ok _ ρ _ (a.eval x) := (a1.mono s2) (lk fb fr ⟨vs, bs, rs⟩) ρ a hD.size (fun t _ => rfl) hD.slots hs GT_none
      have hvy : SA.ok _ ρ _ (a.eval y) := a2 (lk fb fr ⟨vs, bs, rs⟩) ρ a hD.size (fun t _ => rfl) hD.slots hs GT_none
      have hoy := hcs _ _ _ hvy
      have hcells := oks_leaf_vals hoy
      obtain ⟨_, e, he, hx⟩ := hvx
      have hLr : (lk fb fr ⟨vs, bs, rs⟩).r r = some (some ⟨ty, xs, true, none⟩) := hf0
      rw [hLr] at he
      obtain ⟨hi, ad, had, hp⟩ := hx _ (Option.some.inj he).symm Row.live_none
      have hown : OwnR E w ty (ρ.ra r) (ρ.rc r) xs := hD.rows r _ hLr Row.live_none
      rw [ETy.lv_length] at hle
      obtain ⟨g, o0, cur, et, hra, hg, hsz, hput⟩ := hown.put hi hle hz
      rw [hra] at had
      obtain rfl := Option.some.inj had
      rw [add_mk2] at hp
      rw [List.length_map] at hlen
      have hrun := run_storeBlk (P := E.P) (w := w) hn hg (v := a.eval y) (off := o0 + (i * ty.n + off)) (by rw [← Array.length_toList, hcells, List.length_map]; omega) (by omega) (fun u hu => (hoy.one u hu).2)
      obtain ⟨ρ', hD'⟩ := hD.call (d := none) (nr := []) (kl := []) (up := [(r, ⟨ty, xs.set i z, true, none⟩)]) (sb := []) (rd := []) (rf := []) (V := .any) (v := undef) (w' := w.setRow g (cur.toList.take (o0 + (i * ty.n + off)) ++ ls.map Leaf.val ++ cur.toList.drop (o0 + (i * ty.n + off) + ls.length)).toArray) (fun _ => (none, 0)) [g]
       (fun r x hx => by cases hx) (fun r hr => by cases hr)
       (fun r' y hy => by
        obtain ⟨rfl, rfl⟩ := find_one_eq hy
        exact ⟨by simp, rfl, rfl, hput, _, hLr, rfl, Row.live_none, by simp, rfl⟩)
       (fun k' cs' hk => by cases hk)
       (fun g' hg' => by
        obtain rfl : g' = g := by simpa using hg'
        exact .inr (.inl ⟨r, _, find_one _ _, by simp [bk, hra]⟩))
       (kept_setRow _)
       (fun r x hx => by cases hx) (fun r x g hx => by cases hx) (fun r r' x x' hx => by cases hx) (fun _ _ _ _ => trivial)
      refine hwp a w _ next Q (by rw [hp, hrun, hcells, ← hlen]) (hnx ρ' _ ?_)
      have e : (lk fb fr ⟨vs, bs, rs⟩).app none ⟨.any, none, [], [], [(r, ⟨ty, xs.set i z, true, none⟩)], [], [], []⟩ = lk fb fr ⟨vs, bs, rs'⟩ := by
       refine LS.same (fun i => by simp [LS.app, lk]) (fun j => by simp [LS.app, lk, find]) (fun j => ?_) rfl rfl
       show _ = find rs' j
       rw [hf]
       by_cases e : r = j
       ·subst e; simp [LS.app, lk, find]
       ·simp [LS.app, lk, find, e]
      rw [e] at hD'
      exact hD'
     ·exact h.elim
    ·exact h.elim
   ·exact h.elim
  ·exact h.elim
 ·exact h.elim
end
end Go.Eng

namespace Go.Eng
open Go.RowKit

section
variable {E : Env} {n : Nat} {ops : Array Oper}

theorem guardK_out {vs : List SV} {o : Oper} {K : Option Bool → Prop} (h : guardK ops.toList vs o.guard K) :
  ∃ g, K g ∧ (∀ t ∈ slotsOf ops.toList o, True) ∧ ∀ (L : LS) (ρ : Val) (a : Act), a.tmps.size = vs.length → (∀ t ∈ slotsOf ops.toList o, L.v t = vs.getD t .any) → (∀ (i : Nat) (v : Value), a.tmps[i]? = some v → SV.ok L ρ (L.v i) v) →
   (g = none → Region.wanted o (yielded ops a.tmps) = true) ∧ ∀ p, g = some p → Region.wanted o (yielded ops a.tmps) = p := by
 unfold guardK at h
 split at h
 ·rename_i hg
  exact ⟨none, h, fun _ _ => trivial, fun L ρ a _ _ _ => ⟨fun _ => by simp [Region.wanted, hg], fun p hp => by cases hp⟩⟩
 ·rename_i j pol hg
  obtain ⟨q, hq, h1⟩ := getK_out h
  clear h
  obtain ⟨d, hd, h2⟩ := dstK_out h1
  clear h1
  obtain ⟨v, hv, h3⟩ := getK_out h2
  clear h2
  have hq' : ops[j]? = some q := by simpa using hq
  have hslot : d ∈ slotsOf ops.toList o := by
   unfold slotsOf
   rw [hg]
   simp only
   rw [hq]
   simp [hd]
  have hat : ∀ (L : LS) (ρ : Val) (a : Act), a.tmps.size = vs.length → (∀ t ∈ slotsOf ops.toList o, L.v t = vs.getD t .any) → (∀ (i : Nat) (v : Value), a.tmps[i]? = some v → SV.ok L ρ (L.v i) v) →
    ∃ u, SV.ok L ρ v u ∧ yielded ops a.tmps j = match u with | .bool b => some b | _ => none := fun L ρ a hs hL ho => by
   have hlt : d < vs.length := (List.getElem?_eq_some_iff.1 hv).1
   have hlt' : d < a.tmps.size := by rw [hs]; exact hlt
   have h1 := ho d _ (Array.getElem?_eq_getElem hlt')
   have h2 : L.v d = v := by rw [hL d hslot]; simp [List.getD, hv]
   rw [h2] at h1
   refine ⟨_, h1, ?_⟩
   unfold yielded
   simp only [hq', Option.bind_some, hd, Array.getElem?_eq_getElem hlt']
   cases a.tmps[d] <;> rfl
  split at h3
  ·rename_i b
   have key : ∀ (L : LS) (ρ : Val) (a : Act), a.tmps.size = vs.length → (∀ t ∈ slotsOf ops.toList o, L.v t = vs.getD t .any) → (∀ (i : Nat) (v : Value), a.tmps[i]? = some v → SV.ok L ρ (L.v i) v) → Region.wanted o (yielded ops a.tmps) = (b == pol) := fun L ρ a hs hL ho => by
    obtain ⟨u, hu, hy⟩ := hat L ρ a hs hL ho
    obtain rfl : u = .bool b := hu
    simp only [Region.wanted, hg, hy]
    cases b <;> cases pol <;> rfl
   split at h3
   ·exact ⟨_, h3, fun _ _ => trivial, fun L ρ a hs hL ho => ⟨fun hp => (by cases hp), fun p hp => (by cases hp; rw [key L ρ a hs hL ho]; cases b <;> rfl)⟩⟩
   ·exact ⟨_, h3, fun _ _ => trivial, fun L ρ a hs hL ho => ⟨fun hp => (by cases hp), fun p hp => (by cases hp; rw [key L ρ a hs hL ho]; cases b <;> rfl)⟩⟩
  ·rename_i q b
   have key : ∀ (L : LS) (ρ : Val) (a : Act), a.tmps.size = vs.length → (∀ t ∈ slotsOf ops.toList o, L.v t = vs.getD t .any) → (∀ (i : Nat) (v : Value), a.tmps[i]? = some v → SV.ok L ρ (L.v i) v) → Region.wanted o (yielded ops a.tmps) = (q && (b == pol)) := fun L ρ a hs hL ho => by
    obtain ⟨u, hu, hy⟩ := hat L ρ a hs hL ho
    simp only [Region.wanted, hg, hy]
    cases q with
    | false =>
     obtain rfl := hu.2 rfl
     rfl
    | true =>
     obtain rfl : u = .bool b := hu.1 rfl
     cases b <;> cases pol <;> rfl
   split at h3
   ·exact ⟨_, h3, fun _ _ => trivial, fun L ρ a hs hL ho => ⟨fun hp => (by cases hp), fun p hp => (by cases hp; rw [key L ρ a hs hL ho]; cases b <;> rfl)⟩⟩
   ·exact ⟨_, h3, fun _ _ => trivial, fun L ρ a hs hL ho => ⟨fun hp => (by cases hp), fun p hp => (by cases hp; rw [key L ρ a hs hL ho]; cases b <;> rfl)⟩⟩
  ·exact h3.elim

theorem Den.skip {w0 : World} {C : List Nat} {L : LS} {ρ : Val} {a : Act} {w : World} (hD : Den E w0 C n L ρ a w) {d : Option Nat} {e : Eff} (hq : Quiet false e) (hf : Fresh L d e) : Den E w0 C n (L.app d e) ρ (a.put d undef) w := by
 obtain ⟨V, nb, nr, kill, upd, sb, rd, bd⟩ := e
 obtain ⟨h1, h2, h3, h4, ⟨x, h5⟩, h6⟩ := hq
 simp only at h1 h2 h3 h4 h5 h6
 subst h1 h2 h3 h4 h5
 have hb : ∀ k, (L.app d ⟨.grd false x, none, nr, [], [], [], rd, bd⟩).b k = L.b k := fun k => by simp [LS.app, find]
 have hr : ∀ r, (L.app d ⟨.grd false x, none, nr, [], [], [], rd, bd⟩).r r = match find nr r with | some y => some (some y) | none => L.r r := fun r => by
  simp [LS.app, find]
  rfl
 have hdead : ∀ r y, find nr r = some y → ¬ y.live := fun r y hy hl => by
  have := hl false (h6 r y hy)
  cases this
 have hnone : ∀ r e, L.r r = some e → find nr r = none := fun r e h => by
  cases hf' : find nr r with
  | none => rfl
  | some y => rw [hf.r r y hf'] at h; cases h
 have hle : LE L ρ (L.app d ⟨.grd false x, none, nr, [], [], [], rd, bd⟩) ρ := by
  refine ⟨fun k b h => ⟨⟨b, (hb k).trans h⟩, rfl⟩, fun r e h => ⟨e, by rw [hr, hnone r e h]; exact h, fun y hy hl => ⟨y, hy, hl, rfl, rfl, rfl, rfl⟩⟩, fun _ _ _ => ⟨rfl, rfl⟩⟩
 have hhas : ∀ y, (L.app d ⟨.grd false x, none, nr, [], [], [], rd, bd⟩).has y → L.has y := fun y hy => by
  cases y with
  | b k => obtain ⟨b, h⟩ := hy; exact ⟨b, (hb k).symm.trans h⟩
  | r r =>
   obtain ⟨z, hz, hl⟩ := hy
   rw [hr] at hz
   cases hf' : find nr r with
   | none => rw [hf'] at hz; exact ⟨z, hz, hl⟩
   | some y =>
    rw [hf'] at hz
    cases hz
    exact (hdead r z hf' hl).elim
 have hown : ∀ y, (L.app d ⟨.grd false x, none, nr, [], [], [], rd, bd⟩).own y → L.own y := fun y hy => by
  cases y with
  | b k => obtain ⟨b, h⟩ := hy; exact ⟨b, (hb k).symm.trans h⟩
  | r r =>
   obtain ⟨z, hz, ho, hl⟩ := hy
   rw [hr] at hz
   cases hf' : find nr r with
   | none => rw [hf'] at hz; exact ⟨z, hz, ho, hl⟩
   | some y =>
    rw [hf'] at hz
    cases hz
    exact (hdead r z hf' hl).elim
 refine hD.next (X := fun _ => False) (New := fun _ => False) rfl rfl (fun i => rfl) hle (V := .grd false x) ⟨fun h => (by cases h), fun _ => rfl⟩ rfl rfl rfl (Nat.le_refl _) (fun _ _ _ => rfl) (fun _ h => h.elim) ?_ ?_
  (fun y hy => .inr ⟨hhas y hy, rfl, hown y⟩) (fun _ h => h.elim) (fun _ _ h => h.elim)
 ·intro k b h
  rw [hb] at h
  exact (hD.blks k b h).keep hle rfl
 ·intro r y h
  rw [hr] at h
  cases hf' : find nr r with
  | none => rw [hf'] at h; exact hD.rows r y h
  | some z =>
   rw [hf'] at h
   cases h
   exact fun hl => (hdead r y hf' hl).elim

def StepOk (E : Env) (n : Nat) (ops : Array Oper) (i : Nat) (o : Oper) (e : Eff) (L0 : LS) : Prop :=
 ∀ (w0 : World) (C : List Nat) (L : LS) (ρ : Val) (a : Act) (w : World) (Q : Exit → Act → World → Prop) (K : Act → World → Prop),
  (∀ t ∈ slotsOf ops.toList o, L.v t = L0.v t) → (∀ r ∈ e.rd, L.r r = L0.r r) → (∀ k ∈ e.bd, L.b k = L0.b k) → Den E w0 C n L ρ a w → Fresh L o.dst e →
  (∀ ρ' a' w', Den E w0 C n (L.app o.dst e) ρ' a' w' → K a' w') → wpOp E.P ops Q i K a w

theorem step_out (hE : EnvOk E) {Γ : List (Nat × Ctr)} (hΓ : ∀ f c, find Γ f = some c → c.holds E f) {i : Nat} {o : Oper} (hi : ops[i]? = some o) {vs : List SV} {bs : List (Nat × Blk)} {rs : List (Nat × Option Row)} {A : Sides} {K : Eff → Sides → Prop}
  (h : guardK ops.toList vs o.guard fun g => effK E Γ o g ⟨vs, bs, rs⟩ A K) : ∃ e A', K e A' ∧ (∀ p ∈ A, p ∈ A') ∧ (Sd A' → ∀ fb fr, StepOk E vs.length ops i o e (lk fb fr ⟨vs, bs, rs⟩)) := by
 obtain ⟨g, h1, _, hg⟩ := guardK_out h
 obtain ⟨e, A', hK, s, hq, hrun⟩ := eff_sound hE hΓ h1
 refine ⟨e, A', hK, s, fun hs fb fr w0 C L ρ a w Q K h1 h2 h3 hD hf hn => ?_⟩
 obtain ⟨g1, g2⟩ := hg L ρ a hD.size h1 hD.slots
 unfold wpOp
 simp only [hi]
 have hgo : GT g → o.wp E.P a w K Q := fun hgt => hrun w0 C L ρ a w K Q (fun t ht => h1 t (by
  unfold slotsOf
  refine List.mem_append_left _ (List.mem_filterMap.2 ⟨_, ht, rfl⟩))) h2 h3 hs hgt hD hf (fun ρ' v w' hd => hn ρ' _ w' hd)
 cases g with
 | none =>
  rw [g1 rfl]
  exact .inl (hgo GT_none)
 | some p =>
  rw [g2 p rfl]
  cases p with
  | true => exact .inl (hgo fun q hq => by cases hq; rfl)
  | false => exact hn ρ _ w (hD.skip (hq false rfl rfl) hf)

theorem range'_cons (i k : Nat) : List.range' i (k + 1) = i :: List.range' (i + 1) k := by simp [List.range']

theorem runK_out (hE : EnvOk E) {Γ : List (Nat × Ctr)} (hΓ : ∀ f c, find Γ f = some c → c.holds E f) : ∀ (l : List Oper) (i : Nat) {S : St} {A : Sides} {K : St → Sides → Prop}, ops.toList.drop i = l → runK E Γ ops.toList l S A K →
  ∃ S' A', K S' A' ∧ (∀ p ∈ A, p ∈ A') ∧ S'.vs.length = S.vs.length ∧ ∀ (fb : Nat → Option Nat) (fr : Nat → Option (Option Addr × Nat)) (w0 : World) (C : List Nat) (ρ : Val) (a : Act) (w : World) (Q : Exit → Act → World → Prop),
   Sd A' → Den E w0 C S.vs.length (lk fb fr S) ρ a w → (∀ ρ' a' w', Den E w0 C S.vs.length (lk fb fr S') ρ' a' w' → Q .normal a' w') → wpOps E.P ops Q (List.range' i l.length) a w
 | [], i, S, A, K, hl, h => ⟨S, A, h, fun p hp => hp, rfl, fun fb fr w0 C ρ a w Q hs hD hn => hn ρ a w hD⟩
 | o :: l, i, ⟨vs, bs, rs⟩, A, K, hl, h => by
  have hi : ops[i]? = some o := by
   have := congrArg List.head? hl
   rw [List.head?_drop] at this
   simpa using this
  have hl' : ops.toList.drop (i + 1) = l := by
   have := congrArg List.tail hl
   rw [List.tail_drop] at this
   simpa using this
  simp only [runK] at h
  cases hop : o.op with
  | store t x y =>
   obtain ⟨g, h1, _, hg⟩ := guardK_out h
   rw [hop] at h1
   cases g with
   | some p => exact h1.elim
   | none =>
    cases hd : o.dst with
    | some d =>
     dsimp only at h1
     rw [hd] at h1
     obtain ⟨bs', rs', A1, h2, _⟩ := store_out (o := ⟨none, .store t x y, o.type, o.pos, o.after, o.guard⟩) rfl rfl h1
     exact h2.elim
    | none =>
     dsimp only at h1
     rw [hd] at h1
     obtain ⟨bs', rs', A1, h2, s1, hst⟩ := store_out (o := o) hop hd h1
     obtain ⟨S', A', hK, s2, hlen, hrun⟩ := runK_out hE hΓ l (i + 1) hl' h2
     refine ⟨S', A', hK, fun p hp => s2 p (s1 p hp), hlen, fun fb fr w0 C ρ a w Q hs hD hn => ?_⟩
     rw [List.length_cons, range'_cons, wpOps_cons]
     unfold wpOp
     simp only [hi]
     have hw := (hg (lk fb fr ⟨vs, bs, rs⟩) ρ a hD.size (fun t _ => rfl) hD.slots).1 rfl
     rw [hw]
     exact .inl (hst fb fr w0 C ρ a w _ Q (hs.mono s2) hD fun ρ' w' hD' => hrun fb fr w0 C ρ' a w' Q hs hD' hn)
  | _ =>
   have h0 : guardK ops.toList vs o.guard fun g => effK E Γ o g ⟨vs, bs, rs⟩ A fun e A => applyK ⟨vs, bs, rs⟩ o.dst e fun S => runK E Γ ops.toList l S A K := by
    rw [hop] at h
    exact h
   obtain ⟨e, A1, h1, s1, hst⟩ := step_out hE hΓ hi h0
   obtain ⟨S1, h2, hlen1, hlk, hfr⟩ := applyK_out (fb := fun _ => none) (fr := fun _ => none) h1
   obtain ⟨S', A', hK, s2, hlen, hrun⟩ := runK_out hE hΓ l (i + 1) hl' h2
   refine ⟨S', A', hK, fun p hp => s2 p (s1 p hp), hlen.trans hlen1, fun fb fr w0 C ρ a w Q hs hD hn => ?_⟩
   rw [List.length_cons, range'_cons, wpOps_cons]
   have e1 : lk fb fr S1 = (lk fb fr ⟨vs, bs, rs⟩).app o.dst e := by
    have h1 := congrArg LS.v hlk
    have h2 := congrArg LS.b hlk
    have h3 := congrArg LS.r hlk
    exact LS.same (fun i => congrFun h1 i) (fun i => congrFun h2 i) (fun i => congrFun h3 i) rfl rfl
   refine hst (hs.mono s2) fb fr w0 C (lk fb fr ⟨vs, bs, rs⟩) ρ a w Q _ (fun t _ => rfl) (fun r _ => rfl) (fun k _ => rfl) hD ⟨hfr.b, hfr.r⟩ fun ρ' a' w' hD' => ?_
   rw [← e1] at hD'
   exact hrun fb fr w0 C ρ' a' w' Q hs (by rw [hlen1]; exact hD') (fun ρ2 a2 w2 h2 => hn ρ2 a2 w2 (by rw [hlen1] at h2; exact h2))
end
end Go.Eng

namespace Go.Eng
open Go.RowKit

inductive CM (kp : Keep) (A : Sides) (m : RMap) : SC → SC → Prop where
 | leaf {l l' : Leaf} : (Sd A → l = l') → CM kp A m (.leaf l) (.leaf l')
 | nil : CM kp A m .nil .nil
 | rowIn {r s : Nat} : r ∈ kp.rk → (r, some s) ∈ m → CM kp A m (.row r) (.row s)
 | rowKept {r : Nat} {e : Option Row} : r ∉ kp.rk → find kp.kr r = some e → CM kp A m (.row r) (.row r)
 | rowNil {r : Nat} : r ∈ kp.rk → (r, none) ∈ m → CM kp A m (.row r) .nil
 | ptr {k off : Nat} : (k ∈ kp.bk ∨ ∃ b, find kp.kb k = some b) → CM kp A m (.ptr k off) (.ptr k off)
 | epIn {r i off : Nat} : r ∈ kp.rk → (r, some r) ∈ m → CM kp A m (.ep r i off) (.ep r i off)
 | epKept {r i off : Nat} {e : Option Row} : r ∉ kp.rk → find kp.kr r = some e → CM kp A m (.ep r i off) (.ep r i off)

theorem CM.mono {kp : Keep} {A A' : Sides} {m m' : RMap} {x y : SC} (h : CM kp A m x y) (hA : ∀ p ∈ A, p ∈ A') (hm : ∀ p ∈ m, p ∈ m') : CM kp A' m' x y := by
 cases h with
 | leaf h => exact .leaf fun hs => h (hs.mono hA)
 | nil => exact .nil
 | rowIn h1 h2 => exact .rowIn h1 (hm _ h2)
 | rowKept h1 h2 => exact .rowKept h1 h2
 | rowNil h1 h2 => exact .rowNil h1 (hm _ h2)
 | ptr h => exact .ptr h
 | epIn h1 h2 => exact .epIn h1 (hm _ h2)
 | epKept h1 h2 => exact .epKept h1 h2

inductive CMs (kp : Keep) (A : Sides) (m : RMap) : List SC → List SC → Prop where
 | nil : CMs kp A m [] []
 | cons {x y : SC} {l r : List SC} : CM kp A m x y → CMs kp A m l r → CMs kp A m (x :: l) (y :: r)

theorem CMs.mono {kp : Keep} {A A' : Sides} {m m' : RMap} {l r : List SC} (h : CMs kp A m l r) (hA : ∀ p ∈ A, p ∈ A') (hm : ∀ p ∈ m, p ∈ m') : CMs kp A' m' l r := by
 induction h with
 | nil => exact .nil
 | cons h _ ih => exact .cons (h.mono hA hm) ih

theorem refsK_out {kp : Keep} {A : Sides} : ∀ {l : List SC} {m : RMap} {K : RMap → Prop}, refsK kp l m K → ∃ m', K m' ∧ (∀ p ∈ m, p ∈ m') ∧ (∀ p ∈ m', p ∈ m ∨ p.1 ∈ kp.rk) ∧ CMs kp A m' l l
 | [], m, K, h => ⟨m, h, fun p hp => hp, fun p hp => .inl hp, .nil⟩
 | .leaf x :: l, m, K, h => by
  obtain ⟨m', hK, h1, h2, h3⟩ := refsK_out (A := A) (l := l) h
  exact ⟨m', hK, h1, h2, .cons (.leaf fun _ => rfl) h3⟩
 | .nil :: l, m, K, h => by
  obtain ⟨m', hK, h1, h2, h3⟩ := refsK_out (A := A) (l := l) h
  exact ⟨m', hK, h1, h2, .cons .nil h3⟩
 | .row r :: l, m, K, h => by
  simp only [refsK] at h
  split at h
  ·rename_i hr
   have hr := memB_true hr
   obtain ⟨m', hK, h1, h2, h3⟩ := refsK_out (A := A) (l := l) h
   refine ⟨m', hK, fun p hp => h1 p (List.mem_cons_of_mem _ hp), fun p hp => ?_, .cons (.rowIn hr (h1 _ List.mem_cons_self)) h3⟩
   rcases h2 p hp with h | h
   ·rcases List.mem_cons.1 h with rfl | h
    ·exact .inr hr
    ·exact .inl h
   ·exact .inr h
  ·rename_i hr
   obtain ⟨e, he, h⟩ := lookK_out h
   obtain ⟨m', hK, h1, h2, h3⟩ := refsK_out (A := A) (l := l) h
   exact ⟨m', hK, h1, h2, .cons (.rowKept (memB_false hr) he) h3⟩
 | .ep r i off :: l, m, K, h => by
  simp only [refsK] at h
  split at h
  ·rename_i hr
   have hr := memB_true hr
   obtain ⟨m', hK, h1, h2, h3⟩ := refsK_out (A := A) (l := l) h
   refine ⟨m', hK, fun p hp => h1 p (List.mem_cons_of_mem _ hp), fun p hp => ?_, .cons (.epIn hr (h1 _ List.mem_cons_self)) h3⟩
   rcases h2 p hp with h | h
   ·rcases List.mem_cons.1 h with rfl | h
    ·exact .inr hr
    ·exact .inl h
   ·exact .inr h
  ·rename_i hr
   obtain ⟨e, he, h⟩ := lookK_out h
   obtain ⟨m', hK, h1, h2, h3⟩ := refsK_out (A := A) (l := l) h
   exact ⟨m', hK, h1, h2, .cons (.epKept (memB_false hr) he) h3⟩
 | .ptr k off :: l, m, K, h => by
  simp only [refsK] at h
  split at h
  ·rename_i hr
   obtain ⟨m', hK, h1, h2, h3⟩ := refsK_out (A := A) (l := l) h
   exact ⟨m', hK, h1, h2, .cons (.ptr (.inl (memB_true hr))) h3⟩
  ·obtain ⟨e, he, h⟩ := lookK_out h
   obtain ⟨m', hK, h1, h2, h3⟩ := refsK_out (A := A) (l := l) h
   exact ⟨m', hK, h1, h2, .cons (.ptr (.inr ⟨e, he⟩)) h3⟩

def Grow (kp : Keep) (A : Sides) (m : RMap) (A' : Sides) (m' : RMap) : Prop := (∀ p ∈ A, p ∈ A') ∧ (∀ p ∈ m, p ∈ m') ∧ (∀ p ∈ m', p ∈ m ∨ p.1 ∈ kp.rk)

theorem Grow.refl (kp : Keep) (A : Sides) (m : RMap) : Grow kp A m A m := ⟨fun _ h => h, fun _ h => h, fun _ h => .inl h⟩
theorem Grow.trans {kp : Keep} {A B C : Sides} {m n o : RMap} (h : Grow kp A m B n) (k : Grow kp B n C o) : Grow kp A m C o :=
 ⟨fun p hp => k.1 p (h.1 p hp), fun p hp => k.2.1 p (h.2.1 p hp), fun p hp => (k.2.2 p hp).elim (fun h' => h.2.2 p h') .inr⟩

theorem matK_out {kp : Keep} {A : Sides} {m : RMap} {x y : SC} {K : Sides → RMap → Prop} (h : matK kp A m x y K) : ∃ A' m', K A' m' ∧ Grow kp A m A' m' ∧ CM kp A' m' x y := by
 unfold matK at h
 split at h
 ·exact ⟨_, _, h, ⟨fun p hp => List.mem_cons_of_mem _ hp, fun p hp => hp, fun p hp => .inl hp⟩, .leaf fun hs => by rw [hs.head]⟩
 ·exact ⟨_, _, h, ⟨fun p hp => List.mem_cons_of_mem _ hp, fun p hp => hp, fun p hp => .inl hp⟩, .leaf fun hs => by rw [hs.head]⟩
 ·exact ⟨_, _, h, ⟨fun p hp => List.mem_cons_of_mem _ hp, fun p hp => hp, fun p hp => .inl hp⟩, .leaf fun hs => by rw [hs.head]⟩
 ·exact ⟨_, _, h, ⟨fun p hp => List.mem_cons_of_mem _ hp, fun p hp => hp, fun p hp => .inl hp⟩, .leaf fun hs => by rw [hs.head]⟩
 ·exact ⟨_, _, h, .refl _ _ _, .nil⟩
 ·rename_i r s
  split at h
  ·rename_i hr
   have hr := memB_true hr
   exact ⟨_, _, h, ⟨fun p hp => hp, fun p hp => List.mem_cons_of_mem _ hp, fun p hp => (List.mem_cons.1 hp).elim (fun e => .inr (e ▸ hr)) .inl⟩, .rowIn hr List.mem_cons_self⟩
  ·rename_i hr
   split at h
   ·rename_i hb
    obtain rfl := beq_true hb
    obtain ⟨e, he, h⟩ := lookK_out h
    exact ⟨_, _, h, .refl _ _ _, .rowKept (memB_false hr) he⟩
   ·exact h.elim
 ·split at h
  ·rename_i hr
   have hr := memB_true hr
   exact ⟨_, _, h, ⟨fun p hp => hp, fun p hp => List.mem_cons_of_mem _ hp, fun p hp => (List.mem_cons.1 hp).elim (fun e => .inr (e ▸ hr)) .inl⟩, .rowNil hr List.mem_cons_self⟩
  ·exact h.elim
 ·split at h
  ·rename_i h1 h2
   obtain rfl := beq_true h1
   obtain rfl := beq_true h2
   split at h
   ·rename_i hk
    exact ⟨_, _, h, .refl _ _ _, .ptr (.inl (memB_true hk))⟩
   ·obtain ⟨e, he, h⟩ := lookK_out h
    exact ⟨_, _, h, .refl _ _ _, .ptr (.inr ⟨e, he⟩)⟩
  ·exact h.elim
 ·exact h.elim

theorem matsK_out {kp : Keep} : ∀ {l r : List SC} {A : Sides} {m : RMap} {K : Sides → RMap → Prop}, matsK kp l r A m K → ∃ A' m', K A' m' ∧ Grow kp A m A' m' ∧ CMs kp A' m' l r
 | [], [], A, m, K, h => ⟨A, m, h, .refl _ _ _, .nil⟩
 | x :: l, y :: r, A, m, K, h => by
  obtain ⟨A1, m1, h1, g1, c1⟩ := matK_out h
  obtain ⟨A2, m2, h2, g2, c2⟩ := matsK_out h1
  exact ⟨A2, m2, h2, g1.trans g2, .cons (c1.mono g2.1 g2.2.1) c2⟩
 | [], _ :: _, A, m, K, h => h.elim
 | _ :: _, [], A, m, K, h => h.elim

inductive VM (kp : Keep) (A : Sides) (m : RMap) : SV → SV → Prop where
 | any {y : SV} : VM kp A m .any y
 | c {x y : SC} : CM kp A m x y → VM kp A m (.a (.c x)) (.a (.c y))
 | agg {l r : List SC} : CMs kp A m l r → VM kp A m (.a (.agg l)) (.a (.agg r))
 | same {x : SA} {y : SV} : (Sd A → y = .a x) → CMs kp A m x.cs x.cs → VM kp A m (.a x) y

theorem VM.mono {kp : Keep} {A A' : Sides} {m m' : RMap} {x y : SV} (h : VM kp A m x y) (hA : ∀ p ∈ A, p ∈ A') (hm : ∀ p ∈ m, p ∈ m') : VM kp A' m' x y := by
 cases h with
 | any => exact .any
 | c h => exact .c (h.mono hA hm)
 | agg h => exact .agg (h.mono hA hm)
 | same h k => exact .same (fun hs => h (hs.mono hA)) (k.mono hA hm)

theorem matVK_out {kp : Keep} {A : Sides} {m : RMap} {x y : SV} {K : Sides → RMap → Prop} (h : matVK kp A m x y K) : ∃ A' m', K A' m' ∧ Grow kp A m A' m' ∧ VM kp A' m' x y := by
 unfold matVK at h
 split at h
 ·exact ⟨_, _, h, .refl _ _ _, .any⟩
 ·obtain ⟨A', m', hK, g, c⟩ := matK_out h
  exact ⟨A', m', hK, g, .c c⟩
 ·obtain ⟨A', m', hK, g, c⟩ := matsK_out h
  exact ⟨A', m', hK, g, .agg c⟩
 ·exact h.elim

theorem matSlotsK_out {kp : Keep} {vs : List SV} : ∀ {l : List Nat} {r : List SV} {A : Sides} {m : RMap} {K : Sides → RMap → Prop}, matSlotsK kp vs l r A m K →
  ∃ A' m', K A' m' ∧ Grow kp A m A' m' ∧ ∀ (j i : Nat) (x : SV), l[j]? = some i → r[j]? = some x → ∃ y, vs[i]? = some y ∧ VM kp A' m' x y
 | [], [], A, m, K, h => ⟨A, m, h, .refl _ _ _, fun j i x hj => by simp at hj⟩
 | i :: l, x :: r, A, m, K, h => by
  obtain ⟨y, hy, h⟩ := getK_out h
  obtain ⟨A1, m1, h1, g1, c1⟩ := matVK_out h
  obtain ⟨A2, m2, h2, g2, c2⟩ := matSlotsK_out h1
  refine ⟨A2, m2, h2, g1.trans g2, fun j i' x' hj hx => ?_⟩
  cases j with
  | zero =>
   obtain rfl : i = i' := by simpa using hj
   obtain rfl : x = x' := by simpa using hx
   exact ⟨y, hy, c1.mono g2.1 g2.2.1⟩
  | succ j => exact c2 j i' x' (by simpa using hj) (by simpa using hx)
 | [], _ :: _, A, m, K, h => h.elim
 | _ :: _, [], A, m, K, h => h.elim

theorem matKeptK_out {kp : Keep} : ∀ {l r : List SV} {A : Sides} {m : RMap} {K : Sides → RMap → Prop}, matKeptK kp l r A m K →
  ∃ A' m', K A' m' ∧ Grow kp A m A' m' ∧ l.length = r.length ∧ ∀ (i : Nat) (x y : SV), l[i]? = some x → r[i]? = some y → VM kp A' m' x y
 | [], [], A, m, K, h => ⟨A, m, h, .refl _ _ _, rfl, fun i x y hx => by simp at hx⟩
 | .any :: l, y :: r, A, m, K, h => by
  obtain ⟨A1, m1, h1, g1, hl, c1⟩ := matKeptK_out (l := l) (r := r) h
  refine ⟨A1, m1, h1, g1, by simp [hl], fun i x y' hx hy => ?_⟩
  cases i with
  | zero =>
   obtain rfl : SV.any = x := by simpa using hx
   exact .any
  | succ i => exact c1 i x y' (by simpa using hx) (by simpa using hy)
 | .a x :: l, y :: r, A, m, K, h => by
  obtain ⟨m1, h1, g1, g2, c1⟩ := refsK_out (A := (y = .a x) :: A) h
  obtain ⟨A2, m2, h2, g3, hl, c2⟩ := matKeptK_out h1
  refine ⟨A2, m2, h2, ⟨fun p hp => g3.1 p (List.mem_cons_of_mem _ hp), fun p hp => g3.2.1 p (g1 p hp), fun p hp => (g3.2.2 p hp).elim (g2 p) .inr⟩, by simp [hl], fun i x' y' hx hy => ?_⟩
  cases i with
  | zero =>
   obtain rfl : SV.a x = x' := by simpa using hx
   obtain rfl : y = y' := by simpa using hy
   exact .same (fun hs => hs _ (g3.1 _ List.mem_cons_self)) (c1.mono g3.1 g3.2.1)
  | succ i => exact c2 i x' y' (by simpa using hx) (by simpa using hy)
 | .grd _ _ :: _, _ :: _, A, m, K, h => h.elim
 | .tup _ :: _, _ :: _, A, m, K, h => h.elim
 | [], _ :: _, A, m, K, h => h.elim
 | .any :: _, [], A, m, K, h => h.elim
 | .a _ :: _, [], A, m, K, h => h.elim
 | .grd _ _ :: _, [], A, m, K, h => h.elim
 | .tup _ :: _, [], A, m, K, h => h.elim

theorem matBlksK_out {kp : Keep} {bs0 bs : List (Nat × Blk)} : ∀ {l : List Nat} {r : List (List SC)} {A : Sides} {m : RMap} {K : Sides → RMap → Prop}, matBlksK kp bs0 bs l r A m K →
  ∃ A' m', K A' m' ∧ Grow kp A m A' m' ∧ ∀ (j k : Nat) (cs : List SC), l[j]? = some k → r[j]? = some cs → ∃ t c0 cs', find bs0 k = some ⟨t, c0⟩ ∧ find bs k = some ⟨t, cs'⟩ ∧ CMs kp A' m' cs cs'
 | [], [], A, m, K, h => ⟨A, m, h, .refl _ _ _, fun j i x hj => by simp at hj⟩
 | k :: l, cs :: r, A, m, K, h => by
  obtain ⟨⟨t0, c0⟩, hb0, h⟩ := lookK_out h
  obtain ⟨⟨t, c⟩, hb, h⟩ := lookK_out h
  dsimp only at h
  split at h
  ·rename_i ht
   have ht := beq_true ht
   obtain ⟨A1, m1, h1, g1, c1⟩ := matsK_out h
   obtain ⟨A2, m2, h2, g2, c2⟩ := matBlksK_out h1
   refine ⟨A2, m2, h2, g1.trans g2, fun j k' cs' hj hc => ?_⟩
   cases j with
   | zero =>
    obtain rfl : k = k' := by simpa using hj
    obtain rfl : cs = cs' := by simpa using hc
    exact ⟨t0, c0, c, hb0, by rw [hb, ht], c1.mono g2.1 g2.2.1⟩
   | succ j => exact c2 j k' cs' (by simpa using hj) (by simpa using hc)
  ·exact h.elim
 | [], _ :: _, A, m, K, h => h.elim
 | _ :: _, [], A, m, K, h => h.elim

theorem keptBlksK_out {kp : Keep} {bs : List (Nat × Blk)} : ∀ {l : List (Nat × Blk)} {A : Sides} {m : RMap} {K : Sides → RMap → Prop}, keptBlksK kp bs l A m K →
  ∃ A' m', K A' m' ∧ Grow kp A m A' m' ∧ ∀ (k : Nat) (b : Blk), (k, b) ∈ l → (Sd A' → find bs k = some b) ∧ CMs kp A' m' b.cs b.cs
 | [], A, m, K, h => ⟨A, m, h, .refl _ _ _, fun k b hk => by cases hk⟩
 | (k, ⟨t0, cs⟩) :: l, A, m, K, h => by
  obtain ⟨⟨t, c⟩, hb, h⟩ := lookK_out h
  dsimp only at h
  split at h
  ·rename_i ht
   have ht := beq_true ht
   obtain ⟨m1, h1, g1, g2, c1⟩ := refsK_out (A := (c = cs) :: A) h
   obtain ⟨A2, m2, h2, g3, c2⟩ := keptBlksK_out h1
   refine ⟨A2, m2, h2, ⟨fun p hp => g3.1 p (List.mem_cons_of_mem _ hp), fun p hp => g3.2.1 p (g1 p hp), fun p hp => (g3.2.2 p hp).elim (g2 p) .inr⟩, fun k' b hk => ?_⟩
   rcases List.mem_cons.1 hk with hk | hk
   ·cases hk
    refine ⟨fun hs => ?_, c1.mono g3.1 g3.2.1⟩
    have := hs _ (g3.1 _ List.mem_cons_self)
    rw [hb, ht, this]
   ·exact c2 k' b hk
  ·exact h.elim

def st (m : RMap) (r : Nat) : Option Nat :=
 match find m r with
 | some s => s
 | none => some r

theorem standsK_out : ∀ {m : RMap} {r : Nat} {K : Option Nat → Prop}, standsK m r K → K (st m r)
 | [], r, K, h => h
 | (r', s) :: m, r, K, h => by
  simp only [standsK] at h
  split at h
  ·rename_i hb
   simpa [st, find, beq_true hb] using h
  ·rename_i hb
   have := standsK_out h
   simpa [st, find, beq_false hb] using this

theorem sameStand_out : ∀ {m : RMap} {r : Nat} {t : Option Nat}, sameStand m r t = true → ∀ s, (r, s) ∈ m → s = t
 | [], r, t, h, s, hs => by cases hs
 | (r', s') :: m, r, t, h, s, hs => by
  simp only [sameStand] at h
  split at h
  ·split at h
   ·split at h
    ·rename_i hb
     rcases List.mem_cons.1 hs with e | hs
     ·cases e; rw [beq_true hb]
     ·exact sameStand_out h s hs
    ·cases h
   ·rcases List.mem_cons.1 hs with e | hs
    ·cases e; rfl
    ·exact sameStand_out h s hs
   ·cases h
  ·rename_i hb
   rcases List.mem_cons.1 hs with e | hs
   ·cases e; exact (beq_false hb rfl).elim
   ·exact sameStand_out h s hs

theorem fixedK_out {F : List Nat} {r : Nat} {s : Option Nat} {K : Prop} (h : fixedK F r s K) : K ∧ (r ∈ F → s = some r) := by
 unfold fixedK at h
 split at h
 ·rename_i hm
  exact ⟨h, fun hr => (memB_false hm hr).elim⟩
 ·split at h
  ·split at h
   ·rename_i hb
    exact ⟨h, fun _ => by rw [beq_true hb]⟩
   ·exact h.elim
  ·exact h.elim

inductive Weak : Row → Row → Prop where
 | same (x : Row) : Weak x x
 | part (t : ETy) (xs : List t.T) : Weak ⟨t, xs, true, none⟩ ⟨t, xs, true, some true⟩
theorem Weak.live {y x : Row} (h : Weak y x) (hl : x.live) : y.live := by
 cases h with
 | same => exact hl
 | part => exact Row.live_none
theorem Weak.own {y x : Row} (h : Weak y x) : y.own = x.own := by
 cases h <;> rfl
theorem Weak.len {y x : Row} (h : Weak y x) : y.xs.length = x.xs.length := by
 cases h <;> rfl
theorem Weak.tn {y x : Row} (h : Weak y x) : y.t = x.t := by
 cases h <;> rfl
theorem Weak.ok {E : Env} {w : World} {a : Option Addr} {c : Nat} {y x : Row} (h : Weak y x) (hr : RowOk E w a c y) : RowOk E w a c x := by
 cases h with
 | same => exact hr
 | part t xs => exact fun _ => OwnR.rd (E := E) (hr Row.live_none)

structure RM (E : Env) (rs : List (Nat × Option Row)) (s : Option Nat) (x : Row) : Prop where
 sm : ∀ q, s = some q → ∃ y, find rs q = some (some y) ∧ Weak y x
 nn : s = none → x.xs = [] ∧ ∃ e, E.eid x.t = some e

theorem row_eq {t t' : ETy} {xs : List t.T} {ys : List t'.T} {zs : List t.T} {own : Bool} (h : castRow t' t ys = some zs) (e : zs = xs) : (⟨t', ys, own, none⟩ : Row) = ⟨t, xs, own, none⟩ := by
 obtain ⟨rfl, hh⟩ := castRow_out h
 obtain rfl := eq_of_heq hh
 rw [e]

theorem matRowsK_out {E : Env} {F : List Nat} {rs : List (Nat × Option Row)} {m : RMap} : ∀ {l : List Nat} {q : List Row} {A : Sides} {T : List Nat} {K : Sides → List Nat → Prop}, matRowsK E F rs m l q A T K →
  ∃ A' T', K A' T' ∧ (∀ p ∈ A, p ∈ A') ∧ T' = (l.filterMap (st m)).reverse ++ T ∧ (∀ r ∈ l, (r ∈ F → st m r = some r) ∧ ∀ s, (r, s) ∈ m → s = st m r) ∧
   ∀ (j r : Nat) (x : Row), l[j]? = some r → q[j]? = some x → Sd A' → RM E rs (st m r) x
 | [], [], A, T, K, h => ⟨A, T, h, fun p hp => hp, rfl, fun r hr => (by cases hr), fun j r x hj => (by simp at hj)⟩
 | r :: l, ⟨t, xs, own, none⟩ :: q, A, T, K, h => by
  have h := standsK_out h
  obtain ⟨h, hF⟩ := fixedK_out h
  split at h
  ·rename_i hss
   have hss := sameStand_out hss
   generalize hst : st m r = s at h hF hss
   cases s with
   | none =>
    dsimp only at h
    split at h
    ·rename_i e he
     obtain ⟨A', T', hK, s1, hT, h1, h2⟩ := matRowsK_out h
     refine ⟨A', T', hK, fun p hp => s1 p (List.mem_cons_of_mem _ hp), by rw [hT]; simp [hst], fun r' hr' => ?_, fun j r' x hj hx hs => ?_⟩
     ·rcases List.mem_cons.1 hr' with rfl | hr'
      ·exact ⟨fun h => by rw [hst]; exact hF h, fun s hs => by rw [hst]; exact hss s hs⟩
      ·exact h1 r' hr'
     ·cases j with
      | zero =>
       obtain rfl : r = r' := by simpa using hj
       obtain rfl : (⟨t, xs, own, none⟩ : Row) = x := by simpa using hx
       rw [hst]
       exact ⟨fun q hq => (by cases hq), fun _ => ⟨hs _ (s1 _ List.mem_cons_self), e, he⟩⟩
      | succ j => exact h2 j r' x (by simpa using hj) (by simpa using hx) hs
    ·exact h.elim
   | some s =>
    dsimp only at h
    obtain ⟨z, hz, h⟩ := lookK_out h
    split at h
    ·rename_i t' ys own'
     have main : ∀ (ys' : List t.T), castRow t' t ys = some ys' → own' = own → matRowsK E F rs m l q ((ys' = xs) :: A) (s :: T) K → ∃ A' T', K A' T' ∧ (∀ p ∈ A, p ∈ A') ∧ T' = ((r :: l).filterMap (st m)).reverse ++ T ∧ (∀ r' ∈ r :: l, (r' ∈ F → st m r' = some r') ∧ ∀ s, (r', s) ∈ m → s = st m r') ∧
       ∀ (j r' : Nat) (x : Row), (r :: l)[j]? = some r' → ((⟨t, xs, own, none⟩ : Row) :: q)[j]? = some x → Sd A' → RM E rs (st m r') x := by
      intro ys' hc ho h
      obtain ⟨A', T', hK, s1, hT, h1, h2⟩ := matRowsK_out h
      refine ⟨A', T', hK, fun p hp => s1 p (List.mem_cons_of_mem _ hp), by rw [hT]; simp [hst], fun r' hr' => ?_, fun j r' x hj hx hs => ?_⟩
      ·rcases List.mem_cons.1 hr' with rfl | hr'
       ·exact ⟨fun h => by rw [hst]; exact hF h, fun s hs => by rw [hst]; exact hss s hs⟩
       ·exact h1 r' hr'
      ·cases j with
       | zero =>
        obtain rfl : r = r' := by simpa using hj
        obtain rfl : (⟨t, xs, own, none⟩ : Row) = x := by simpa using hx
        rw [hst]
        refine ⟨fun q hq => ?_, fun hn => by cases hn⟩
        obtain rfl := Option.some.inj hq
        rw [hz, ho, row_eq hc (hs _ (s1 _ List.mem_cons_self))]
        exact ⟨_, rfl, .same _⟩
       | succ j => exact h2 j r' x (by simpa using hj) (by simpa using hx) hs
     split at h
     ·exact main _ (by assumption) rfl h
     ·exact main _ (by assumption) rfl h
     ·exact h.elim
    ·exact h.elim
  ·exact h.elim
 | r :: l, ⟨t, xs, true, some true⟩ :: q, A, T, K, h => by
  have h := standsK_out h
  obtain ⟨h, hF⟩ := fixedK_out h
  split at h
  ·rename_i hss
   have hss := sameStand_out hss
   generalize hst : st m r = s at h hF hss
   cases s with
   | none =>
    dsimp only at h
    split at h
    ·rename_i e he
     obtain ⟨A', T', hK, s1, hT, h1, h2⟩ := matRowsK_out h
     refine ⟨A', T', hK, fun p hp => s1 p (List.mem_cons_of_mem _ hp), by rw [hT]; simp [hst], fun r' hr' => ?_, fun j r' x hj hx hs => ?_⟩
     ·rcases List.mem_cons.1 hr' with rfl | hr'
      ·exact ⟨fun h => by rw [hst]; exact hF h, fun s hs => by rw [hst]; exact hss s hs⟩
      ·exact h1 r' hr'
     ·cases j with
      | zero =>
       obtain rfl : r = r' := by simpa using hj
       obtain rfl : (⟨t, xs, true, some true⟩ : Row) = x := by simpa using hx
       rw [hst]
       exact ⟨fun q hq => (by cases hq), fun _ => ⟨hs _ (s1 _ List.mem_cons_self), e, he⟩⟩
      | succ j => exact h2 j r' x (by simpa using hj) (by simpa using hx) hs
    ·exact h.elim
   | some s =>
    dsimp only at h
    obtain ⟨z, hz, h⟩ := lookK_out h
    have main : ∀ (t' : ETy) (ys : List t'.T) (g : Option Bool) (ys' : List t.T), z = some ⟨t', ys, true, g⟩ → (g = none ∨ g = some true) → castRow t' t ys = some ys' → matRowsK E F rs m l q ((ys' = xs) :: A) (s :: T) K → ∃ A' T', K A' T' ∧ (∀ p ∈ A, p ∈ A') ∧ T' = ((r :: l).filterMap (st m)).reverse ++ T ∧ (∀ r' ∈ r :: l, (r' ∈ F → st m r' = some r') ∧ ∀ s, (r', s) ∈ m → s = st m r') ∧
      ∀ (j r' : Nat) (x : Row), (r :: l)[j]? = some r' → ((⟨t, xs, true, some true⟩ : Row) :: q)[j]? = some x → Sd A' → RM E rs (st m r') x := by
     intro t' ys g ys' hzz hg hc h
     obtain ⟨A', T', hK, s1, hT, h1, h2⟩ := matRowsK_out h
     refine ⟨A', T', hK, fun p hp => s1 p (List.mem_cons_of_mem _ hp), by rw [hT]; simp [hst], fun r' hr' => ?_, fun j r' x hj hx hs => ?_⟩
     ·rcases List.mem_cons.1 hr' with rfl | hr'
      ·exact ⟨fun h => by rw [hst]; exact hF h, fun s hs => by rw [hst]; exact hss s hs⟩
      ·exact h1 r' hr'
     ·cases j with
      | zero =>
       obtain rfl : r = r' := by simpa using hj
       obtain rfl : (⟨t, xs, true, some true⟩ : Row) = x := by simpa using hx
       rw [hst]
       refine ⟨fun q hq => ?_, fun hn => by cases hn⟩
       obtain rfl := Option.some.inj hq
       have he := hs _ (s1 _ List.mem_cons_self)
       obtain ⟨rfl, hh⟩ := castRow_out hc
       obtain rfl := eq_of_heq hh
       subst he
       rw [hz, hzz]
       rcases hg with rfl | rfl
       ·exact ⟨_, rfl, .part _ _⟩
       ·exact ⟨_, rfl, .same _⟩
      | succ j => exact h2 j r' x (by simpa using hj) (by simpa using hx) hs
    split at h
    ·split at h
     ·exact main _ _ none _ rfl (.inl rfl) (by assumption) h
     ·exact h.elim
    ·split at h
     ·exact main _ _ (some true) _ rfl (.inr rfl) (by assumption) h
     ·exact h.elim
    ·exact h.elim
  ·exact h.elim
 | [], _ :: _, A, T, K, h => h.elim
 | _ :: _, [], A, T, K, h => h.elim
 | _ :: _, ⟨_, _, false, some true⟩ :: _, A, T, K, h => h.elim
 | _ :: _, ⟨_, _, false, some false⟩ :: _, A, T, K, h => h.elim
 | _ :: _, ⟨_, _, true, some false⟩ :: _, A, T, K, h => h.elim

theorem keptRowsK_out {rs : List (Nat × Option Row)} : ∀ {l : List (Nat × Option Row)} {A : Sides} {T : List Nat} {K : Sides → List Nat → Prop}, keptRowsK rs l A T K →
  ∃ A' T', K A' T' ∧ (∀ p ∈ A, p ∈ A') ∧ T' = (l.filterMap fun p => p.2.map fun _ => p.1).reverse ++ T ∧ ∀ (r : Nat) (x : Row), (r, some x) ∈ l → Sd A' → x.g = none ∧ find rs r = some (some x)
 | [], A, T, K, h => ⟨A, T, h, fun p hp => hp, rfl, fun r x hr => by cases hr⟩
 | (r, none) :: l, A, T, K, h => by
  obtain ⟨A', T', hK, s1, hT, h1⟩ := keptRowsK_out (l := l) h
  refine ⟨A', T', hK, s1, by rw [hT]; simp, fun r' x hr hs => ?_⟩
  rcases List.mem_cons.1 hr with e | hr
  ·cases e
  ·exact h1 r' x hr hs
 | (r, some ⟨t, xs, own, none⟩) :: l, A, T, K, h => by
  obtain ⟨z, hz, h⟩ := lookK_out h
  split at h
  ·rename_i t' ys own'
   have main : ∀ (ys' : List t.T), castRow t' t ys = some ys' → own' = own → keptRowsK rs l ((ys' = xs) :: A) (r :: T) K → ∃ A' T', K A' T' ∧ (∀ p ∈ A, p ∈ A') ∧ T' = (((r, some (⟨t, xs, own, none⟩ : Row)) :: l).filterMap fun p => p.2.map fun _ => p.1).reverse ++ T ∧ ∀ (r' : Nat) (x : Row), (r', some x) ∈ (r, some (⟨t, xs, own, none⟩ : Row)) :: l → Sd A' → x.g = none ∧ find rs r' = some (some x) := by
    intro ys' hc ho h
    obtain ⟨A', T', hK, s1, hT, h1⟩ := keptRowsK_out h
    refine ⟨A', T', hK, fun p hp => s1 p (List.mem_cons_of_mem _ hp), by rw [hT]; simp, fun r' x hr hs => ?_⟩
    rcases List.mem_cons.1 hr with e | hr
    ·cases e
     exact ⟨rfl, by rw [hz, ho, row_eq hc (hs _ (s1 _ List.mem_cons_self))]⟩
    ·exact h1 r' x hr hs
   split at h
   ·exact main _ (by assumption) rfl h
   ·exact main _ (by assumption) rfl h
   ·exact h.elim
  ·exact h.elim
 | (_, some ⟨_, _, _, some _⟩) :: _, A, T, K, h => h.elim
end Go.Eng

