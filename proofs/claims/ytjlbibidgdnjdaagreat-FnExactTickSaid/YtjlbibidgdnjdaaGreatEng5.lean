/- The symbolic executor over the model of Go, with its proof; part 5. It speaks of no law by itself. -/
import Derived.Test.YtjlbibidgdnjdaaGreatEng4
import GoSem.ClaimChange
set_option linter.unusedVariables false
set_option linter.unusedSimpArgs false
namespace Go.Eng
open Go.RowKit

def usOf (w : World) : Value → List Value
  | .pointer (some ad) => match w.heap[ad.block]? with
    | some (.cells cs _ _) => cs.toList
    | _ => []
  | .agg us => us.toList
  | v => [v]

def gOf : Value → Nat
  | .pointer (some ad) => ad.block
  | _ => 0

def tyOf (w : World) : Value → TypeId
  | .pointer (some ad) => match w.heap[ad.block]? with
    | some (.cells _ t _) => t
    | _ => 0
  | _ => 0

def startV (i : Nat) : (ts : List ATy) → List Mode → denA ts → List SV
  | t :: ts, m :: ms, (d, ds) => (match m with | .ref => .a (.c (.ptr i 0)) | _ => .a (shapeA t.agg (outC (i * 64) t.cts (t.to d)))) :: startV (i + 1) ts ms ds
  | _, _, _ => []

def startB (ty : Nat → TypeId) (i : Nat) : (ts : List ATy) → List Mode → denA ts → List (Nat × Blk)
  | t :: ts, m :: ms, (d, ds) => match m with
    | .ref => (i, ⟨ty i, outC (i * 64) t.cts (t.to d)⟩) :: startB ty (i + 1) ts ms ds
    | _ => startB ty (i + 1) ts ms ds
  | _, _, _ => []

def setOwn (own : Bool) (rw : List (Nat × Row)) : List (Nat × Option Row) := rw.map fun p => (p.1, some ⟨p.2.t, p.2.xs, own, p.2.g⟩)

def startR (i : Nat) : (ts : List ATy) → List Mode → denA ts → List (Nat × Option Row)
  | t :: ts, m :: ms, (d, ds) => setOwn (ownB m) (outR none (i * 64) t.cts (t.to d)) ++ startR (i + 1) ts ms ds
  | _, _, _ => []

theorem roRows_eq : ∀ (rw : List (Nat × Row)) (rs : List (Nat × Option Row)), startK.roRows rw rs = setOwn false rw ++ rs
  | [], rs => rfl
  | (r, ⟨t, xs, o, g⟩) :: l, rs => by simp [startK.roRows, setOwn, roRows_eq l rs]

theorem ownRows_eq : ∀ (rw : List (Nat × Row)) (rs : List (Nat × Option Row)), (∀ p ∈ rw, p.2.own = true) → startK.ownRows' rw rs = setOwn true rw ++ rs
  | [], rs, _ => rfl
  | (r, ⟨t, xs, o, g⟩) :: l, rs, h => by
    have : o = true := h _ List.mem_cons_self
    subst this
    simp only [startK.ownRows', setOwn, List.map_cons, List.cons_append]
    rw [ownRows_eq l rs fun p hp => h p (List.mem_cons_of_mem _ hp)]
    rfl

theorem startK_out {ty : Nat → TypeId} : ∀ {ts : List ATy} {ms : List Mode} {i : Nat} {d : denA ts} {K : List SV → List (Nat × Blk) → List (Nat × Option Row) → Prop}, startK i ts ms ty d K →
    ts.length = ms.length ∧ K (startV i ts ms d) (startB ty i ts ms d) (startR i ts ms d)
  | [], [], i, d, K, h => ⟨rfl, h⟩
  | t :: ts, m :: ms, i, (d, ds), K, h => by
    have h1 := outK_out h
    obtain ⟨hl, h2⟩ := startK_out h1
    refine ⟨by simp [hl], ?_⟩
    have hown : ∀ p ∈ outR none (i * 64) t.cts (t.to d), p.2.own = true := fun p hp => (outR_g (r := p.1) (x := p.2) hp).2
    have shape : ∀ (cs : List SC) (Q : SV → Prop), (match t.agg, cs with | true, cs => Q (.a (.agg cs)) | false, [x] => Q (.a (.c x)) | _, _ => False) → Q (.a (shapeA t.agg cs)) := fun cs Q hq => by
      split at hq
      · rename_i e; rw [e]; exact hq
      · rename_i e; rw [e]; exact hq
      · exact hq.elim
    cases m with
    | ref => rw [roRows_eq] at h2; exact h2
    | ro =>
      refine shape _ (fun v => K (v :: startV (i + 1) ts ms ds) (startB ty (i + 1) ts ms ds) (setOwn false (outR none (i * 64) t.cts (t.to d)) ++ startR (i + 1) ts ms ds)) ?_
      dsimp only at h2
      rw [roRows_eq] at h2
      exact h2
    | own =>
      refine shape _ (fun v => K (v :: startV (i + 1) ts ms ds) (startB ty (i + 1) ts ms ds) (setOwn true (outR none (i * 64) t.cts (t.to d)) ++ startR (i + 1) ts ms ds)) ?_
      dsimp only at h2
      rw [ownRows_eq _ _ (show ∀ p ∈ outR none (Nat.mul i 64) t.cts (t.to d), p.2.own = true from hown)] at h2
      exact h2
    | «mut» =>
      refine shape _ (fun v => K (v :: startV (i + 1) ts ms ds) (startB ty (i + 1) ts ms ds) (setOwn true (outR none (i * 64) t.cts (t.to d)) ++ startR (i + 1) ts ms ds)) ?_
      dsimp only at h2
      rw [ownRows_eq _ _ (show ∀ p ∈ outR none (Nat.mul i 64) t.cts (t.to d), p.2.own = true from hown)] at h2
      exact h2
  | [], _ :: _, i, d, K, h => h.elim
  | _ :: _, [], i, d, K, h => h.elim

theorem usOf_shape {E : Env} {w : World} {own : Bool} {agg : Bool} {cts : List CT} {d : denC cts} {us : List Value} {B : List Nat} {v : Value} (hs : shapeV agg v us) (h : HC E w own cts d us B) : usOf w v = us := by
  cases agg with
  | true => obtain rfl : v = .agg us.toArray := hs; simp [usOf]
  | false =>
    obtain rfl : us = [v] := hs
    cases cts with
    | nil => cases h.1
    | cons c cts =>
      cases c with
      | leaf l =>
        obtain ⟨d, ds⟩ := d
        obtain ⟨us', e, _⟩ := h
        cases e
        cases l <;> rfl
      | row t =>
        obtain ⟨d, ds⟩ := d
        obtain ⟨a, c, us', B', e, _⟩ := h
        cases e
        rfl

/-- The rows of a state that are own, and those that are not. -/
def ownKeys (rs : List (Nat × Option Row)) : List Nat := rs.filterMap fun p => match p.2 with | some x => if x.own then some p.1 else none | none => none
def roKeys (rs : List (Nat × Option Row)) : List Nat := rs.filterMap fun p => match p.2 with | some x => if x.own then none else some p.1 | none => none

theorem ownKeys_set (own : Bool) (rw : List (Nat × Row)) : ownKeys (setOwn own rw) = if own then rw.map (·.1) else [] := by
  induction rw with
  | nil => cases own <;> rfl
  | cons p l ih =>
    cases own <;> simp_all [ownKeys, setOwn]

theorem roKeys_set (own : Bool) (rw : List (Nat × Row)) : roKeys (setOwn own rw) = if own then [] else rw.map (·.1) := by
  induction rw with
  | nil => cases own <;> rfl
  | cons p l ih =>
    cases own <;> simp_all [roKeys, setOwn]

theorem ownKeys_app (a b : List (Nat × Option Row)) : ownKeys (a ++ b) = ownKeys a ++ ownKeys b := by simp [ownKeys]
theorem roKeys_app (a b : List (Nat × Option Row)) : roKeys (a ++ b) = roKeys a ++ roKeys b := by simp [roKeys]

def mutRows : Nat → List ATy → List Mode → List Nat
  | i, t :: ts, m :: ms => match m with
    | .mut => rowPos (i * 64) t.cts ++ mutRows (i + 1) ts ms
    | _ => mutRows (i + 1) ts ms
  | _, _, _ => []

theorem rowPos_eq {g : Option Bool} : ∀ {cts : List CT} {b : Nat} {d : denC cts}, rowPos b cts = (outR g b cts d).map (·.1)
  | [], b, d => rfl
  | .leaf l :: cts, b, (d, ds) => rowPos_eq (cts := cts) (b := b + 1) (d := ds)
  | .row t :: cts, b, (d, ds) => by
    show b :: rowPos (b + 1) cts = b :: (outR g (b + 1) cts ds).map (·.1)
    rw [rowPos_eq (cts := cts) (b := b + 1) (d := ds)]

structure StartOk (E : Env) (w : World) (ty : Nat → TypeId) (ρ : Val) (i : Nat) (ts : List ATy) (ms : List Mode) (d : denA ts) (vs : List Value) (ro ow mu rf : List Nat) : Prop where
  len : (startV i ts ms d).length = vs.length
  slots : ∀ (L : LS), (∀ r e, (r, e) ∈ startR i ts ms d → L.r r = some e) → (∀ k b, (k, b) ∈ startB ty i ts ms d → L.b k = some b) → ∀ (j : Nat) (x : SV) (v : Value), (startV i ts ms d)[j]? = some x → vs[j]? = some v → SV.ok L ρ x v
  blks : ∀ k b, (k, b) ∈ startB ty i ts ms d → i ≤ k ∧ ∃ us, w.heap[ρ.bl k]? = some (.cells us b.t (0, 0)) ∧ ∀ (L : LS), (∀ r e, (r, e) ∈ startR i ts ms d → L.r r = some e) → Oks L ρ b.cs us.toList
  rows : ∀ r e, (r, e) ∈ startR i ts ms d → i * 64 ≤ r ∧ ∃ x, e = some x ∧ x.g = none ∧ rowAs E w x.own x (ρ.ra r) (ρ.rc r)
  rkeys : ((startR i ts ms d).map (·.1)).Nodup
  bkeys : ((startB ty i ts ms d).map (·.1)).Nodup
  own : (ow ++ mu).Perm ((ownKeys (startR i ts ms d)).filterMap (bk ρ))
  ro : ro = (roKeys (startR i ts ms d)).filterMap (bk ρ)
  rf : rf = ((startB ty i ts ms d).map (·.1)).map ρ.bl
  mu : ∀ g ∈ mu, ∃ r ∈ mutRows i ts ms, bk ρ r = some g

theorem start_ok {E : Env} {w : World} {ty : Nat → TypeId} {ρ : Val} : ∀ {ts : List ATy} {ms : List Mode} {i : Nat} {d : denA ts} {vs : List Value} {ro ow mu rf : List Nat}, HA E w ts ms d vs ro ow mu rf → (∀ t ∈ ts, t.cts.length ≤ 64) →
    (∀ (j : Nat) (v : Value), vs[j]? = some v → Knows ρ ((i + j) * 64) (usOf w v) ∧ ρ.bl (i + j) = gOf v ∧ ty (i + j) = tyOf w v) → StartOk E w ty ρ i ts ms d vs ro ow mu rf
  | [], [], i, d, vs, ro, ow, mu, rf, ⟨h1, h2, h3, h4, h5⟩, _, _ => by
    subst h1 h2 h3 h4 h5
    exact ⟨rfl, fun L _ _ j x v hx => (by simp [startV] at hx), fun k b hk => (by cases hk), fun r e hr => (by cases hr), List.nodup_nil, List.nodup_nil, List.Perm.nil, rfl, rfl, fun g hg => (by cases hg)⟩
  | t :: ts, m :: ms, i, (d, ds), vs, ro, ow, mu, rf, ⟨v, vs', us, B, e1, hc, hm⟩, h64, hk => by
    subst e1
    obtain ⟨hk0, hbl0, hty0⟩ := hk 0 v rfl
    rw [Nat.add_zero] at hk0 hbl0 hty0
    have hk' : ∀ (j : Nat) (u : Value), vs'[j]? = some u → Knows ρ ((i + 1 + j) * 64) (usOf w u) ∧ ρ.bl (i + 1 + j) = gOf u ∧ ty (i + 1 + j) = tyOf w u := fun j u hu => by
      have := hk (j + 1) u (by simpa using hu)
      rwa [show i + (j + 1) = i + 1 + j by omega] at this
    have h64' : ∀ t ∈ ts, t.cts.length ≤ 64 := fun t ht => h64 t (List.mem_cons_of_mem _ ht)
    have h640 := h64 t List.mem_cons_self
    obtain ⟨kb, kn⟩ := outR_keys (g := none) (cts := t.cts) (d := t.to d) (b := i * 64)
    -- what the first argument gives, once its cells are known
    have main : ∀ (ro' ow' mu' rf' : List Nat), usOf w v = us → StartOk E w ty ρ (i + 1) ts ms ds vs' ro' ow' mu' rf' →
        (∀ r e, (r, e) ∈ setOwn (ownB m) (outR none (i * 64) t.cts (t.to d)) → i * 64 ≤ r ∧ r < i * 64 + 64 ∧ ∃ x, e = some x ∧ x.g = none ∧ rowAs E w x.own x (ρ.ra r) (ρ.rc r)) ∧
        (∀ (L : LS), (∀ r e, (r, e) ∈ setOwn (ownB m) (outR none (i * 64) t.cts (t.to d)) → L.r r = some e) → Oks L ρ (outC (i * 64) t.cts (t.to d)) us) ∧
        B = ((outR none (i * 64) t.cts (t.to d)).map (·.1)).filterMap (bk ρ) ∧
        ((startR i (t :: ts) (m :: ms) (d, ds)).map (·.1)).Nodup := by
      intro ro' ow' mu' rf' hus hS
      rw [hus] at hk0
      have hsetk : (setOwn (ownB m) (outR none (i * 64) t.cts (t.to d))).map (·.1) = (outR none (i * 64) t.cts (t.to d)).map (·.1) := by simp [setOwn, Function.comp_def]
      refine ⟨fun r e hr => ?_, fun L hL => ?_, ?_, ?_⟩
      · obtain ⟨⟨r', x⟩, hx, e'⟩ := List.mem_map.1 hr
        simp only [Prod.mk.injEq] at e'
        obtain ⟨rfl, rfl⟩ := e'
        obtain ⟨j, a, c, h1, h2, h3, h4, h5, h6⟩ := hc.rows (g := none) (b := i * 64) _ x hx
        obtain ⟨k1, k2⟩ := hk0 j a _ c h3
        refine ⟨by omega, by omega, _, rfl, h4, ?_⟩
        rw [h1, k1, k2]
        exact h6
      · refine hc.oks (g := none) (fun r x hx => ⟨⟨x.t, x.xs, ownB m, x.g⟩, hL r _ (List.mem_map.2 ⟨(r, x), hx, rfl⟩), rfl⟩) hk0
      · rw [List.filterMap_map]
        exact hc.blocks (g := none) hk0
      · show ((setOwn (ownB m) (outR none (i * 64) t.cts (t.to d)) ++ startR (i + 1) ts ms ds).map (·.1)).Nodup
        rw [List.map_append, hsetk]
        refine List.nodup_append.2 ⟨kn, hS.rkeys, fun a ha b hb e => ?_⟩
        obtain ⟨⟨r, x⟩, hx, rfl⟩ := List.mem_map.1 ha
        obtain ⟨⟨r', x'⟩, hx', rfl⟩ := List.mem_map.1 hb
        have h1 := kb r x hx
        have h2 := (hS.rows r' x' hx').1
        simp only at e
        rw [Nat.add_mul] at h2
        omega
    have plain : ∀ (ro' ow' mu' rf' : List Nat), m ≠ .ref → shapeV t.agg v us → StartOk E w ty ρ (i + 1) ts ms ds vs' ro' ow' mu' rf' →
        ((ow ++ mu).Perm ((if ownB m then B else []) ++ (ow' ++ mu'))) → (ro = (if ownB m then [] else B) ++ ro') → rf = rf' → (∀ g ∈ mu, (m = .mut ∧ g ∈ B) ∨ g ∈ mu') → StartOk E w ty ρ i (t :: ts) (m :: ms) (d, ds) (v :: vs') ro ow mu rf := by
      intro ro' ow' mu' rf' hmr hsv hS hp hro hrf hmu
      obtain ⟨m1, m2, m3, m4⟩ := main ro' ow' mu' rf' (usOf_shape hsv hc) hS
      have eV : startV i (t :: ts) (m :: ms) (d, ds) = .a (shapeA t.agg (outC (i * 64) t.cts (t.to d))) :: startV (i + 1) ts ms ds := by
        cases m <;> first | rfl | exact (hmr rfl).elim
      have eB : startB ty i (t :: ts) (m :: ms) (d, ds) = startB ty (i + 1) ts ms ds := by
        cases m <;> first | rfl | exact (hmr rfl).elim
      have eR : startR i (t :: ts) (m :: ms) (d, ds) = setOwn (ownB m) (outR none (i * 64) t.cts (t.to d)) ++ startR (i + 1) ts ms ds := rfl
      refine ⟨by rw [eV]; simp [hS.len], fun L hLr hLb j x u hx hu => ?_, fun k b hkb => ?_, fun r e hr => ?_, m4, by rw [eB]; exact hS.bkeys, ?_, ?_, by rw [eB, hrf]; exact hS.rf, fun g hg => ?_⟩
      · rw [eV] at hx
        rw [eR] at hLr
        rw [eB] at hLb
        cases j with
        | zero =>
          obtain rfl : _ = x := by simpa using hx
          obtain rfl : v = u := by simpa using hu
          exact shapeA_ok hsv (m2 L fun r e hr => hLr r e (List.mem_append_left _ hr))
        | succ j => exact hS.slots L (fun r e hr => hLr r e (List.mem_append_right _ hr)) hLb j x u (by simpa using hx) (by simpa using hu)
      · rw [eB] at hkb
        obtain ⟨h1, us', h2, h3⟩ := hS.blks k b hkb
        exact ⟨by omega, us', h2, fun L hL => h3 L fun r e hr => hL r e (by rw [eR]; exact List.mem_append_right _ hr)⟩
      · rw [eR] at hr
        rcases List.mem_append.1 hr with hr | hr
        · obtain ⟨h1, _, h2⟩ := m1 r e hr
          exact ⟨h1, h2⟩
        · obtain ⟨h1, h2⟩ := hS.rows r e hr
          exact ⟨by rw [Nat.add_mul] at h1; omega, h2⟩
      · rw [eR, ownKeys_app, List.filterMap_append, ownKeys_set]
        refine hp.trans ?_
        refine List.Perm.append ?_ hS.own
        split
        · rw [m3]
        · exact List.Perm.nil
      · rw [eR, roKeys_app, List.filterMap_append, roKeys_set, hro, hS.ro]
        congr 1
        split
        · rfl
        · rw [m3]
      · rcases hmu g hg with ⟨rfl, hgB⟩ | hg'
        · rw [m3, ← rowPos_eq] at hgB
          obtain ⟨r, hr, hb⟩ := List.mem_filterMap.1 hgB
          exact ⟨r, List.mem_append_left _ hr, hb⟩
        · obtain ⟨r, hr, hb⟩ := hS.mu g hg'
          refine ⟨r, ?_, hb⟩
          cases m with
          | «mut» => exact List.mem_append_right _ hr
          | _ => exact hr
    cases m with
    | ro =>
      obtain ⟨hsv, ro', rfl, h⟩ := hm
      exact plain ro' ow mu rf (by simp) hsv (start_ok h h64' hk') (.refl _) rfl rfl fun g hg => .inr hg
    | own =>
      obtain ⟨hsv, ow', rfl, h⟩ := hm
      exact plain ro ow' mu rf (by simp) hsv (start_ok h h64' hk') (by simp [ownB, List.append_assoc]) rfl rfl fun g hg => .inr hg
    | «mut» =>
      obtain ⟨hsv, mu', rfl, h⟩ := hm
      refine plain ro ow mu' rf (by simp) hsv (start_ok h h64' hk') ?_ rfl rfl fun g hg => (List.mem_append.1 hg).elim (fun h => .inl ⟨rfl, h⟩) .inr
      simp only [ownB, if_true]
      rw [← List.append_assoc, ← List.append_assoc]
      exact List.perm_append_comm.append_right mu'
    | ref =>
      obtain ⟨g, tyv, ro', rf', rfl, hh, rfl, rfl, h⟩ := hm
      have hS := start_ok h h64' hk'
      have hus : usOf w (.pointer (some ⟨g, 0, none⟩)) = us := by simp [usOf, hh]
      obtain ⟨m1, m2, m3, m4⟩ := main ro' ow mu rf' hus hS
      have hbl : ρ.bl i = g := hbl0
      have hty : ty i = tyv := by rw [hty0]; simp [tyOf, hh]
      have eR : startR i (t :: ts) (.ref :: ms) (d, ds) = setOwn false (outR none (i * 64) t.cts (t.to d)) ++ startR (i + 1) ts ms ds := rfl
      have eB : startB ty i (t :: ts) (.ref :: ms) (d, ds) = (i, ⟨ty i, outC (i * 64) t.cts (t.to d)⟩) :: startB ty (i + 1) ts ms ds := rfl
      have eV : startV i (t :: ts) (.ref :: ms) (d, ds) = .a (.c (.ptr i 0)) :: startV (i + 1) ts ms ds := rfl
      refine ⟨by rw [eV]; simp [hS.len], fun L hLr hLb j x u hx hu => ?_, fun k b hkb => ?_, fun r e hr => ?_, m4, ?_, ?_, ?_, ?_, fun g hg => ?_⟩
      · rw [eV] at hx
        rw [eR] at hLr
        rw [eB] at hLb
        cases j with
        | zero =>
          obtain rfl : _ = x := by simpa using hx
          obtain rfl : _ = u := by simpa using hu
          exact ⟨⟨_, hLb i _ List.mem_cons_self⟩, by rw [hbl]⟩
        | succ j => exact hS.slots L (fun r e hr => hLr r e (List.mem_append_right _ hr)) (fun k b hkb => hLb k b (List.mem_cons_of_mem _ hkb)) j x u (by simpa using hx) (by simpa using hu)
      · rw [eB] at hkb
        rcases List.mem_cons.1 hkb with e | hkb
        · cases e
          exact ⟨Nat.le_refl _, us.toArray, by rw [hbl, hty]; exact hh, fun L hL => by simpa using m2 L fun r e hr => hL r e (by rw [eR]; exact List.mem_append_left _ hr)⟩
        · obtain ⟨h1, us', h2, h3⟩ := hS.blks k b hkb
          exact ⟨by omega, us', h2, fun L hL => h3 L fun r e hr => hL r e (by rw [eR]; exact List.mem_append_right _ hr)⟩
      · rw [eR] at hr
        rcases List.mem_append.1 hr with hr | hr
        · obtain ⟨h1, _, h2⟩ := m1 r e hr
          exact ⟨h1, h2⟩
        · obtain ⟨h1, h2⟩ := hS.rows r e hr
          exact ⟨by rw [Nat.add_mul] at h1; omega, h2⟩
      · rw [eB, List.map_cons]
        refine List.nodup_cons.2 ⟨fun hm => ?_, hS.bkeys⟩
        obtain ⟨⟨k, b⟩, hkb, e⟩ := List.mem_map.1 hm
        have := (hS.blks k b hkb).1
        simp only at e
        omega
      · rw [eR, ownKeys_app, List.filterMap_append, ownKeys_set]
        simpa using hS.own
      · rw [eR, roKeys_app, List.filterMap_append, roKeys_set, hS.ro]
        simp only [Bool.false_eq_true, if_false]
        rw [m3]
      · rw [eB, List.map_cons, List.map_cons, hbl, hS.rf]
      · obtain ⟨r, hr, hb⟩ := hS.mu g hg
        exact ⟨r, hr, hb⟩
  | [], _ :: _, i, d, vs, ro, ow, mu, rf, h, _, _ => h.elim
  | _ :: _, [], i, d, vs, ro, ow, mu, rf, h, _, _ => h.elim
end Go.Eng

namespace Go.Eng
open Go.RowKit

def LenC : (cts : List CT) → denC cts → denC cts → Prop
  | [], _, _ => True
  | .leaf _ :: cts, (_, ds), (_, es) => LenC cts ds es
  | .row _ :: cts, (d, ds), (e, es) => d.length = e.length ∧ LenC cts ds es

/-- What is handed over for writing keeps its slices' lengths. -/
def LenSame : (ts : List ATy) → List Mode → denA ts → denA ts → Prop
  | t :: ts, m :: ms, (d, ds), (e, es) => (match m with
    | .mut => LenC t.cts (t.to d) (t.to e)
    | .ref => LenC t.cts (t.to d) (t.to e)
    | _ => True) ∧ LenSame ts ms ds es
  | _, _, _, _ => True

section
variable {E : Env} {w0 w : World} {ρ : Val} {rs : List (Nat × Option Row)} {A : Sides}

theorem insK_out {L : LS} : ∀ {ts : List ATy} {A : Sides} {R : List Nat} {xs : List SA} {K : denA ts → Sides → List Nat → Prop}, insK rs none ts A R xs K →
    ∃ d A' Rn R', K d A' R' ∧ (∀ p ∈ A, p ∈ A') ∧ R'.Perm (Rn ++ R) ∧
      ∀ (vals : List Value), Sd A' → (∀ r, L.r r = find rs r) → (∀ r x, L.r r = some (some x) → RowOk E w (ρ.ra r) (ρ.rc r) x) → OkAs L ρ xs vals → (∀ r ∈ Rn, ∃ t ys, find rs r = some (some ⟨t, ys, true, none⟩)) →
        (∀ a ∈ ts, ∀ t, CT.row t ∈ a.cts → ∃ e, E.eid t = some e) → ∃ US, HOs E w ts d vals US (Rn.filterMap (bk ρ))
  | [], A, R, [], K, h => ⟨(), A, [], R, h, fun p hp => hp, .refl _, fun vals _ _ _ ho _ _ => by cases ho; exact ⟨[], rfl, rfl, rfl⟩⟩
  | t :: ts, A, R, x :: xs, K, h => by
    obtain ⟨d, A1, l, ps, h1, s1, hsh, hp, hd⟩ := inK_out h
    obtain ⟨ds, A2, Rn, R2, h2, s2, p2, hsem⟩ := insK_out (L := L) h1
    refine ⟨(d, ds), A2, rowNames l ++ Rn, R2, h2, fun p hp => s2 p (s1 p hp), (p2.trans ((perm_rev _ _).append_left Rn)).trans (by
      rw [← List.append_assoc]
      exact (List.perm_append_comm).append_right R), fun vals hs hL hr ho hown he => ?_⟩
    cases ho with
    | cons hv ho =>
      obtain ⟨us, hu, hok⟩ := shapeS_ok hsh hv
      obtain ⟨US, hUS⟩ := hsem _ hs hL hr ho (fun r hr => hown r (List.mem_append_right _ hr)) fun a ha => he a (List.mem_cons_of_mem _ ha)
      have hc := (hp.mono s2).hc (own := true) (us := us) hs GT_none hr hd (fun r _ => hL r) hok fun _ => ⟨fun r hr => hown r (List.mem_append_left _ hr), he t List.mem_cons_self⟩
      exact ⟨us ++ US, _, _, us, US, _, _, rfl, rfl, by rw [List.filterMap_append], hu, hc, hUS⟩
  | [], A, R, _ :: _, K, h => h.elim
  | _ :: _, A, R, [], K, h => h.elim

theorem mutBack {own : Bool} (hs : Sd A) (hr : ∀ r x, find rs r = some (some x) → RowOk E w (ρ.ra r) (ρ.rc r) x) : ∀ {cts : List CT} {d e : denC cts} {us : List Value} {B0 : List Nat} {b : Nat} {ps : List PD}, HC E w0 own cts d us B0 → PDs rs none A (outC b cts d) ps → parseC cts ps = some e → LenC cts d e → Knows ρ b us →
    (∀ r ∈ rowNames (outC b cts d), ∃ t xs, find rs r = some (some ⟨t, xs, true, none⟩)) → ∃ B, HC E w true cts e us B
  | [], d, e, us, B0, b, ps, h, _, _, _, _, _ => ⟨[], h.1, rfl⟩
  | .leaf l :: cts, (d, ds), (e, es), us, B0, b, ps, ⟨us', e1, h⟩, hp, hpar, hl, hk, ho => by
    subst e1
    cases hp with
    | leaf hp =>
      simp only [parseC] at hpar
      split at hpar
      · rename_i d1 h1
        split at hpar
        · rename_i d2 h2
          have e3 := Option.some.inj hpar
          obtain ⟨rfl, rfl⟩ := Prod.mk.inj e3
          obtain ⟨B, hB⟩ := mutBack hs hr h hp h2 hl hk.tail ho
          have := LT.get_leaf (l := l) (x := l.leaf d) (d := d1) h1
          exact ⟨B, us', by rw [this], hB⟩
        · cases hpar
      · cases hpar
  | .row t :: cts, (d, ds), (e, es), us, B0, b, ps, ⟨a, c, us', B', e1, hw, hB, h⟩, hp, hpar, hl, hk, ho => by
    subst e1
    cases hp with
    | row hf hlive hp =>
      rename_i x ds'
      simp only [parseC] at hpar
      split at hpar
      · rename_i d1 h1
        split at hpar
        · rename_i d2 h2
          have e3 := Option.some.inj hpar
          obtain ⟨rfl, rfl⟩ := Prod.mk.inj e3
          obtain ⟨B, hB'⟩ := mutBack hs hr h hp h2 hl.2 hk.tail fun r hr => ho r (List.mem_cons_of_mem _ hr)
          obtain ⟨t', xs, own', q⟩ := x
          obtain ⟨rfl, hh⟩ := parseC_row (t := t) (t' := t') (xs := xs) (d := d1) h1
          obtain rfl := eq_of_heq hh
          obtain ⟨t2, xs2, h3⟩ := ho b List.mem_cons_self
          rw [hf] at h3
          cases h3
          obtain ⟨k1, k2⟩ := hk 0 a _ c rfl
          have hrow : OwnR E w t' (ρ.ra b) (ρ.rc b) xs := hr b _ hf Row.live_none
          refine ⟨_, a, c, us', B, by rw [hl.1], ?_, rfl, hB'⟩
          rw [show b + 0 = b from rfl] at k1 k2
          rw [← k1, ← k2]
          exact hrow
        · cases hpar
      · cases hpar

theorem sameK_out : ∀ {l q : List SC} {K : Prop}, sameK l q K → K ∧ l.length = q.length ∧ ∀ (j : Nat) (r : Nat), l[j]? = some (.row r) → q[j]? = some (.row r)
  | [], [], K, h => ⟨h, rfl, fun j r hj => by simp at hj⟩
  | .row r :: l, .row s :: q, K, h => by
    simp only [sameK] at h
    split at h
    · rename_i hb
      obtain rfl := beq_true hb
      obtain ⟨h1, h2, h3⟩ := sameK_out h
      refine ⟨h1, by simp [h2], fun j r' hj => ?_⟩
      cases j with
      | zero => simpa using hj
      | succ j => exact h3 j r' (by simpa using hj)
    · exact h.elim
  | .leaf _ :: l, .leaf _ :: q, K, h => by
    obtain ⟨h1, h2, h3⟩ := sameK_out (l := l) (q := q) h
    refine ⟨h1, by simp [h2], fun j r' hj => ?_⟩
    cases j with
    | zero => simp at hj
    | succ j => exact h3 j r' (by simpa using hj)
  | [], _ :: _, K, h => h.elim
  | .row _ :: _, [], K, h => h.elim
  | .leaf _ :: _, [], K, h => h.elim
  | .nil :: _, _, K, h => by simp [sameK] at h
  | .ptr _ _ :: _, _, K, h => by simp [sameK] at h
  | .ep _ _ _ :: _, _, K, h => by simp [sameK] at h
  | .row _ :: _, .leaf _ :: _, K, h => h.elim
  | .row _ :: _, .nil :: _, K, h => h.elim
  | .row _ :: _, .ptr _ _ :: _, K, h => h.elim
  | .row _ :: _, .ep _ _ _ :: _, K, h => h.elim
  | .leaf _ :: _, .row _ :: _, K, h => h.elim
  | .leaf _ :: _, .nil :: _, K, h => h.elim
  | .leaf _ :: _, .ptr _ _ :: _, K, h => h.elim
  | .leaf _ :: _, .ep _ _ _ :: _, K, h => h.elim

theorem refBack {L : LS} (hs : Sd A) (hL : ∀ r, L.r r = find rs r) {own : Bool} : ∀ {cts : List CT} {d e : denC cts} {us us' : List Value} {B0 : List Nat} {b : Nat} {cs : List SC} {ps : List PD}, HC E w0 own cts d us B0 →
    (∀ (j r : Nat), (outC b cts d)[j]? = some (.row r) → cs[j]? = some (.row r)) → PDs rs none A cs ps → parseC cts ps = some e → LenC cts d e → Knows ρ b us → Oks L ρ cs us' → RefV cts e us us'
  | [], d, e, us, us', B0, b, cs, ps, h, _, hp, hpar, _, _, ho => by
    cases hp <;> simp [parseC] at hpar
    cases ho
    exact ⟨h.1, rfl⟩
  | .leaf l :: cts, (d, ds), (e, es), us, us', B0, b, cs, ps, ⟨us1, e1, h⟩, hsame, hp, hpar, hl, hk, ho => by
    subst e1
    cases hp with
    | nil => simp [parseC] at hpar
    | leaf hp =>
      simp only [parseC] at hpar
      split at hpar
      · rename_i d1 h1
        split at hpar
        · rename_i d2 h2
          have e3 := Option.some.inj hpar
          obtain ⟨rfl, rfl⟩ := Prod.mk.inj e3
          cases ho with
          | cons hv ho =>
            have := refBack hs hL h (fun j r hj => by simpa using hsame (j + 1) r (by simpa [outC] using hj)) hp h2 hl hk.tail ho
            refine ⟨_, us1, _, rfl, ?_, this⟩
            rw [show _ = _ from hv, LT.get_leaf (l := l) h1]
        · cases hpar
      · cases hpar
    | null hp =>
      simp only [parseC, CT.get] at hpar
      cases hpar
    | row hf hlive hp =>
      simp only [parseC, CT.get] at hpar
      cases hpar
  | .row t :: cts, (d, ds), (e, es), us, us', B0, b, cs, ps, ⟨a, c, us1, B', e1, hw, hB, h⟩, hsame, hp, hpar, hl, hk, ho => by
    subst e1
    have h0 := hsame 0 b (by simp [outC])
    cases hp with
    | nil => simp [parseC] at hpar
    | leaf hp => simp at h0
    | null hp => simp at h0
    | row hf hlive hp =>
      rename_i r x l ds'
      obtain rfl : r = b := by simpa using h0
      simp only [parseC] at hpar
      split at hpar
      · rename_i d1 h1
        split at hpar
        · rename_i d2 h2
          have e3 := Option.some.inj hpar
          obtain ⟨rfl, rfl⟩ := Prod.mk.inj e3
          cases ho with
          | cons hv ho =>
            have := refBack hs hL h (fun j r hj => by simpa using hsame (j + 1) r (by simpa [outC] using hj)) hp h2 hl.2 hk.tail ho
            obtain ⟨t', xs, own', q⟩ := x
            obtain ⟨rfl, hh⟩ := parseC_row (t := t) (t' := t') (xs := xs) (d := d1) h1
            obtain rfl := eq_of_heq hh
            have hv' := row_val hv ((hL r).trans hf) (hlive hs GT_none)
            obtain ⟨k1, k2⟩ := hk 0 a _ c rfl
            rw [show r + 0 = r from rfl] at k1 k2
            refine ⟨_, us1, _, rfl, ?_, this⟩
            rw [hv', k1, k2, hl.1]
        · cases hpar
      · cases hpar

theorem rowNames_outC : ∀ {cts : List CT} {b : Nat} {d : denC cts}, rowNames (outC b cts d) = rowPos b cts
  | [], b, d => rfl
  | .leaf l :: cts, b, (d, ds) => rowNames_outC (cts := cts) (b := b + 1) (d := ds)
  | .row t :: cts, b, (d, ds) => by
    show b :: rowNames (outC (b + 1) cts ds) = b :: rowPos (b + 1) cts
    rw [rowNames_outC]

theorem backK_out {ty : Nat → TypeId} {bs : List (Nat × Blk)} : ∀ {ts : List ATy} {ms : List Mode} {i : Nat} {T : List Nat} {d : denA ts} {K : denA ts → List Nat → Prop}, backK ty bs rs i ts ms T K d →
    ∃ u T2, K u (T2 ++ T) ∧ (∀ r ∈ mutRows i ts ms, r ∈ T2 ∧ ∃ t xs, find rs r = some (some ⟨t, xs, true, none⟩)) ∧
      ∀ (L : LS) (vs : List Value) (ro ow mu rf : List Nat), (∀ r, L.r r = find rs r) → (∀ r x, find rs r = some (some x) → RowOk E w (ρ.ra r) (ρ.rc r) x) → (∀ k b, find bs k = some b → BlkOk w L ρ (ρ.bl k) b) → HA E w0 ts ms d vs ro ow mu rf → LenSame ts ms d u →
        (∀ (j : Nat) (v : Value), vs[j]? = some v → (ms[j]? = some .mut ∨ ms[j]? = some .ref) → Knows ρ ((i + j) * 64) (usOf w0 v) ∧ (ms[j]? = some .ref → ρ.bl (i + j) = gOf v ∧ ty (i + j) = tyOf w0 v)) → Back E w0 w ts ms u vs
  | [], [], i, T, d, K, h => ⟨d, [], h, fun r hr => (by cases hr), fun L vs ro ow mu rf _ _ _ ha _ _ => ha.1⟩
  | t :: ts, .ro :: ms, i, T, (d, ds), K, h => by
    obtain ⟨u, T2, hK, hm, hsem⟩ := backK_out (ts := ts) (ms := ms) (i := i + 1) (d := ds) (K := fun es T => K (d, es) T) h
    refine ⟨(d, u), T2, hK, hm, fun L vs ro ow mu rf h1 h2 h3 ha hl hk => ?_⟩
    obtain ⟨v, vs', us, B, rfl, hc, hsv, ro', rfl, ha⟩ := ha
    exact ⟨v, vs', rfl, hsem L vs' _ _ _ _ h1 h2 h3 ha hl.2 fun j x hj hm => by
      have := hk (j + 1) x (by simpa using hj) (by simpa using hm)
      rw [show i + (j + 1) = i + 1 + j by omega] at this
      simpa using this, trivial⟩
  | t :: ts, .own :: ms, i, T, (d, ds), K, h => by
    obtain ⟨u, T2, hK, hm, hsem⟩ := backK_out (ts := ts) (ms := ms) (i := i + 1) (d := ds) (K := fun es T => K (d, es) T) h
    refine ⟨(d, u), T2, hK, hm, fun L vs ro ow mu rf h1 h2 h3 ha hl hk => ?_⟩
    obtain ⟨v, vs', us, B, rfl, hc, hsv, ro', rfl, ha⟩ := ha
    exact ⟨v, vs', rfl, hsem L vs' _ _ _ _ h1 h2 h3 ha hl.2 fun j x hj hm => by
      have := hk (j + 1) x (by simpa using hj) (by simpa using hm)
      rw [show i + (j + 1) = i + 1 + j by omega] at this
      simpa using this, trivial⟩
  | t :: ts, .mut :: ms, i, T, (d, ds), K, h => by
    simp only [backK] at h
    have h1 := outK_out h
    clear h
    obtain ⟨ps, A, h2, _, hp⟩ := pdsK_out h1
    clear h1
    split at h2
    · rename_i e he
      obtain ⟨hA, h3⟩ := h2
      have hA := Sd_of_allP hA.out
      obtain ⟨h4, hown⟩ := ownK_out h3
      have h5 := appK_out h4
      obtain ⟨u, T2, hK, hm, hsem⟩ := backK_out (ts := ts) (ms := ms) (i := i + 1) (d := ds) (K := fun es T => K (t.frm e, es) T) h5
      have hrn : ∀ r ∈ rowNames (outC (i * 64) t.cts (t.to d)), ∃ t xs, find rs r = some (some ⟨t, xs, true, none⟩) := fun r hr => hown r (List.mem_append_left _ (List.mem_reverse.2 hr))
      refine ⟨(t.frm e, u), T2 ++ ((rowNames (outC (i * 64) t.cts (t.to d))).reverse ++ []), by rw [List.append_assoc]; exact hK, fun r hr => ?_, fun L vs ro ow mu rf h1 h2 h3 ha hl hk => ?_⟩
      · rcases List.mem_append.1 hr with hr | hr
        · rw [← rowNames_outC (d := t.to d)] at hr
          exact ⟨List.mem_append_right _ (List.mem_append_left _ (List.mem_reverse.2 hr)), hrn r hr⟩
        · exact ⟨List.mem_append_left _ (hm r hr).1, (hm r hr).2⟩
      · obtain ⟨v, vs', us, B, rfl, hc, hsv, mu', rfl, ha⟩ := ha
        have hk0 := (hk 0 v rfl (.inl rfl)).1
        rw [Nat.add_zero, usOf_shape hsv hc] at hk0
        have hl0 : LenC t.cts (t.to d) (t.to (t.frm e)) := hl.1
        rw [t.to_frm] at hl0
        obtain ⟨B', hB'⟩ := mutBack (E := E) (w := w) hA h2 hc hp he hl0 hk0 hrn
        refine ⟨v, vs', rfl, hsem L vs' _ _ _ _ h1 h2 h3 ha hl.2 fun j x hj hm => ?_, us, B', hsv, by rw [t.to_frm]; exact hB'⟩
        have := hk (j + 1) x (by simpa using hj) (by simpa using hm)
        rw [show i + (j + 1) = i + 1 + j by omega] at this
        simpa using this
    · exact h2.elim
  | t :: ts, .ref :: ms, i, T, (d, ds), K, h => by
    simp only [backK] at h
    obtain ⟨⟨bt, cs⟩, hb, h0⟩ := lookK_out h
    clear h
    have h1 := outK_out h0
    clear h0
    obtain ⟨h1, _, hsame⟩ := sameK_out h1
    obtain ⟨ps, A, h2, _, hp⟩ := pdsK_out h1
    clear h1
    split at h2
    · rename_i e he
      obtain ⟨hbt, hA, h3⟩ := h2
      have hA := Sd_of_allP hA.out
      have hbt : bt = ty i := hbt.out
      obtain ⟨u, T2, hK, hm, hsem⟩ := backK_out (ts := ts) (ms := ms) (i := i + 1) (d := ds) (K := fun es T => K (t.frm e, es) T) h3
      refine ⟨(t.frm e, u), T2, hK, hm, fun L vs ro ow mu rf h1 h2 h3 ha hl hk => ?_⟩
      obtain ⟨v, vs', us, B, rfl, hc, g, tyv, ro', rf', rfl, hh, rfl, rfl, ha⟩ := ha
      have hk0 := hk 0 _ rfl (.inr rfl)
      obtain ⟨hkn, hbl⟩ := hk0
      obtain ⟨hbl, hty⟩ := hbl rfl
      rw [Nat.add_zero] at hkn hbl hty
      have hus : usOf w0 (.pointer (some ⟨g, 0, none⟩)) = us := by simp [usOf, hh]
      rw [hus] at hkn
      have hl0 : LenC t.cts (t.to d) (t.to (t.frm e)) := hl.1
      rw [t.to_frm] at hl0
      obtain ⟨us', hu', hok⟩ := h3 i _ hb
      have hr := refBack (E := E) hA h1 hc hsame hp he hl0 hkn hok
      have ety : bt = tyv := by rw [hbt, hty]; simp [tyOf, hh]
      have ebl : ρ.bl i = g := hbl
      refine ⟨_, vs', rfl, hsem L vs' _ _ _ _ h1 h2 h3 ha hl.2 fun j x hj hm => ?_, g, us, us'.toList, tyv, rfl, hh, ?_, by rw [t.to_frm]; exact hr⟩
      · have := hk (j + 1) x (by simpa using hj) (by simpa using hm)
        rw [show i + (j + 1) = i + 1 + j by omega] at this
        simpa using this
      · rw [← ebl, ← ety]
        simpa using hu'
    · exact h2.elim
  | [], _ :: _, i, T, d, K, h => h.elim
  | _ :: _, [], i, T, d, K, h => h.elim
end
end Go.Eng

namespace Go.Eng
open Go.RowKit

theorem ha_us {E : Env} {w : World} : ∀ {ts : List ATy} {ms : List Mode} {d : denA ts} {vs : List Value} {ro ow mu rf : List Nat}, HA E w ts ms d vs ro ow mu rf → (∀ t ∈ ts, t.cts.length ≤ 64) → ∀ (j : Nat) (v : Value), vs[j]? = some v → (usOf w v).length ≤ 64
  | [], [], d, vs, ro, ow, mu, rf, h, _ => fun j v hj => by rw [h.1] at hj; simp at hj
  | t :: ts, m :: ms, (d, ds), vs, ro, ow, mu, rf, ⟨v, vs', us, B, e1, hc, hm⟩, h64 => fun j u hj => by
    subst e1
    have hl := hc.length
    have h0 := h64 t List.mem_cons_self
    have h1 : ∀ t ∈ ts, t.cts.length ≤ 64 := fun t ht => h64 t (List.mem_cons_of_mem _ ht)
    cases m with
    | ro =>
      obtain ⟨hsv, ro', _, h⟩ := hm
      cases j with
      | zero => obtain rfl : v = u := by simpa using hj
                rw [usOf_shape hsv hc]; omega
      | succ j => exact ha_us h h1 j u (by simpa using hj)
    | own =>
      obtain ⟨hsv, ro', _, h⟩ := hm
      cases j with
      | zero => obtain rfl : v = u := by simpa using hj
                rw [usOf_shape hsv hc]; omega
      | succ j => exact ha_us h h1 j u (by simpa using hj)
    | «mut» =>
      obtain ⟨hsv, ro', _, h⟩ := hm
      cases j with
      | zero => obtain rfl : v = u := by simpa using hj
                rw [usOf_shape hsv hc]; omega
      | succ j => exact ha_us h h1 j u (by simpa using hj)
    | ref =>
      obtain ⟨g, ty, ro', rf', rfl, hh, _, _, h⟩ := hm
      cases j with
      | zero =>
        obtain rfl : _ = u := by simpa using hj
        have : usOf w (.pointer (some ⟨g, 0, none⟩)) = us := by simp [usOf, hh]
        rw [this]; omega
      | succ j => exact ha_us h h1 j u (by simpa using hj)
  | [], _ :: _, d, vs, ro, ow, mu, rf, h, _ => h.elim
  | _ :: _, [], d, vs, ro, ow, mu, rf, h, _ => h.elim

theorem anyK_out : ∀ {n : Nat} {K : List SV → Prop}, anyK n K → K (List.replicate n .any)
  | 0, K, h => h
  | n + 1, K, h => by
    have := anyK_out (n := n) (K := fun l => K (.any :: l)) h
    simpa [List.replicate_succ] using this

theorem mut_fix : ∀ {ts : List ATy} {ms : List Mode} {i : Nat}, ∀ r ∈ mutRows i ts ms, r ∈ fixRows i ts ms
  | [], _, i => fun r hr => by simp [mutRows] at hr
  | _ :: _, [], i => fun r hr => by simp [mutRows] at hr
  | t :: ts, .ro :: ms, i => fun r hr => mut_fix (ts := ts) (ms := ms) (i := i + 1) r hr
  | t :: ts, .own :: ms, i => fun r hr => mut_fix (ts := ts) (ms := ms) (i := i + 1) r hr
  | t :: ts, .ref :: ms, i => fun r hr => List.mem_append_right _ (mut_fix (ts := ts) (ms := ms) (i := i + 1) r hr)
  | t :: ts, .mut :: ms, i => fun r hr => by
    rcases List.mem_append.1 hr with hr | hr
    · exact List.mem_append_left _ hr
    · exact List.mem_append_right _ (mut_fix (ts := ts) (ms := ms) (i := i + 1) r hr)

theorem setOwn_keys (own : Bool) (rw : List (Nat × Row)) : (setOwn own rw).map (·.1) = rw.map (·.1) := by simp [setOwn, Function.comp_def]

theorem fix_start : ∀ {ts : List ATy} {ms : List Mode} {i : Nat} {d : denA ts}, ∀ r ∈ fixRows i ts ms, r ∈ (startR i ts ms d).map (·.1)
  | [], _, i, d => fun r hr => by simp [fixRows] at hr
  | _ :: _, [], i, d => fun r hr => by simp [fixRows] at hr
  | t :: ts, m :: ms, i, (d, ds) => fun r hr => by
    show r ∈ (setOwn (ownB m) (outR none (i * 64) t.cts (t.to d)) ++ startR (i + 1) ts ms ds).map (·.1)
    rw [List.map_append, setOwn_keys, ← rowPos_eq]
    cases m with
    | ro => exact List.mem_append_right _ (fix_start (ts := ts) (ms := ms) (i := i + 1) (d := ds) r hr)
    | own => exact List.mem_append_right _ (fix_start (ts := ts) (ms := ms) (i := i + 1) (d := ds) r hr)
    | ref =>
      rcases List.mem_append.1 hr with hr | hr
      · exact List.mem_append_left _ hr
      · exact List.mem_append_right _ (fix_start (ts := ts) (ms := ms) (i := i + 1) (d := ds) r hr)
    | «mut» =>
      rcases List.mem_append.1 hr with hr | hr
      · exact List.mem_append_left _ hr
      · exact List.mem_append_right _ (fix_start (ts := ts) (ms := ms) (i := i + 1) (d := ds) r hr)

theorem fixB_start {ty : Nat → TypeId} : ∀ {ts : List ATy} {ms : List Mode} {i : Nat} {d : denA ts}, ts.length = ms.length → ∀ k, k ∈ fixBlks i ms ↔ k ∈ (startB ty i ts ms d).map (·.1)
  | [], [], i, d, _ => fun k => by simp [fixBlks, startB]
  | [], _ :: _, i, d, h => by simp at h
  | _ :: _, [], i, d, h => by simp at h
  | t :: ts, m :: ms, i, (d, ds), h => fun k => by
    have ih := fixB_start (ty := ty) (ts := ts) (ms := ms) (i := i + 1) (d := ds) (by simpa using h) k
    cases m with
    | ro => exact ih
    | own => exact ih
    | «mut» => exact ih
    | ref =>
      show k ∈ i :: fixBlks (i + 1) ms ↔ k ∈ i :: (startB ty (i + 1) ts ms ds).map (·.1)
      rw [List.mem_cons, List.mem_cons, ih]

/-- Which arguments' rows are fixed: those of the arguments that are written. -/
theorem fix_at : ∀ {ts : List ATy} {ms : List Mode} {i : Nat} (j : Nat) (t : ATy), ts[j]? = some t → (ms[j]? = some .mut ∨ ms[j]? = some .ref) → ∀ r ∈ rowPos ((i + j) * 64) t.cts, r ∈ fixRows i ts ms
  | [], _, i, j, t => fun h => by simp at h
  | _ :: _, [], i, j, t => fun _ h => by simp at h
  | t0 :: ts, m :: ms, i, 0, t => fun h hm r hr => by
    obtain rfl : t0 = t := by simpa using h
    rcases hm with hm | hm
    · obtain rfl : m = .mut := by simpa using hm
      exact List.mem_append_left _ hr
    · obtain rfl : m = .ref := by simpa using hm
      exact List.mem_append_left _ hr
  | t0 :: ts, m :: ms, i, j + 1, t => fun h hm r hr => by
    have := fix_at (ts := ts) (ms := ms) (i := i + 1) j t (by simpa using h) (by simpa using hm) r (by rwa [show i + 1 + j = i + (j + 1) by omega])
    cases m with
    | ro => exact this
    | own => exact this
    | ref => exact List.mem_append_right _ this
    | «mut» => exact List.mem_append_right _ this

theorem fixB_at : ∀ {ms : List Mode} {i : Nat} (j : Nat), ms[j]? = some .ref → i + j ∈ fixBlks i ms
  | [], i, j => fun h => by simp at h
  | m :: ms, i, 0 => fun h => by
    obtain rfl : m = .ref := by simpa using h
    exact List.mem_cons_self
  | m :: ms, i, j + 1 => fun h => by
    have := fixB_at (ms := ms) (i := i + 1) j (by simpa using h)
    rw [show i + 1 + j = i + (j + 1) by omega] at this
    cases m with
    | ref => exact List.mem_cons_of_mem _ this
    | _ => exact this

theorem noWrites {E : Env} {w w' : World} : ∀ {ts : List ATy} {ms : List Mode} {u u' : denA ts} {vs : List Value}, writesB ms = false → Back E w w' ts ms u vs → Back E w w' ts ms u' vs
  | [], [], u, u', vs, _, h => h
  | t :: ts, .ro :: ms, (u, us), (u', us'), vs, hw, ⟨v, vs', e, h, _⟩ => ⟨v, vs', e, noWrites hw h, trivial⟩
  | t :: ts, .own :: ms, (u, us), (u', us'), vs, hw, ⟨v, vs', e, h, _⟩ => ⟨v, vs', e, noWrites hw h, trivial⟩
  | t :: ts, .mut :: ms, u, u', vs, hw, h => by cases hw
  | t :: ts, .ref :: ms, u, u', vs, hw, h => by cases hw
  | [], _ :: _, u, u', vs, _, h => h.elim
  | _ :: _, [], u, u', vs, _, h => h.elim

theorem noWritesLen : ∀ {ts : List ATy} {ms : List Mode} {u u' : denA ts}, writesB ms = false → LenSame ts ms u u'
  | [], _, u, u', _ => trivial
  | _ :: _, [], u, u', _ => trivial
  | t :: ts, .ro :: ms, (u, us), (u', us'), hw => ⟨trivial, noWritesLen (ts := ts) (ms := ms) hw⟩
  | t :: ts, .own :: ms, (u, us), (u', us'), hw => ⟨trivial, noWritesLen (ts := ts) (ms := ms) hw⟩
  | t :: ts, .mut :: ms, u, u', hw => by cases hw
  | t :: ts, .ref :: ms, u, u', hw => by cases hw

theorem ha_at {E : Env} {w : World} : ∀ {ts : List ATy} {ms : List Mode} {d : denA ts} {vs : List Value} {ro ow mu rf : List Nat}, HA E w ts ms d vs ro ow mu rf → ∀ (j : Nat) (v : Value), vs[j]? = some v →
    ∃ t m dj B, ts[j]? = some t ∧ ms[j]? = some m ∧ HC E w (ownB m) t.cts dj (usOf w v) B
  | [], [], d, vs, ro, ow, mu, rf, h => fun j v hj => by rw [h.1] at hj; simp at hj
  | t :: ts, m :: ms, (d, ds), vs, ro, ow, mu, rf, ⟨v, vs', us, B, e1, hc, hm⟩ => fun j u hj => by
    subst e1
    cases j with
    | zero =>
      obtain rfl : v = u := by simpa using hj
      refine ⟨t, m, t.to d, B, rfl, rfl, ?_⟩
      have : usOf w v = us := by
        cases m with
        | ref => obtain ⟨g, ty, ro', rf', rfl, hh, _⟩ := hm; simp [usOf, hh]
        | ro => exact usOf_shape hm.1 hc
        | own => exact usOf_shape hm.1 hc
        | «mut» => exact usOf_shape hm.1 hc
      rw [this]; exact hc
    | succ j =>
      have hj' : vs'[j]? = some u := by simpa using hj
      have go : ∀ {ro ow mu rf}, HA E w ts ms ds vs' ro ow mu rf → ∃ t' m' dj B, (t :: ts)[j + 1]? = some t' ∧ (m :: ms)[j + 1]? = some m' ∧ HC E w (ownB m') t'.cts dj (usOf w u) B := fun h => by
        obtain ⟨t', m', dj, B, h1, h2, h3⟩ := ha_at h j u hj'
        exact ⟨t', m', dj, B, by simpa using h1, by simpa using h2, h3⟩
      cases m with
      | ref => obtain ⟨g, ty, ro', rf', _, _, _, _, h⟩ := hm; exact go h
      | ro => obtain ⟨_, _, _, h⟩ := hm; exact go h
      | own => obtain ⟨_, _, _, h⟩ := hm; exact go h
      | «mut» => obtain ⟨_, _, _, h⟩ := hm; exact go h
  | [], _ :: _, d, vs, ro, ow, mu, rf, h => h.elim
  | _ :: _, [], d, vs, ro, ow, mu, rf, h => h.elim
end Go.Eng

namespace Go.Eng
open Go.RowKit

def eidsB (E : Env) (l : List ATy) : Bool := l.all fun a => a.cts.all fun
  | .row t => (E.eid t).isSome
  | .leaf _ => true

theorem eidsB_out {E : Env} {l : List ATy} (h : eidsB E l = true) : ∀ a ∈ l, ∀ t, CT.row t ∈ a.cts → ∃ e, E.eid t = some e := fun a ha t ht => by
  have h1 := List.all_eq_true.1 h a ha
  have h2 := List.all_eq_true.1 h1 _ ht
  exact Option.isSome_iff_exists.1 h2

theorem holds_of_fnK {E : Env} {Γ : List (Nat × Ctr)} (hE : EnvOk E) (hΓ : ∀ f c, find Γ f = some c → c.holds E f) (hdr : DrawnOk E Γ) {f : Nat} {c : Ctr} {fn : Func} {code : Code}
    (hf : E.P.funcs[f]? = some fn) (hb : fn.body = some code) (hname : (fn.name == "runtime.NumGoroutine") = false) (heid : (eidsB E c.ins && eidsB E c.outs && c.ins.all fun t => Nat.ble t.cts.length 64) = true)
    (hlen : ∀ x, c.pre x → LenSame c.ins c.modes x (c.upd x)) (h : ∀ ty x, c.pre x → ∃ Λ, fnK E Γ Λ c fn ty x) : c.holds E f := by
  rw [Bool.and_eq_true, Bool.and_eq_true] at heid
  obtain ⟨⟨he1, he2⟩, h64⟩ := heid
  have h64 : ∀ t ∈ c.ins, t.cts.length ≤ 64 := fun t ht => Nat.le_of_ble_eq_true (List.all_eq_true.1 h64 t ht)
  have hei := eidsB_out he1
  have heo := eidsB_out he2
  refine ⟨⟨fn, hf, hname, by rw [hb]; rfl⟩, fun a ha => ha.elim (hei a) (heo a), ?_⟩
  intro x w args ro ow mu rf hpre ha hnd hdis
  let ty : Nat → TypeId := fun i => tyOf w (args.getD i undef)
  let ρ : Val := ⟨fun i => gOf (args.getD i undef), fun r => (sliceAt (usOf w (args.getD (r / 64) undef)) (r % 64)).1, fun r => (sliceAt (usOf w (args.getD (r / 64) undef)) (r % 64)).2⟩
  have hk : ∀ (j : Nat) (v : Value), args[j]? = some v → Knows ρ ((0 + j) * 64) (usOf w v) ∧ ρ.bl (0 + j) = gOf v ∧ ty (0 + j) = tyOf w v := fun j v hj => by
    have hv : args.getD (0 + j) undef = v := by simp [List.getD, hj]
    refine ⟨fun q a n cc hq => ?_, by show gOf _ = _; rw [hv], by show tyOf w _ = _; rw [hv]⟩
    have hq64 := ha_us ha h64 j v hj
    have hqlt : q < (usOf w v).length := (List.getElem?_eq_some_iff.1 hq).1
    have e1 : ((0 + j) * 64 + q) / 64 = 0 + j := by omega
    have e2 : ((0 + j) * 64 + q) % 64 = q := by omega
    show (sliceAt (usOf w (args.getD (((0 + j) * 64 + q) / 64) undef)) (((0 + j) * 64 + q) % 64)).1 = a ∧ (sliceAt (usOf w (args.getD (((0 + j) * 64 + q) / 64) undef)) (((0 + j) * 64 + q) % 64)).2 = cc
    rw [e1, e2, hv]
    simp [sliceAt, hq]
  obtain ⟨Λ, hfnk⟩ := h ty x hpre
  unfold fnK at hfnk
  rw [hb] at hfnk
  dsimp only at hfnk
  obtain ⟨hml, hfnk⟩ := startK_out hfnk
  have hfnk := appK_out (anyK_out hfnk)
  have SO := start_ok (ty := ty) (ρ := ρ) ha h64 hk
  generalize hS0 : (⟨startV 0 c.ins c.modes x ++ List.replicate (fn.ntmps - (startV 0 c.ins c.modes x).length) .any, startB ty 0 c.ins c.modes x, startR 0 c.ins c.modes x⟩ : St) = S0 at hfnk
  let F := fixRows 0 c.ins c.modes
  let FB := fixBlks 0 c.modes
  let fb : Nat → Option Nat := fun k => if k ∈ FB then some (ρ.bl k) else none
  let fr : Nat → Option (Option Addr × Nat) := fun r => if r ∈ F then some (ρ.ra r, ρ.rc r) else none
  let L0 := lk fb fr S0
  have hLr : ∀ r e, (r, e) ∈ startR 0 c.ins c.modes x → L0.r r = some e := fun r e hr => by
    show find S0.rs r = some e
    rw [← hS0]
    exact find_of_mem SO.rkeys hr
  have hLb : ∀ k b, (k, b) ∈ startB ty 0 c.ins c.modes x → L0.b k = some b := fun k b hr => by
    show find S0.bs k = some b
    rw [← hS0]
    exact find_of_mem SO.bkeys hr
  have hLr' : ∀ r e, L0.r r = some e → (r, e) ∈ startR 0 c.ins c.modes x := fun r e hr => by
    have hr : find S0.rs r = some e := hr
    rw [← hS0] at hr
    exact mem_of_find hr
  have hLb' : ∀ k b, L0.b k = some b → (k, b) ∈ startB ty 0 c.ins c.modes x := fun r e hr => by
    have hr : find S0.bs r = some e := hr
    rw [← hS0] at hr
    exact mem_of_find hr
  let KO : List Key := (ownKeys (startR 0 c.ins c.modes x)).map Key.r ++ ((startB ty 0 c.ins c.modes x).map (·.1)).map Key.b
  have hKO : KO.filterMap ρ.at = (ownKeys (startR 0 c.ins c.modes x)).filterMap (bk ρ) ++ ((startB ty 0 c.ins c.modes x).map (·.1)).map ρ.bl := by
    simp only [KO]
    rw [List.filterMap_append, List.filterMap_map, List.filterMap_map]
    congr 1
    exact congrFun (List.filterMap_eq_map (f := ρ.bl)) _
  have hperm : (ow ++ mu ++ rf).Perm (KO.filterMap ρ.at) := by
    rw [hKO, SO.rf]
    exact SO.own.append_right _
  have hKOn : (KO.filterMap ρ.at).Nodup := hperm.nodup_iff.1 hnd
  have hownK : ∀ z, L0.own z → z ∈ KO := fun z hz => by
    cases z with
    | b k =>
      obtain ⟨b, hb⟩ := hz
      exact List.mem_append_right _ (List.mem_map.2 ⟨k, List.mem_map.2 ⟨(k, b), hLb' k b hb, rfl⟩, rfl⟩)
    | r r =>
      obtain ⟨y, hy, ho, _⟩ := hz
      refine List.mem_append_left _ (List.mem_map.2 ⟨r, List.mem_filterMap.2 ⟨(r, some y), hLr' r _ hy, ?_⟩, rfl⟩)
      simp [ho]
  have hhasK : ∀ z, L0.has z → z ∈ KO ∨ ∃ r, z = .r r ∧ r ∈ roKeys (startR 0 c.ins c.modes x) := fun z hz => by
    cases z with
    | b k => exact .inl (hownK _ hz)
    | r r =>
      obtain ⟨y, hy, hl⟩ := hz
      cases ho : y.own with
      | true => exact .inl (hownK _ ⟨y, hy, ho, hl⟩)
      | false =>
        refine .inr ⟨r, rfl, List.mem_filterMap.2 ⟨(r, some y), hLr' r _ hy, ?_⟩⟩
        simp [ho]
  have hKOmem : ∀ z ∈ KO, ∀ g, ρ.at z = some g → g ∈ ow ++ mu ++ rf := fun z hz g hg => hperm.mem_iff.2 (List.mem_filterMap.2 ⟨z, hz, hg⟩)
  have hn0 : S0.vs.length = args.length + (fn.ntmps - args.length) := by rw [← hS0]; simp [SO.len]
  have hD0 : Den E w (ow ++ mu ++ rf) S0.vs.length L0 ρ { tmps := args.toArray ++ Array.replicate (fn.ntmps - args.toArray.size) undef, defers := [] } w := by
    refine ⟨by rw [hn0]; simp, rfl, fun i v hv => ?_, fun k b hkb => ?_, fun r y hy => ?_, fun z y hz hy hne g hg hgy => ?_, fun z hz g hg => .inr (hKOmem z (hownK z hz) g hg), Kept.refl _ _, fun k g hkg => ?_, fun r q hrq => ?_⟩
    · show SV.ok L0 ρ (S0.vs.getD i .any) v
      rw [← hS0]
      rcases Nat.lt_or_ge i args.length with hlt | hge
      · have hv' : args[i]? = some v := by
          rw [Array.getElem?_append_left (by simpa using hlt)] at hv
          simpa using hv
        have hlt2 : i < (startV 0 c.ins c.modes x).length := by rw [SO.len]; exact hlt
        have e : (startV 0 c.ins c.modes x ++ List.replicate (fn.ntmps - (startV 0 c.ins c.modes x).length) SV.any).getD i .any = (startV 0 c.ins c.modes x)[i] := by
          simp [List.getD, List.getElem?_append_left hlt2, hlt2]
        rw [e]
        exact SO.slots L0 hLr hLb i _ v (List.getElem?_eq_getElem hlt2) hv'
      · have e : (startV 0 c.ins c.modes x ++ List.replicate (fn.ntmps - (startV 0 c.ins c.modes x).length) SV.any).getD i .any = .any := by
          rw [List.getD, List.getElem?_append_right (by rw [SO.len]; exact hge), List.getElem?_replicate]
          split <;> rfl
        rw [e]
        trivial
    · obtain ⟨_, us, hu, ho⟩ := SO.blks k b (hLb' k b hkb)
      exact ⟨us, hu, ho L0 hLr⟩
    · obtain ⟨_, y', e, hg, hra⟩ := SO.rows r _ (hLr' r _ hy)
      cases e
      intro _
      exact hra
    · rcases hhasK y hy with hyK | ⟨r, rfl, hr⟩
      · exact filterMap_ne hKOn (hownK z hz) hyK hne g hg hgy
      · refine hdis g (hKOmem z (hownK z hz) g hg) ?_
        rw [SO.ro]
        exact List.mem_filterMap.2 ⟨r, hr, hgy⟩
    · have hkg : (if k ∈ FB then some (ρ.bl k) else none) = some g := hkg
      split at hkg
      · rename_i hm
        obtain ⟨⟨k', b⟩, hkb, rfl⟩ := List.mem_map.1 ((fixB_start (ty := ty) (d := x) hml k).1 hm)
        exact ⟨⟨b, hLb _ _ hkb⟩, Option.some.inj hkg⟩
      · cases hkg
    · have hrq : (if r ∈ F then some (ρ.ra r, ρ.rc r) else none) = some q := hrq
      split at hrq
      · rename_i hm
        obtain ⟨⟨r', e⟩, hre, rfl⟩ := List.mem_map.1 (fix_start (d := x) r hm)
        cases hrq
        exact ⟨⟨e, hLr _ _ hre⟩, rfl, rfl⟩
      · cases hrq
  have hFr : ∀ r q, fr r = some q → r ∈ F := fun r q hq => by
    have hq : (if r ∈ F then some (ρ.ra r, ρ.rc r) else none) = some q := hq
    split at hq
    · assumption
    · cases hq
  have hFb : ∀ k g, fb k = some g → k ∈ FB := fun r q hq => by
    have hq : (if r ∈ FB then some (ρ.bl r) else none) = some q := hq
    split at hq
    · assumption
    · cases hq
  have hwp := vcK_sound hE hΓ hdr hFr hFb w (ow ++ mu ++ rf) S0.vs.length code hfnk rfl hD0
  refine calls_of_wp hf hb (wp_mono hwp ?_)
  rintro ex a w' ⟨e, S', ρ', rfl, hK, hn', hD'⟩
  -- behind the code
  have fin : retK E c ty x fn.results.toList S' → a.defers = [] ∧ ∃ v, (results fn a.tmps).run E.P w' = .ok v w' ∧ HR E w c x args ow mu rf v w' := by
    intro hK
    refine ⟨hD'.defers, ?_⟩
    obtain ⟨vs', bs', rs'⟩ := S'
    unfold retK at hK
    dsimp only at hK
    obtain ⟨ys, h1, hres⟩ := resK_out (E := E) (w0 := w) (C := ow ++ mu ++ rf) (n := S0.vs.length) (a := a) (w := w') (fb := fb) (fr := fr) hK
    obtain ⟨vals, hrun, hok⟩ := hres ρ' hD' hn'
    obtain ⟨v, hv, hrv⟩ := results_run hrun
    obtain ⟨y, A, Rn, R', h2, _, hp, hins⟩ := insK_out (E := E) (w := w') (ρ := ρ') (L := lk fb fr ⟨vs', bs', rs'⟩) h1
    obtain ⟨h3, hown⟩ := ownK_out h2
    obtain ⟨u, T2, h4, hmut, hback⟩ := backK_out (E := E) (w0 := w) (w := w') (ρ := ρ') h3
    rw [List.append_nil] at hp
    split at h4
    · rename_i hT
      have hT := nodupB_out hT
      obtain ⟨t1, t2, t3⟩ := List.nodup_append.1 hT
      have main : Sd A → y = c.model x → LenSame c.ins c.modes x u → (Back E w w' c.ins c.modes u args → Back E w w' c.ins c.modes (c.upd x) args) → ∃ v, (results fn a.tmps).run E.P w' = .ok v w' ∧ HR E w c x args ow mu rf v w' := by
        intro hA hy hls hbk
        have hRown : ∀ r ∈ Rn, ∃ t xs, find rs' r = some (some ⟨t, xs, true, none⟩) := fun r hr => hown r (hp.mem_iff.2 hr)
        obtain ⟨US, hUS⟩ := hins vals hA (fun _ => rfl) hD'.rows hok hRown heo
        have hRn : Rn.Nodup := hp.nodup_iff.1 t2
        have ownR : ∀ r, (∃ t xs, find rs' r = some (some ⟨t, xs, true, none⟩)) → (lk fb fr ⟨vs', bs', rs'⟩).own (.r r) := fun r ⟨t, xs, h⟩ => ⟨_, h, rfl, Row.live_none⟩
        have hfr' : ∀ r ∈ F, ρ'.ra r = ρ.ra r ∧ ρ'.rc r = ρ.rc r := fun r hr => by
          obtain ⟨_, e1, e2⟩ := hD'.fixr r (ρ.ra r, ρ.rc r) (by show (if r ∈ F then _ else _) = _; rw [if_pos hr])
          exact ⟨e1, e2⟩
        have hfb' : ∀ k ∈ FB, (lk fb fr ⟨vs', bs', rs'⟩).own (.b k) ∧ ρ'.bl k = ρ.bl k := fun k hk => hD'.fixb k (ρ.bl k) (by show (if k ∈ FB then _ else _) = _; rw [if_pos hk])
        refine ⟨v, hv, hD'.kept, ⟨vals, US, _, hrv, by rw [← hy]; exact hUS, ?_, fun g hg => ?_⟩, hbk ?_⟩
        · refine nodup_filterMap hRn fun r hr r' hr' hne g hg hg' => ?_
          exact hD'.apart (.r r) (.r r') (ownR r (hRown r hr)) (LS.own_has (ownR r' (hRown r' hr'))) (fun e => hne (by cases e; rfl)) g hg hg'
        · obtain ⟨r, hr, hrg⟩ := List.mem_filterMap.1 hg
          have hor := ownR r (hRown r hr)
          rcases hD'.bound (.r r) hor g hrg with hge | hC
          · exact .inl hge
          · rcases List.mem_append.1 hC with hC | hC
            · rcases List.mem_append.1 hC with hC | hC
              · exact .inr hC
              · obtain ⟨r', hr', hb'⟩ := SO.mu g hC
                obtain ⟨hT2, hro'⟩ := hmut r' hr'
                have hat : ρ'.at (.r r') = some g := by
                  show (ρ'.ra r').map _ = _
                  rw [(hfr' r' (mut_fix r' hr')).1]
                  exact hb'
                refine (hD'.apart (.r r) (.r r') hor (LS.own_has (ownR r' hro')) (fun e => ?_) g hrg hat).elim
                cases e
                exact t3 r hT2 r (hp.mem_iff.2 hr) rfl
            · rw [SO.rf] at hC
              obtain ⟨k, hk', hkg⟩ := List.mem_map.1 hC
              obtain ⟨ho, hbl⟩ := hfb' k ((fixB_start (ty := ty) (d := x) hml k).2 hk')
              exact (hD'.apart (.r r) (.b k) hor (LS.own_has ho) (by simp) g hrg (by show some (ρ'.bl k) = _; rw [hbl, hkg])).elim
        · refine hback (lk fb fr ⟨vs', bs', rs'⟩) args ro ow mu rf (fun _ => rfl) hD'.rows hD'.blks ha hls fun j v hj hm => ?_
          obtain ⟨k1, k2, k3⟩ := hk j v hj
          obtain ⟨t, m, dj, B, ht, hmj, hc⟩ := ha_at ha j v hj
          refine ⟨fun q a' n' c' hq => ?_, fun href => ⟨?_, k3⟩⟩
          · obtain ⟨z, hz⟩ := hc.isRow (g := none) (b := (0 + j) * 64) q a' n' c' hq
            have hin : (0 + j) * 64 + q ∈ rowPos ((0 + j) * 64) t.cts := by
              rw [rowPos_eq (g := none) (d := dj)]
              exact List.mem_map.2 ⟨_, hz, rfl⟩
            have := hfr' _ (fix_at j t ht hm _ hin)
            rw [this.1, this.2]
            exact k1 q a' n' c' hq
          · rw [(hfb' _ (fixB_at j href)).2]
            exact k2
      split at h4
      · obtain ⟨hA, ho⟩ := sidesK_out h4
        obtain ⟨ho1, ho2⟩ := ho.out
        exact main hA ho1 (by rw [ho2]; exact hlen x hpre) (fun h => by rw [ho2] at h; exact h)
      · rename_i hw
        obtain ⟨hA, ho⟩ := sidesK_out h4
        exact main hA ho.out (noWritesLen hw) (noWrites hw)
    · exact h4.elim
  cases e with
  | normal =>
    obtain ⟨h1, v, h2, h3⟩ := fin hK
    exact ⟨h1, v, h2, h3⟩
  | exit id => exact hK.elim
  | ret =>
    obtain ⟨h1, v, h2, h3⟩ := fin hK
    exact ⟨h1, v, h2, h3⟩
end Go.Eng

namespace Go.Eng
open Go.RowKit

/-- A store into a block, whatever else the state is. -/
theorem stepS_out {E : Env} (hE : EnvOk E) {Γ : List (Nat × Ctr)} (hΓ : ∀ f c, find Γ f = some c → c.holds E f) {ops : Array Oper} {i : Nat} {o : Oper} (hi : ops[i]? = some o) {vs : List SV} {bs : List (Nat × Blk)} {rs : List (Nat × Option Row)} {A : Sides} {K : Eff → Sides → Prop}
    (h : guardK ops.toList vs o.guard fun g => effS E Γ o g ⟨vs, bs, rs⟩ A K) : ∃ e A', K e A' ∧ (∀ p ∈ A, p ∈ A') ∧ (Sd A' → ∀ fb fr, StepOk E vs.length ops i o e (lk fb fr ⟨vs, bs, rs⟩)) := by
  by_cases hst : ∃ t x y, o.op = .store t x y
  · obtain ⟨t, x, y, ho⟩ := hst
    obtain ⟨g, h1, _, hg⟩ := guardK_out h
    unfold effS at h1
    rw [ho] at h1
    dsimp only at h1
    split at h1
    · rename_i hd hS
      cases hS
      obtain ⟨p, A1, h2, s1, a1⟩ := argK_out h1
      obtain ⟨v, A2, h3, s2, a2⟩ := argK_out h2
      obtain ⟨cs, h4, hcs⟩ := cellsK_out h3
      split at h4
      · rename_i n hn
        split at h4
        · rename_i hlen
          have hlen := beq_true hlen
          split at h4
          · rename_i k off
            obtain ⟨b, hb, h5⟩ := lookK_out h4
            obtain ⟨bt, old⟩ := b
            obtain ⟨hle, h6⟩ := splK_out h5
            refine ⟨_, A2, h6, fun p hp => s2 p (s1 p hp), fun hs fb fr w0 C L ρ a w Q K' q1 q2 q3 hD hf hnx => ?_⟩
            obtain ⟨g1, _⟩ := hg L ρ a hD.size q1 hD.slots
            have hLb : L.b k = some ⟨bt, old⟩ := (q3 k (by simp)).trans hb
            have mem : ∀ t', Operand.tmp t' = x ∨ Operand.tmp t' = y → t' ∈ slotsOf ops.toList o := fun t' ht' => by
              unfold slotsOf
              refine List.mem_append_left _ (List.mem_filterMap.2 ⟨.tmp t', ?_, rfl⟩)
              rw [ho]
              rcases ht' with h | h <;> simp [Op.operands, ← h]
            have hvx : SA.ok L ρ _ (a.eval x) := (a1.mono s2) L ρ a hD.size (fun t' ht' => q1 t' (mem t' (.inl ht'.symm))) hD.slots hs GT_none
            have hvy : SA.ok L ρ _ (a.eval y) := a2 L ρ a hD.size (fun t' ht' => q1 t' (mem t' (.inr ht'.symm))) hD.slots hs GT_none
            have hoy := hcs _ _ _ hvy
            obtain ⟨_, hp⟩ := hvx
            obtain ⟨us, hgk, hok⟩ := hD.blks k ⟨bt, old⟩ hLb
            have hl1 := hok.length
            have hl2 := hoy.length
            simp only [Array.length_toList] at hl1 hl2
            have hl1 : us.size = old.length := hl1
            have hle : off + cs.length ≤ old.length := hle
            have hrun := run_storeBlk (P := E.P) (w := w) hn hgk (v := a.eval y) (off := off) (by omega) (by omega) (fun u hu => (hoy.one u hu).2)
            obtain ⟨ρ', hD'⟩ := hD.call (d := none) (nr := []) (kl := []) (up := []) (sb := [(k, old.take off ++ cs ++ old.drop (off + cs.length))]) (rd := []) (rf := []) (V := .any) (v := undef) (w' := w.setRow (ρ.bl k) (us.toList.take off ++ (a.eval y).cells.toList ++ us.toList.drop (off + n)).toArray) (fun _ => (none, 0)) [ρ.bl k]
              (fun r x hx => by cases hx) (fun r hr => by cases hr) (fun r y hy => by cases hy)
              (fun k' cs' hk => by
                obtain ⟨rfl, rfl⟩ := find_one_eq hk
                refine ⟨bt, old, _, hLb, setRow_heap w _ us _ bt (0, 0) hgk, ?_⟩
                rw [hlen]
                exact ((hok.take off).append hoy).append (hok.drop (off + n)))
              (fun g hg' => by
                obtain rfl : g = ρ.bl k := by simpa using hg'
                exact .inr (.inr ⟨k, _, find_one _ _, rfl⟩))
              (kept_setRow _)
              (fun r x hx => by cases hx) (fun r x g hx => by cases hx) (fun r r' x x' hx => by cases hx) (fun _ _ _ _ => trivial)
            unfold wpOp
            simp only [hi]
            rw [g1 rfl]
            refine .inl ?_
            unfold Oper.wp
            have : (execOp a.eval o).run E.P w = .ok .skip (w.setRow (ρ.bl k) (us.toList.take off ++ (a.eval y).cells.toList ++ us.toList.drop (off + n)).toArray) := by
              simp only [execOp, ho]
              rw [Sem.run_bind, hp, hrun]
              rfl
            rw [this, Oper.upon_skip, hd]
            rw [hd] at hnx
            exact hnx ρ' _ _ hD'
          · exact h4.elim
        · exact h4.elim
      · exact h4.elim
    · exact h1.elim
  · refine step_out hE hΓ hi (Γ := Γ) ?_
    have e : ∀ g, effS E Γ o g ⟨vs, bs, rs⟩ A K = effK E Γ o g ⟨vs, bs, rs⟩ A K := fun g => by
      unfold effS
      split
      · rename_i t x y ho
        exact (hst ⟨t, x, y, ho⟩).elim
      · rfl
    simpa only [e] using h

abbrev PE := Nat × Oper × Eff

def apps (L : LS) (l : List PE) : LS := l.foldl (fun L p => L.app p.2.1.dst p.2.2) L

theorem foldl_filter {α β : Type} (f : α → β → α) (t : β → Bool) (h : ∀ x p, t p = false → f x p = x) : ∀ (l : List β) (x : α), l.foldl f x = (l.filter t).foldl f x
  | [], x => rfl
  | p :: l, x => by
    cases ht : t p with
    | true => simp [ht, foldl_filter f t h l]
    | false => simp [ht, h x p ht, foldl_filter f t h l]

def tv (t : Nat) (p : PE) : Bool := decide (p.2.1.dst = some t)
def tb (k : Nat) (p : PE) : Bool := decide (p.2.1.dst = some k) || (find p.2.2.sb k).isSome
def tr (r : Nat) (p : PE) : Bool := (find p.2.2.nr r).isSome || decide (r ∈ p.2.2.kill)

def fv (t : Nat) (x : SV) (p : PE) : SV := if p.2.1.dst = some t then p.2.2.v else x
def fbk (k : Nat) (x : Option Blk) (p : PE) : Option Blk :=
  match (if p.2.1.dst = some k then p.2.2.nb else none) with
  | some b => some b
  | none => match find p.2.2.sb k with
    | some cs => x.map fun b => ⟨b.t, cs⟩
    | none => x
def frw (r : Nat) (x : Option (Option Row)) (p : PE) : Option (Option Row) :=
  match find p.2.2.nr r with
  | some y => some (some y)
  | none => if r ∈ p.2.2.kill then some none else x

/-- No row is written in place. -/
def Still (p : PE) : Prop := p.2.2.upd = []

theorem apps_fold : ∀ (l : List PE) (L : LS), (∀ p ∈ l, Still p) → (∀ t, (apps L l).v t = l.foldl (fv t) (L.v t)) ∧ (∀ k, (apps L l).b k = l.foldl (fbk k) (L.b k)) ∧ (∀ r, (apps L l).r r = l.foldl (frw r) (L.r r)) ∧ (apps L l).fb = L.fb ∧ (apps L l).fr = L.fr
  | [], L, _ => ⟨fun _ => rfl, fun _ => rfl, fun _ => rfl, rfl, rfl⟩
  | p :: l, L, h => by
    have h1 : p.2.2.upd = [] := h p List.mem_cons_self
    obtain ⟨i1, i2, i3, i4, i5⟩ := apps_fold l (L.app p.2.1.dst p.2.2) fun q hq => h q (List.mem_cons_of_mem _ hq)
    refine ⟨fun t => (i1 t).trans ?_, fun k => (i2 k).trans ?_, fun r => (i3 r).trans ?_, i4, i5⟩
    · rfl
    · show l.foldl (fbk k) _ = l.foldl (fbk k) (fbk k (L.b k) p)
      rfl
    · show l.foldl (frw r) _ = l.foldl (frw r) (frw r (L.r r) p)
      congr 1
      simp only [LS.app, h1, find]
      rfl

theorem fold_v (t : Nat) (l : List PE) (x : SV) : l.foldl (fv t) x = (l.filter (tv t)).foldl (fv t) x :=
  foldl_filter _ _ (fun x p h => by simp only [fv, tv, decide_eq_false_iff_not] at *; rw [if_neg h]) l x
theorem fold_b (t : Nat) (l : List PE) (x : Option Blk) : l.foldl (fbk t) x = (l.filter (tb t)).foldl (fbk t) x :=
  foldl_filter _ _ (fun x p h => by
    simp only [fbk, tb, Bool.or_eq_false_iff, decide_eq_false_iff_not] at *
    obtain ⟨h1, h2⟩ := h
    rw [if_neg h1]
    cases hf : find p.2.2.sb t with
    | some y => rw [hf] at h2; cases h2
    | none => rfl) l x
theorem fold_r (r : Nat) (l : List PE) (x : Option (Option Row)) : l.foldl (frw r) x = (l.filter (tr r)).foldl (frw r) x :=
  foldl_filter _ _ (fun x p h => by
    simp only [frw, tr, Bool.or_eq_false_iff, decide_eq_false_iff_not] at *
    obtain ⟨h1, h2⟩ := h
    cases hf : find p.2.2.nr r with
    | some y => rw [hf] at h1; cases h1
    | none => simp only [if_neg h2]) l x

theorem apps_eq {L : LS} {l l' : List PE} (h : ∀ p ∈ l, Still p) (h' : ∀ p ∈ l', Still p) (hv : ∀ t, l.filter (tv t) = l'.filter (tv t)) (hb : ∀ t, l.filter (tb t) = l'.filter (tb t)) (hr : ∀ r, l.filter (tr r) = l'.filter (tr r)) : apps L l = apps L l' := by
  obtain ⟨a1, a2, a3, a4, a5⟩ := apps_fold l L h
  obtain ⟨b1, b2, b3, b4, b5⟩ := apps_fold l' L h'
  refine LS.same (fun t => ?_) (fun t => ?_) (fun t => ?_) (a4.trans b4.symm) (a5.trans b5.symm)
  · rw [a1, b1, fold_v, hv, ← fold_v]
  · rw [a2, b2, fold_b, hb, ← fold_b]
  · rw [a3, b3, fold_r, hr, ← fold_r]

theorem apps_snoc (L : LS) (l : List PE) (p : PE) : apps L (l ++ [p]) = (apps L l).app p.2.1.dst p.2.2 := by simp [apps]

inductive Chain (E : Env) (n : Nat) (ops : Array Oper) : Nat → LS → List PE → LS → Prop where
  | nil {i : Nat} {L : LS} : Chain E n ops i L [] L
  | cons {i : Nat} {o : Oper} {e : Eff} {L L' : LS} {l : List PE} : ops[i]? = some o → StepOk E n ops i o e L → Fresh L o.dst e → Chain E n ops (i + 1) (L.app o.dst e) l L' → Chain E n ops i L ((i, o, e) :: l) L'

theorem Chain.apps {E : Env} {n : Nat} {ops : Array Oper} {i : Nat} {L L' : LS} {l : List PE} (h : Chain E n ops i L l L') : L' = apps L l := by
  induction h with
  | nil => rfl
  | cons _ _ _ _ ih => exact ih

theorem Chain.idx {E : Env} {n : Nat} {ops : Array Oper} {i : Nat} {L L' : LS} {l : List PE} (h : Chain E n ops i L l L') : l.map (·.1) = List.range' i l.length := by
  induction h with
  | nil => rfl
  | cons _ _ _ _ ih => rw [List.map_cons, List.length_cons, range'_cons, ih]

theorem Chain.get {E : Env} {n : Nat} {ops : Array Oper} {i : Nat} {L L' : LS} {l : List PE} (h : Chain E n ops i L l L') : ∀ l1 p l2, l = l1 ++ p :: l2 → p.1 = i + l1.length ∧ ops[p.1]? = some p.2.1 ∧ StepOk E n ops p.1 p.2.1 p.2.2 (Eng.apps L l1) ∧ Fresh (Eng.apps L l1) p.2.1.dst p.2.2 := by
  induction h with
  | nil => intro l1 p l2 e; cases l1 <;> simp at e
  | cons h1 h2 h3 h4 ih =>
    intro l1 p l2 e
    cases l1 with
    | nil =>
      simp only [List.nil_append, List.cons.injEq] at e
      obtain ⟨rfl, rfl⟩ := e
      exact ⟨rfl, h1, h2, h3⟩
    | cons q l1 =>
      simp only [List.cons_append, List.cons.injEq] at e
      obtain ⟨rfl, rfl⟩ := e
      obtain ⟨k1, k2, k3, k4⟩ := ih l1 p l2 rfl
      exact ⟨by rw [k1, List.length_cons]; omega, k2, k3, k4⟩

theorem firstK_out {E : Env} (hE : EnvOk E) {Γ : List (Nat × Ctr)} (hΓ : ∀ f c, find Γ f = some c → c.holds E f) {ops : Array Oper} : ∀ (m i : Nat) (l : List Oper) {S : St} {A : Sides} {K : List Foot → List Oper → St → Sides → Prop}, ops.toList.drop i = l → firstK E Γ ops.toList m l S A K →
    ∃ (pl : List PE) (S' : St) (A' : Sides), K (pl.map fun p => p.2.2.foot) (ops.toList.drop (i + m)) S' A' ∧ (∀ p ∈ A, p ∈ A') ∧ pl.length = m ∧ S'.vs.length = S.vs.length ∧ (Sd A' → ∀ fb fr, Chain E S.vs.length ops i (lk fb fr S) pl (lk fb fr S'))
  | 0, i, l, S, A, K, hl, h => by
    refine ⟨[], S, A, ?_, fun p hp => hp, rfl, rfl, fun _ fb fr => .nil⟩
    rw [Nat.add_zero, hl]
    cases l <;> exact h
  | m + 1, i, [], S, A, K, hl, h => h.elim
  | m + 1, i, o :: l, ⟨vs, bs, rs⟩, A, K, hl, h => by
    have hi : ops[i]? = some o := by
      have := congrArg List.head? hl
      rw [List.head?_drop] at this
      simpa using this
    have hl' : ops.toList.drop (i + 1) = l := by
      have := congrArg List.tail hl
      rw [List.tail_drop] at this
      simpa using this
    obtain ⟨e, A1, h1, s1, hst⟩ := stepS_out hE hΓ hi h
    obtain ⟨S1, h2, hlen1, hlk, hfr⟩ := applyK_out (fb := fun _ => none) (fr := fun _ => none) h1
    obtain ⟨pl, S', A', hK, s2, hlen, hn, hch⟩ := firstK_out hE hΓ m (i + 1) l hl' h2
    refine ⟨(i, o, e) :: pl, S', A', ?_, fun p hp => s2 p (s1 p hp), by simp [hlen], hn.trans hlen1, fun hs fb fr => ?_⟩
    · rw [show i + (m + 1) = i + 1 + m by omega]
      exact hK
    · have e1 : lk fb fr S1 = (lk fb fr ⟨vs, bs, rs⟩).app o.dst e := by
        have h1 := congrArg LS.v hlk
        have h2 := congrArg LS.b hlk
        have h3 := congrArg LS.r hlk
        exact LS.same (fun i => congrFun h1 i) (fun i => congrFun h2 i) (fun i => congrFun h3 i) rfl rfl
      have := hch hs fb fr
      rw [e1, hlen1] at this
      exact .cons hi (hst (hs.mono s2) fb fr) ⟨hfr.b, hfr.r⟩ this

theorem filt_lt {p q : Nat → Bool} : ∀ (l : List Nat), (∀ x, q x = true → p x = true) → (l.filter q).length ≤ (l.filter p).length ∧ ((∃ x ∈ l, p x = true ∧ q x = false) → (l.filter q).length < (l.filter p).length)
  | [], _ => ⟨Nat.le_refl _, fun ⟨x, hx, _⟩ => by cases hx⟩
  | y :: l, h => by
    obtain ⟨h1, h2⟩ := filt_lt l h
    cases hq : q y with
    | true =>
      have hp := h y hq
      simp only [List.filter_cons, hq, hp, if_true, List.length_cons]
      refine ⟨by omega, fun ⟨x, hx, hpx, hqx⟩ => ?_⟩
      rcases List.mem_cons.1 hx with rfl | hx
      · rw [hq] at hqx; cases hqx
      · have := h2 ⟨x, hx, hpx, hqx⟩; omega
    | false =>
      cases hp : p y with
      | true =>
        simp only [List.filter_cons, hq, hp, if_true, List.length_cons, Bool.false_eq_true, if_false]
        exact ⟨by omega, fun _ => by omega⟩
      | false =>
        simp only [List.filter_cons, hq, hp, Bool.false_eq_true, if_false]
        refine ⟨h1, fun ⟨x, hx, hpx, hqx⟩ => ?_⟩
        rcases List.mem_cons.1 hx with rfl | hx
        · rw [hp] at hpx; cases hpx
        · exact h2 ⟨x, hx, hpx, hqx⟩

/-- What an operation waits for, and what that waits for. -/
theorem closures_ok {ops : List Oper} (T : Nat → Prop) (hT : ∀ (k : Nat) (o : Oper), ops[k]? = some o → T k → ∀ j ∈ afters o, T j) (i : Nat) (o : Oper) (ho : ops[i]? = some o) (hi : ∀ j ∈ afters o, T j) : ∀ x ∈ (closures ops).getD i [], T x := by
  have key : ∀ (l pre : List Oper) (acc : List (List Nat)), ops = pre ++ l → acc.length = pre.length → (∀ (i : Nat) (o : Oper), pre[i]? = some o → (∀ j ∈ afters o, T j) → ∀ x ∈ acc.getD i [], T x) →
      ∀ (i : Nat) (o : Oper), ops[i]? = some o → (∀ j ∈ afters o, T j) → ∀ x ∈ (l.foldl (fun acc o => acc ++ [(afters o).flatMap fun j => j :: acc.getD j []]) acc).getD i [], T x := by
    intro l
    induction l with
    | nil =>
      intro pre acc e hl hinv i o ho hi x hx
      rw [List.append_nil] at e
      exact hinv i o (e ▸ ho) hi x hx
    | cons q l ih =>
      intro pre acc e hl hinv
      refine ih (pre ++ [q]) (acc ++ [_]) (by rw [e]; simp) (by simp [hl]) fun i o ho hi x hx => ?_
      rcases Nat.lt_or_ge i pre.length with hlt | hge
      · rw [List.getElem?_append_left hlt] at ho
        refine hinv i o ho hi x ?_
        rwa [List.getD, List.getElem?_append_left (by omega), ← List.getD] at hx
      · rw [List.getElem?_append_right hge] at ho
        have h0 : i - pre.length = 0 := by
          have := (List.getElem?_eq_some_iff.1 ho).1
          simp at this
          omega
        rw [h0] at ho
        obtain rfl : q = o := by simpa using ho
        rw [List.getD, List.getElem?_append_right (by omega), show i - acc.length = 0 by omega] at hx
        simp only [List.getElem?_cons_zero, Option.getD_some, List.mem_flatMap] at hx
        obtain ⟨j, hj, hx⟩ := hx
        rcases List.mem_cons.1 hx with rfl | hx
        · exact hi x hj
        · rcases Nat.lt_or_ge j pre.length with hlt | hge
          · have hpj : pre[j]? = some pre[j] := List.getElem?_eq_getElem hlt
            refine hinv j _ hpj (hT j pre[j] ?_ (hi j hj)) x hx
            rw [e, List.getElem?_append_left hlt]
            exact hpj
          · rw [List.getD, List.getElem?_eq_none (by omega)] at hx
            cases hx
  exact key ops [] [] rfl rfl (fun i o h => by simp at h) i o ho hi
end Go.Eng

namespace Go.Eng
open Go.RowKit

structure DrawP (ops : List Oper) (m : Nat) (pl : List PE) : Prop where
  aft : ∀ (i : Nat) (o : Oper), ops[i]? = some o → ∀ j ∈ afters o, j < i
  tail : ∀ (i : Nat) (o : Oper), m ≤ i → ops[i]? = some o → ∀ j, j < i → j ∈ afters o
  still : ∀ p ∈ pl, Still p
  dst : ∀ p ∈ pl, ∀ q ∈ pl, p.1 ≠ q.1 → ∀ d, q.2.1.dst = some d → p.2.1.dst ≠ some d ∧ (d ∈ slotsOf ops p.2.1 → q.1 < p.1 ∧ q.1 ∈ afters p.2.1) ∧ (d ∈ p.2.2.bd → q.1 < p.1 ∧ q.1 ∈ (closures ops).getD p.1 [])
  mkr : ∀ p ∈ pl, ∀ q ∈ pl, p.1 ≠ q.1 → ∀ r ∈ keysOf q.2.2.nr, r ∈ p.2.2.rd → q.1 < p.1 ∧ q.1 ∈ (closures ops).getD p.1 []
  kill : ∀ p ∈ pl, ∀ q ∈ pl, p.1 ≠ q.1 → ∀ r ∈ q.2.2.kill, r ∈ p.2.2.rd → p.1 < q.1 ∧ p.1 ∈ (closures ops).getD q.1 []
  nr : ∀ p ∈ pl, ∀ q ∈ pl, p.1 ≠ q.1 → ∀ r ∈ keysOf q.2.2.nr, r ∉ keysOf p.2.2.nr
  rd : ∀ p ∈ pl, ∀ q ∈ pl, p.1 ≠ q.1 → ∀ r ∈ p.2.2.kill, r ∈ p.2.2.rd
  wrb : ∀ p ∈ pl, ∀ k ∈ keysOf p.2.2.sb, k ∈ p.2.2.bd
  wr : ∀ p ∈ pl, ∀ q ∈ pl, p.1 ≠ q.1 → ∀ k ∈ keysOf q.2.2.sb, k ∈ p.2.2.bd → (q.1 < p.1 ∧ q.1 ∈ (closures ops).getD p.1 []) ∨ (p.1 < q.1 ∧ p.1 ∈ (closures ops).getD q.1 [])

theorem mem_idx {pl : List PE} (hidx : pl.map (·.1) = List.range' 0 pl.length) {p : PE} (hp : p ∈ pl) : pl[p.1]? = some p := by
  obtain ⟨i, hi, e⟩ := List.mem_iff_getElem.1 hp
  have h1 : (pl.map (·.1))[i]? = some p.1 := by rw [List.getElem?_map, List.getElem?_eq_getElem hi, e]; rfl
  rw [hidx, List.getElem?_range' (by simpa using hi)] at h1
  have : i = p.1 := by simpa using h1
  rw [← this, List.getElem?_eq_getElem hi, e]

theorem drawOk_out {ops : List Oper} {m : Nat} {pl : List PE} (hidx : pl.map (·.1) = List.range' 0 pl.length) (hlen : pl.length = m) (hops : ∀ p ∈ pl, ops[p.1]? = some p.2.1) (h : drawOk ops m (pl.map fun p => p.2.2.foot) = true) : DrawP ops m pl := by
  unfold drawOk at h
  simp only [Bool.and_eq_true] at h
  obtain ⟨⟨⟨_, h1⟩, h2⟩, h3⟩ := h
  rw [List.all_eq_true] at h2 h3
  have hlt : ∀ p ∈ pl, p.1 < m := fun p hp => by rw [← hlen]; exact (List.getElem?_eq_some_iff.1 (mem_idx hidx hp)).1
  have hfs : ∀ p ∈ pl, (pl.map fun p => p.2.2.foot)[p.1]? = some p.2.2.foot := fun p hp => by rw [List.getElem?_map, mem_idx hidx hp]; rfl
  have one : ∀ p ∈ pl, (p.2.2.foot.upd = false ∧ ∀ k ∈ keysOf p.2.2.sb, k ∈ p.2.2.bd) ∧ ∀ q ∈ pl, p.1 ≠ q.1 →
      (∀ d, q.2.1.dst = some d → p.2.1.dst ≠ some d ∧ (d ∈ slotsOf ops p.2.1 → q.1 < p.1 ∧ q.1 ∈ afters p.2.1) ∧ (d ∈ p.2.2.bd → q.1 < p.1 ∧ q.1 ∈ (closures ops).getD p.1 [])) ∧
      (∀ r ∈ keysOf q.2.2.nr, r ∈ p.2.2.rd → q.1 < p.1 ∧ q.1 ∈ (closures ops).getD p.1 []) ∧
      (∀ r ∈ q.2.2.kill, r ∈ p.2.2.rd → p.1 < q.1 ∧ p.1 ∈ (closures ops).getD q.1 []) ∧
      (∀ r ∈ keysOf q.2.2.nr, r ∉ keysOf p.2.2.nr) ∧ (∀ r ∈ p.2.2.kill, r ∈ p.2.2.rd) ∧
      (∀ k ∈ keysOf q.2.2.sb, k ∈ p.2.2.bd → (q.1 < p.1 ∧ q.1 ∈ (closures ops).getD p.1 []) ∨ (p.1 < q.1 ∧ p.1 ∈ (closures ops).getD q.1 [])) := by
    intro p hp
    have hp1 := h3 p.1 (List.mem_range.2 (hlt p hp))
    rw [hops p hp, hfs p hp] at hp1
    simp only [Bool.and_eq_true] at hp1
    obtain ⟨⟨⟨hwb, hu⟩, _⟩, hq⟩ := hp1
    refine ⟨⟨by simpa using hu, fun k hk => ?_⟩, fun q hq' hne => ?_⟩
    · have := List.all_eq_true.1 hwb k hk
      rw [List.contains_eq_mem] at this
      exact of_decide_eq_true this
    rw [List.all_eq_true] at hq
    have hq1 := hq q.1 (List.mem_range.2 (hlt q hq'))
    rw [hops q hq', hfs q hq'] at hq1
    simp only [Bool.or_eq_true, Bool.and_eq_true] at hq1
    rcases hq1 with he | hq1
    · exact (hne (by simpa using he)).elim
    · obtain ⟨⟨⟨⟨⟨g1, g2⟩, g3⟩, g4⟩, g5⟩, g6⟩ := hq1
      rw [List.all_eq_true] at g2 g3 g4 g5 g6
      refine ⟨fun d hd => ?_, fun r hr hrd => ?_, fun r hr hrd => ?_, fun r hr hrd => ?_, fun r hr => ?_, fun k hk hkb => ?_⟩
      · rw [hd] at g1
        simp only [Bool.and_eq_true, Bool.or_eq_true, Bool.not_eq_true', bne_iff_ne, decide_eq_true_eq, List.contains_iff_mem, List.contains_eq_mem, decide_eq_false_iff_not] at g1
        obtain ⟨⟨a1, a2⟩, a3⟩ := g1
        exact ⟨a1, fun h => a2.resolve_left (fun h' => h' h), fun h => a3.resolve_left (fun h' => h' h)⟩
      · have := g2 r hr
        simp only [Bool.and_eq_true, Bool.or_eq_true, Bool.not_eq_true', decide_eq_true_eq, List.contains_eq_mem, decide_eq_false_iff_not] at this
        exact this.resolve_left (fun h' => h' hrd)
      · have := g3 r hr
        simp only [Bool.and_eq_true, Bool.or_eq_true, Bool.not_eq_true', decide_eq_true_eq, List.contains_eq_mem, decide_eq_false_iff_not] at this
        exact this.resolve_left (fun h' => h' hrd)
      · have := g4 r hr
        simp only [Bool.not_eq_true', List.contains_eq_mem, decide_eq_false_iff_not] at this
        exact this hrd
      · have := g5 r hr
        rw [List.contains_eq_mem] at this
        exact of_decide_eq_true this
      · have := g6 k hk
        simp only [Bool.and_eq_true, Bool.or_eq_true, Bool.not_eq_true', decide_eq_true_eq, List.contains_eq_mem, decide_eq_false_iff_not] at this
        rcases this with (h | h) | h
        · exact (h hkb).elim
        · exact .inl h
        · exact .inr h
  have gen : ∀ (i : Nat) (o : Oper), ops[i]? = some o → (∀ j ∈ afters o, j < i) ∧ (i < m ∨ waitsAll i o = true) := fun i o ho => by
    have hi : i < ops.length := (List.getElem?_eq_some_iff.1 ho).1
    have := h2 i (List.mem_range.2 hi)
    rw [ho] at this
    simp only [Bool.and_eq_true, Bool.or_eq_true, List.all_eq_true] at this
    exact ⟨fun j hj => Nat.le_of_ble_eq_true (this.1 j hj), this.2.imp (fun h => Nat.le_of_ble_eq_true h) id⟩
  refine ⟨fun i o ho => (gen i o ho).1, fun i o hm ho j hj => ?_, fun p hp => ?_, fun p hp q hq hne => ((one p hp).2 q hq hne).1, fun p hp q hq hne => ((one p hp).2 q hq hne).2.1, fun p hp q hq hne => ((one p hp).2 q hq hne).2.2.1, fun p hp q hq hne => ((one p hp).2 q hq hne).2.2.2.1, fun p hp q hq hne => ((one p hp).2 q hq hne).2.2.2.2.1, fun p hp => (one p hp).1.2, fun p hp q hq hne => ((one p hp).2 q hq hne).2.2.2.2.2⟩
  · have hw := (gen i o ho).2.resolve_left (by omega)
    unfold waitsAll at hw
    have := List.all_eq_true.1 hw j (List.mem_range.2 hj)
    simpa using this
  · have hu := (one p hp).1.1
    obtain ⟨i, o, e⟩ := p
    obtain ⟨V, nb, nr, kill, upd, sb, rd, bd⟩ := e
    unfold Eff.foot at hu
    dsimp only at hu
    split at hu
    · rfl
    · cases hu

theorem filt_agree {T t : PE → Bool} {l1 l2 : List PE} {p : PE} (hp : T p = false) (h1 : ∀ q ∈ l1, t q = true → T q = true) (h2 : ∀ q ∈ l2, t q = true → T q = true → False) : ((l1 ++ p :: l2).filter T).filter t = l1.filter t := by
  rw [List.filter_append, List.filter_append, List.filter_cons, hp]
  simp only [Bool.false_eq_true, if_false]
  have e2 : (l2.filter T).filter t = [] := List.filter_eq_nil_iff.2 fun q hq ht => h2 q (List.mem_filter.1 hq).1 ht (List.mem_filter.1 hq).2
  have e1 : (l1.filter T).filter t = l1.filter t := by
    rw [List.filter_filter]
    refine List.filter_congr fun q hq => ?_
    cases ht : t q with
    | true => simp [h1 q hq ht]
    | false => rfl
  rw [e1, e2, List.append_nil]

theorem filt_ins {T T' t : PE → Bool} {l1 l2 : List PE} {p : PE} (hp : T p = false) (hp' : T' p = true) (h1 : ∀ q ∈ l1, T' q = T q) (h2 : ∀ q ∈ l2, T' q = T q) (hlast : t p = true → ∀ q ∈ l2, T q = true → t q = true → False) :
    ((l1 ++ p :: l2).filter T').filter t = ((l1 ++ p :: l2).filter T ++ [p]).filter t := by
  have e1 : l1.filter T' = l1.filter T := List.filter_congr h1
  have e2 : l2.filter T' = l2.filter T := List.filter_congr h2
  have a1 : (l1 ++ p :: l2).filter T' = l1.filter T ++ p :: l2.filter T := by rw [List.filter_append, List.filter_cons, hp', e1, e2]; simp
  have a2 : (l1 ++ p :: l2).filter T = l1.filter T ++ l2.filter T := by rw [List.filter_append, List.filter_cons, hp]; simp
  rw [a1, a2]
  cases ht : t p with
  | true =>
    have e3 : (l2.filter T).filter t = [] := List.filter_eq_nil_iff.2 fun q hq ht' => hlast ht q (List.mem_filter.1 hq).1 (List.mem_filter.1 hq).2 ht'
    simp [List.filter_append, List.filter_cons, ht, e3]
  | false => simp [List.filter_append, List.filter_cons, ht]

theorem Den.drew {E : Env} {w0 : World} {C : List Nat} {n : Nat} {L : LS} {ρ : Val} {a : Act} {w : World} (h : Den E w0 C n L ρ a w) : Den E w0 C n L ρ a { w with drawn := w.drawn + 1 } :=
  ⟨h.size, h.defers, h.slots, fun k b hb => (h.blks k b hb).keep (LE.refl L ρ) rfl, fun r x hx => (h.rows r x hx).keep (Nat.le_refl _) (fun _ _ _ => rfl), h.apart, h.bound, ⟨h.kept.os, h.kept.tape, h.kept.output, h.kept.size, h.kept.block⟩, h.fixb, h.fixr⟩

theorem tail_any {P : Program} {ops : Array Oper} {Q : Exit → Act → World → Prop} (haft : ∀ (i : Nat) (o : Oper), ops[i]? = some o → ∀ j ∈ afters o, j < i) (m : Nat) (htail : ∀ (i : Nat) (o : Oper), m ≤ i → ops[i]? = some o → ∀ j, j < i → j ∈ afters o) :
    ∀ (k i fuel : Nat) (listed : Array Bool) (a : Act) (w : World), m ≤ i → i + k = ops.size → listed.size = ops.size → (∀ j, j < ops.size → (listed.getD j false = true ↔ j < i)) → k ≤ fuel → wpOps P ops Q (List.range' i k) a w → wpAny P .any ops Q fuel listed a w
  | 0, i, fuel, listed, a, w, hm, hik, hsz, hl, hf, h => by
    have hr : Region.ready .any ops listed = [] := by
      cases hrr : Region.ready .any ops listed with
      | nil => rfl
      | cons j l =>
        have hj : j ∈ Region.ready .any ops listed := by rw [hrr]; exact List.mem_cons_self
        obtain ⟨h1, o, ho, _⟩ := mem_ready.1 hj
        have hlt : j < ops.size := (Array.getElem?_eq_some_iff.1 ho).1
        have := (hl j hlt).2 (by omega)
        rw [Array.getD_eq_getD_getElem?] at h1 this
        rw [Array.getElem?_eq_getElem (by omega)] at h1 this
        simp at h1 this
        rw [h1] at this
        cases this
    cases fuel with
    | zero => exact ⟨hr, h⟩
    | succ f => exact ⟨fun _ => h, fun j hj => (by rw [hr] at hj; cases hj)⟩
  | k + 1, i, 0, listed, a, w, hm, hik, hsz, hl, hf, h => by omega
  | k + 1, i, f + 1, listed, a, w, hm, hik, hsz, hl, hf, h => by
    have hi : i < ops.size := by omega
    have hoi : ops[i]? = some ops[i] := Array.getElem?_eq_getElem hi
    have isr : i ∈ Region.ready .any ops listed := by
      refine mem_ready.2 ⟨?_, ops[i], hoi, fun e he hb => ?_⟩
      · have h1 : ¬ listed.getD i false = true := fun h => by have := (hl i hi).1 h; omega
        rw [Array.getD_eq_getD_getElem?, Array.getElem?_eq_getElem (by omega)] at h1 ⊢
        simpa using h1
      · have : e.on ∈ afters ops[i] := List.mem_map.2 ⟨e, List.mem_filter.2 ⟨by simpa using he, hb⟩, rfl⟩
        have hlt := haft i _ hoi _ this
        exact (hl e.on (by omega)).2 hlt
    refine ⟨fun hr => (by rw [hr] at isr; cases isr), fun j hj => ?_⟩
    obtain ⟨h1, o, ho, hw⟩ := mem_ready.1 hj
    have hjs : j < ops.size := (Array.getElem?_eq_some_iff.1 ho).1
    have hji : j = i := by
      rcases Nat.lt_trichotomy j i with hlt | he | hgt
      · have := (hl j hjs).2 hlt
        rw [Array.getD_eq_getD_getElem?, Array.getElem?_eq_getElem (by omega)] at h1 this
        simp at h1 this
        rw [h1] at this
        cases this
      · exact he
      · have hmem := htail j o (by omega) ho i hgt
        obtain ⟨e, he, heq⟩ := List.mem_map.1 hmem
        obtain ⟨he1, he2⟩ := List.mem_filter.1 he
        have := hw e (by simpa using he1) he2
        rw [heq] at this
        have := (hl i hi).1 this
        omega
    subst hji
    rw [range'_cons, wpOps_cons] at h
    refine wpOp_mono (fun a w h => ?_) h
    refine tail_any haft m htail k (j + 1) f _ a w (by omega) (by omega) (by simp [hsz]) (fun q hq => ?_) (by omega) h
    by_cases e : j = q
    · subst e
      have : (listed.setIfInBounds j true).getD j false = true := by simp [hsz, hq]
      simp [this]
    · rw [getD_set_ne false e, hl q hq]
      omega
end Go.Eng

namespace Go.Eng
open Go.RowKit

theorem keys_find {α : Type} : ∀ {l : List (Nat × α)} {r : Nat}, (∃ x, find l r = some x) ↔ r ∈ keysOf l
  | [], r => by simp [find, keysOf]
  | (k, y) :: l, r => by
    have ih := keys_find (l := l) (r := r)
    by_cases e : k = r
    · subst e; simp [find, keysOf]
    · have e' : ¬ r = k := fun h => e h.symm
      simp only [find, e, if_false, keysOf, List.mem_cons, e', false_or]
      exact ih

theorem tr_iff {r : Nat} {p : PE} : tr r p = true ↔ r ∈ keysOf p.2.2.nr ∨ r ∈ p.2.2.kill := by
  simp only [tr, Bool.or_eq_true, Option.isSome_iff_exists, decide_eq_true_eq]
  rw [keys_find]

theorem tb_iff {t : Nat} {p : PE} : tb t p = true ↔ p.2.1.dst = some t ∨ t ∈ keysOf p.2.2.sb := by
  simp only [tb, Bool.or_eq_true, Option.isSome_iff_exists, decide_eq_true_eq]
  rw [keys_find]

theorem tv_iff {t : Nat} {p : PE} : tv t p = true ↔ p.2.1.dst = some t := by simp [tv]

def inT (listed : Array Bool) (p : PE) : Bool := listed.getD p.1 false

section
variable {E : Env} {n : Nat} {ops : Array Oper} {m : Nat} {pl : List PE} {L0 L1 : LS}

/-- One more operation, and what it looks at is as it was in the text's order. -/
theorem draw_step (hP : DrawP ops.toList m pl) (hch : Chain E n ops 0 L0 pl L1) {listed : Array Bool} (hcl : ∀ (k : Nat) (o : Oper), ops.toList[k]? = some o → listed.getD k false = true → ∀ j ∈ afters o, listed.getD j false = true)
    {l1 l2 : List PE} {p : PE} (he : pl = l1 ++ p :: l2) (hp : listed.getD p.1 false = false) (haf : ∀ j ∈ afters p.2.1, listed.getD j false = true) (hsz : p.1 < listed.size) :
    StepOk E n ops p.1 p.2.1 p.2.2 (apps L0 (pl.filter (inT listed))) ∧ Fresh (apps L0 (pl.filter (inT listed))) p.2.1.dst p.2.2 ∧
      (apps L0 (pl.filter (inT listed))).app p.2.1.dst p.2.2 = apps L0 (pl.filter (inT (listed.setIfInBounds p.1 true))) := by
  obtain ⟨hidx, hop, hst, hfr⟩ := hch.get l1 p l2 he
  rw [Nat.zero_add] at hidx
  have hpm : p ∈ pl := by rw [he]; simp
  have hids := hch.idx
  have hop' : ops.toList[p.1]? = some p.2.1 := by simpa using hop
  have m1 : ∀ q ∈ l1, q ∈ pl ∧ q.1 < p.1 := fun q hq => by
    refine ⟨by rw [he]; exact List.mem_append_left _ hq, ?_⟩
    obtain ⟨a, b, e⟩ := List.append_of_mem hq
    have := (hch.get a q (b ++ p :: l2) (by rw [he, e]; simp)).1
    rw [hidx, this, e]
    simp only [List.length_append, List.length_cons]
    omega
  have m2 : ∀ q ∈ l2, q ∈ pl ∧ p.1 < q.1 := fun q hq => by
    refine ⟨by rw [he]; exact List.mem_append_right _ (List.mem_cons_of_mem _ hq), ?_⟩
    obtain ⟨a, b, e⟩ := List.append_of_mem hq
    have := (hch.get (l1 ++ p :: a) q b (by rw [he, e]; simp)).1
    rw [hidx, this]
    simp only [List.length_append, List.length_cons]
    omega
  have clP : ∀ x ∈ (closures ops.toList).getD p.1 [], listed.getD x false = true := closures_ok (fun x => listed.getD x false = true) hcl p.1 p.2.1 hop' haf
  have opq : ∀ q ∈ pl, ops.toList[q.1]? = some q.2.1 := fun q hq => by
    obtain ⟨a, b, e⟩ := List.append_of_mem hq
    have := (hch.get a q b e).2.1
    simpa using this
  have clQ : ∀ q ∈ pl, inT listed q = true → p.1 ∈ (closures ops.toList).getD q.1 [] → False := fun q hq hT hm => by
    have := closures_ok (fun x => listed.getD x false = true) hcl q.1 q.2.1 (opq q hq) (hcl q.1 q.2.1 (opq q hq) hT) p.1 hm
    rw [hp] at this
    cases this
  have hpT : inT listed p = false := hp
  have st1 : ∀ q ∈ pl.filter (inT listed), Still q := fun q hq => hP.still q (List.mem_filter.1 hq).1
  have st2 : ∀ q ∈ l1, Still q := fun q hq => hP.still q (m1 q hq).1
  obtain ⟨f1, f2, f3, _, _⟩ := apps_fold (pl.filter (inT listed)) L0 st1
  obtain ⟨g1, g2, g3, _, _⟩ := apps_fold l1 L0 st2
  -- the parts of the state that p looks at
  have agV : ∀ t, (∀ q ∈ l1, tv t q = true → inT listed q = true) → (∀ q ∈ l2, tv t q = true → inT listed q = true → False) → (apps L0 (pl.filter (inT listed))).v t = (apps L0 l1).v t := fun t a b => by
    rw [f1, g1, fold_v, fold_v t l1, he, filt_agree hpT a b]
  have agB : ∀ t, (∀ q ∈ l1, tb t q = true → inT listed q = true) → (∀ q ∈ l2, tb t q = true → inT listed q = true → False) → (apps L0 (pl.filter (inT listed))).b t = (apps L0 l1).b t := fun t a b => by
    rw [f2, g2, fold_b, fold_b t l1, he, filt_agree hpT a b]
  have agR : ∀ t, (∀ q ∈ l1, tr t q = true → inT listed q = true) → (∀ q ∈ l2, tr t q = true → inT listed q = true → False) → (apps L0 (pl.filter (inT listed))).r t = (apps L0 l1).r t := fun t a b => by
    rw [f3, g3, fold_r, fold_r t l1, he, filt_agree hpT a b]
  have ne1 : ∀ q ∈ l1, p.1 ≠ q.1 := fun q hq => by have := (m1 q hq).2; omega
  have ne2 : ∀ q ∈ l2, p.1 ≠ q.1 := fun q hq => by have := (m2 q hq).2; omega
  have lookV : ∀ t ∈ slotsOf ops.toList p.2.1, (apps L0 (pl.filter (inT listed))).v t = (apps L0 l1).v t := fun t ht => by
    refine agV t (fun q hq htq => ?_) (fun q hq htq _ => ?_)
    · exact haf _ (((hP.dst p hpm q (m1 q hq).1 (ne1 q hq) t (tv_iff.1 htq)).2.1 ht).2)
    · have := ((hP.dst p hpm q (m2 q hq).1 (ne2 q hq) t (tv_iff.1 htq)).2.1 ht).1
      have := (m2 q hq).2
      omega
  have lookB : ∀ t ∈ p.2.2.bd, (apps L0 (pl.filter (inT listed))).b t = (apps L0 l1).b t := fun t ht => by
    refine agB t (fun q hq htq => ?_) (fun q hq htq hT => ?_)
    · rcases tb_iff.1 htq with h | h
      · exact clP _ (((hP.dst p hpm q (m1 q hq).1 (ne1 q hq) t h).2.2 ht).2)
      · rcases hP.wr p hpm q (m1 q hq).1 (ne1 q hq) t h ht with ⟨_, h⟩ | ⟨h, _⟩
        · exact clP _ h
        · have := (m1 q hq).2
          omega
    · rcases tb_iff.1 htq with h | h
      · have := ((hP.dst p hpm q (m2 q hq).1 (ne2 q hq) t h).2.2 ht).1
        have := (m2 q hq).2
        omega
      · rcases hP.wr p hpm q (m2 q hq).1 (ne2 q hq) t h ht with ⟨h, _⟩ | ⟨_, h⟩
        · have := (m2 q hq).2
          omega
        · exact clQ q (m2 q hq).1 hT h
  have lookR : ∀ t ∈ p.2.2.rd, (apps L0 (pl.filter (inT listed))).r t = (apps L0 l1).r t := fun t ht => by
    refine agR t (fun q hq htq => ?_) (fun q hq htq hT => ?_)
    · rcases tr_iff.1 htq with h | h
      · exact clP _ (hP.mkr p hpm q (m1 q hq).1 (ne1 q hq) t h ht).2
      · have := (hP.kill p hpm q (m1 q hq).1 (ne1 q hq) t h ht).1
        have := (m1 q hq).2
        omega
    · rcases tr_iff.1 htq with h | h
      · have := (hP.mkr p hpm q (m2 q hq).1 (ne2 q hq) t h ht).1
        have := (m2 q hq).2
        omega
      · exact clQ q (m2 q hq).1 hT (hP.kill p hpm q (m2 q hq).1 (ne2 q hq) t h ht).2
  refine ⟨?_, ⟨fun b hb => ?_, fun k x hx => ?_⟩, ?_⟩
  · intro w0 C L ρ a w Q K h1 h2 h3 hD hf hn
    exact hst w0 C L ρ a w Q K (fun t ht => (h1 t ht).trans (lookV t ht)) (fun r hr => (h2 r hr).trans (lookR r hr)) (fun k hk => (h3 k hk).trans (lookB k hk)) hD hf hn
  · obtain ⟨k, hk, hn⟩ := hfr.b b hb
    refine ⟨k, hk, ?_⟩
    rw [agB k (fun q hq htq => ?_) (fun q hq htq hT => ?_)]
    · exact hn
    · rcases tb_iff.1 htq with h | h
      · exact ((hP.dst p hpm q (m1 q hq).1 (ne1 q hq) k h).1 hk).elim
      · have := ((hP.dst q (m1 q hq).1 p hpm (Ne.symm (ne1 q hq)) k hk).2.2 (hP.wrb q (m1 q hq).1 k h)).1
        have := (m1 q hq).2
        omega
    · rcases tb_iff.1 htq with h | h
      · exact (hP.dst p hpm q (m2 q hq).1 (ne2 q hq) k h).1 hk
      · exact clQ q (m2 q hq).1 hT ((hP.dst q (m2 q hq).1 p hpm (Ne.symm (ne2 q hq)) k hk).2.2 (hP.wrb q (m2 q hq).1 k h)).2
  · have hkk : k ∈ keysOf p.2.2.nr := keys_find.1 ⟨x, hx⟩
    rw [agR k (fun q hq htq => ?_) (fun q hq htq hT => ?_)]
    · exact hfr.r k x hx
    · rcases tr_iff.1 htq with h | h
      · exact (hP.nr p hpm q (m1 q hq).1 (ne1 q hq) k h hkk).elim
      · have hrd := hP.rd q (m1 q hq).1 p hpm (Ne.symm (ne1 q hq)) k h
        have := (hP.mkr q (m1 q hq).1 p hpm (Ne.symm (ne1 q hq)) k hkk hrd).1
        have := (m1 q hq).2
        omega
    · rcases tr_iff.1 htq with h | h
      · exact hP.nr p hpm q (m2 q hq).1 (ne2 q hq) k h hkk
      · have hrd := hP.rd q (m2 q hq).1 p hpm (Ne.symm (ne2 q hq)) k h
        exact clQ q (m2 q hq).1 hT (hP.mkr q (m2 q hq).1 p hpm (Ne.symm (ne2 q hq)) k hkk hrd).2
  · rw [← apps_snoc]
    have hp' : inT (listed.setIfInBounds p.1 true) p = true := by simp [inT, hsz]
    have same1 : ∀ q ∈ l1, inT (listed.setIfInBounds p.1 true) q = inT listed q := fun q hq => getD_set_ne false (ne1 q hq)
    have same2 : ∀ q ∈ l2, inT (listed.setIfInBounds p.1 true) q = inT listed q := fun q hq => getD_set_ne false (ne2 q hq)
    refine apps_eq (fun q hq => ?_) (fun q hq => hP.still q (List.mem_filter.1 hq).1) (fun t => ?_) (fun t => ?_) (fun r => ?_)
    · rcases List.mem_append.1 hq with hq | hq
      · exact st1 q hq
      · obtain rfl : q = p := by simpa using hq
        exact hP.still q hpm
    · rw [he]
      refine (filt_ins hpT hp' same1 same2 fun htp q hq _ htq => ?_).symm
      exact (hP.dst p hpm q (m2 q hq).1 (ne2 q hq) t (tv_iff.1 htq)).1 (tv_iff.1 htp)
    · rw [he]
      refine (filt_ins hpT hp' same1 same2 fun htp q hq hT htq => ?_).symm
      rcases tb_iff.1 htp with hp1 | hp1
      · rcases tb_iff.1 htq with h | h
        · exact (hP.dst p hpm q (m2 q hq).1 (ne2 q hq) t h).1 hp1
        · exact clQ q (m2 q hq).1 hT ((hP.dst q (m2 q hq).1 p hpm (Ne.symm (ne2 q hq)) t hp1).2.2 (hP.wrb q (m2 q hq).1 t h)).2
      · rcases tb_iff.1 htq with h | h
        · have := ((hP.dst p hpm q (m2 q hq).1 (ne2 q hq) t h).2.2 (hP.wrb p hpm t hp1)).1
          have := (m2 q hq).2
          omega
        · rcases hP.wr p hpm q (m2 q hq).1 (ne2 q hq) t h (hP.wrb p hpm t hp1) with ⟨h1, _⟩ | ⟨_, h1⟩
          · have := (m2 q hq).2
            omega
          · exact clQ q (m2 q hq).1 hT h1
    · rw [he]
      refine (filt_ins hpT hp' same1 same2 fun htp q hq hT htq => ?_).symm
      rcases tr_iff.1 htp with hp1 | hp1
      · rcases tr_iff.1 htq with h | h
        · exact hP.nr p hpm q (m2 q hq).1 (ne2 q hq) r h hp1
        · have hrd := hP.rd q (m2 q hq).1 p hpm (Ne.symm (ne2 q hq)) r h
          exact clQ q (m2 q hq).1 hT (hP.mkr q (m2 q hq).1 p hpm (Ne.symm (ne2 q hq)) r hp1 hrd).2
      · have hrd := hP.rd p hpm q (m2 q hq).1 (ne2 q hq) r hp1
        rcases tr_iff.1 htq with h | h
        · have := (hP.mkr p hpm q (m2 q hq).1 (ne2 q hq) r h hrd).1
          have := (m2 q hq).2
          omega
        · exact clQ q (m2 q hq).1 hT (hP.kill p hpm q (m2 q hq).1 (ne2 q hq) r h hrd).2

def cnt (listed : Array Bool) (n : Nat) : Nat := ((List.range n).filter fun j => !listed.getD j false).length

theorem draw_any (hP : DrawP ops.toList m pl) (hch : Chain E n ops 0 L0 pl L1) (hlen : pl.length = m) (hm : m ≤ ops.size) {w0 : World} {C : List Nat} {Q : Exit → Act → World → Prop}
    (hQ : ∀ ρ a w, Den E w0 C n L1 ρ a w → wpOps E.P ops Q (List.range' m (ops.size - m)) a w) : ∀ (fuel : Nat) (listed : Array Bool) (ρ : Val) (a : Act) (w : World), listed.size = ops.size → (∀ j, listed.getD j false = true → j < m) →
      (∀ (k : Nat) (o : Oper), ops.toList[k]? = some o → listed.getD k false = true → ∀ j ∈ afters o, listed.getD j false = true) → cnt listed ops.size ≤ fuel → Den E w0 C n (apps L0 (pl.filter (inT listed))) ρ a w → wpAny E.P .any ops Q fuel listed a w := by
  have haft : ∀ (i : Nat) (o : Oper), ops[i]? = some o → ∀ j ∈ afters o, j < i := fun i o ho => hP.aft i o (by simpa using ho)
  have htail : ∀ (i : Nat) (o : Oper), m ≤ i → ops[i]? = some o → ∀ j, j < i → j ∈ afters o := fun i o hi ho => hP.tail i o hi (by simpa using ho)
  have hids := hch.idx
  have full : ∀ (fuel : Nat) (listed : Array Bool) (ρ : Val) (a : Act) (w : World), listed.size = ops.size → (∀ j, listed.getD j false = true → j < m) → (∀ j, j < m → listed.getD j false = true) → cnt listed ops.size ≤ fuel → Den E w0 C n (apps L0 (pl.filter (inT listed))) ρ a w → wpAny E.P .any ops Q fuel listed a w := by
    intro fuel listed ρ a w hsz h1 h2 hc hD
    have e : pl.filter (inT listed) = pl := List.filter_eq_self.2 fun q hq => h2 q.1 (by
      have := mem_idx hids hq
      rw [← hlen]
      exact (List.getElem?_eq_some_iff.1 this).1)
    rw [e, ← hch.apps] at hD
    refine tail_any haft m htail (ops.size - m) m fuel listed a w (Nat.le_refl _) (by omega) hsz (fun j _ => ⟨h1 j, h2 j⟩) ?_ (hQ ρ a w hD)
    refine Nat.le_trans ?_ hc
    unfold cnt
    have : (List.range' m (ops.size - m)).length ≤ ((List.range ops.size).filter fun j => !listed.getD j false).length := by
      refine List.Sublist.length_le ?_
      have e1 : List.range ops.size = List.range' 0 m ++ List.range' m (ops.size - m) := by
        rw [List.range_eq_range']
        have := List.range'_append (s := 0) (m := m) (n := ops.size - m) (step := 1)
        simp only [Nat.one_mul, Nat.zero_add] at this
        rw [this]
        congr 1
        omega
      rw [e1, List.filter_append]
      have e2 : (List.range' m (ops.size - m)).filter (fun j => !listed.getD j false) = List.range' m (ops.size - m) := List.filter_eq_self.2 fun j hj => by
        obtain ⟨q, hq, rfl⟩ := List.mem_range'.1 hj
        have : ¬ listed.getD (m + 1 * q) false = true := fun h => by have := h1 _ h; omega
        simpa using this
      rw [e2]
      exact List.sublist_append_right _ _
    simpa using this
  intro fuel
  induction fuel with
  | zero =>
    intro listed ρ a w hsz h1 hcl hc hD
    refine full 0 listed ρ a w hsz h1 (fun j hj => ?_) hc hD
    cases hb : listed.getD j false with
    | true => rfl
    | false =>
      have : j ∈ (List.range ops.size).filter fun j => !listed.getD j false := List.mem_filter.2 ⟨List.mem_range.2 (by omega), by simp [hb]⟩
      have := List.length_pos_of_mem this
      unfold cnt at hc
      omega
  | succ f ih =>
    intro listed ρ a w hsz h1 hcl hc hD
    by_cases hall : ∀ j, j < m → listed.getD j false = true
    · exact full (f + 1) listed ρ a w hsz h1 hall hc hD
    · obtain ⟨j0, hj0, hmin⟩ := least (fun j => j < m ∧ ¬ listed.getD j false = true) (Classical.choose (Classical.not_forall.1 hall)) (by
        have := Classical.choose_spec (Classical.not_forall.1 hall)
        exact Classical.not_imp.1 this)
      have rd0 : ∀ i o, ops[i]? = some o → i < ops.size → (listed.getD i true = false ↔ listed.getD i false = false) := fun i o ho hi => by
        rw [Array.getD_eq_getD_getElem?, Array.getD_eq_getD_getElem?, Array.getElem?_eq_getElem (by omega)]
        simp
      have isr : j0 ∈ Region.ready .any ops listed := by
        have hjs : j0 < ops.size := by omega
        refine mem_ready.2 ⟨(rd0 j0 ops[j0] (Array.getElem?_eq_getElem hjs) hjs).2 (by simpa using hj0.2), ops[j0], Array.getElem?_eq_getElem hjs, fun e he hb => ?_⟩
        have hmem : e.on ∈ afters ops[j0] := List.mem_map.2 ⟨e, List.mem_filter.2 ⟨by simpa using he, hb⟩, rfl⟩
        have hlt := haft j0 _ (Array.getElem?_eq_getElem hjs) _ hmem
        cases hb2 : listed.getD e.on false with
        | true => rfl
        | false =>
          have := hmin e.on ⟨by omega, by simp [hb2]⟩
          omega
      refine ⟨fun hr => (by rw [hr] at isr; cases isr), fun i hi => ?_⟩
      obtain ⟨hi0, o, ho, hw⟩ := mem_ready.1 hi
      have his : i < ops.size := (Array.getElem?_eq_some_iff.1 ho).1
      have hi1 := (rd0 i o ho his).1 hi0
      have haf : ∀ j ∈ afters o, listed.getD j false = true := fun j hj => by
        obtain ⟨e, he, heq⟩ := List.mem_map.1 hj
        obtain ⟨he1, he2⟩ := List.mem_filter.1 he
        have := hw e (by simpa using he1) he2
        rwa [heq] at this
      have him : i < m := by
        rcases Nat.lt_or_ge i m with h | h
        · exact h
        · exact (hj0.2 (haf j0 (htail i o h ho j0 (by omega)))).elim
      have hget : pl[i]? = some pl[i] := List.getElem?_eq_getElem (by omega)
      obtain ⟨l1, l2, he, hl1⟩ : ∃ l1 l2, pl = l1 ++ pl[i] :: l2 ∧ l1.length = i := ⟨pl.take i, pl.drop (i + 1), by rw [List.getElem_cons_drop, List.take_append_drop], by rw [List.length_take]; omega⟩
      obtain ⟨hidx, hop, _, _⟩ := hch.get l1 pl[i] l2 he
      rw [Nat.zero_add, hl1] at hidx
      rw [hidx, ho] at hop
      have hop := Option.some.inj hop
      obtain ⟨s1, s2, s3⟩ := draw_step hP hch hcl he (by rw [hidx]; exact hi1) (by rw [← hop]; exact haf) (by rw [hidx]; omega)
      rw [hidx] at s1 s3
      refine s1 w0 C _ ρ a w Q _ (fun _ _ => rfl) (fun _ _ => rfl) (fun _ _ => rfl) hD s2 fun ρ' a' w' hD' => ?_
      rw [s3] at hD'
      have hset : (listed.setIfInBounds i true).getD i false = true := by simp [hsz, his]
      refine ih (listed.setIfInBounds i true) ρ' a' w' (by simp [hsz]) (fun j hj => ?_) (fun k o' ho' hk j hj => ?_) ?_ hD'
      · by_cases e : i = j
        · omega
        · rw [getD_set_ne false e] at hj; exact h1 j hj
      · by_cases e : i = k
        · subst e
          have ho2 : ops.toList[i]? = some o := by simpa using ho
          rw [ho2] at ho'
          cases ho'
          exact getD_set_true (haf j hj)
        · rw [getD_set_ne false e] at hk
          exact getD_set_true (hcl k o' ho' hk j hj)
      · have hl := (filt_lt (p := fun j => !listed.getD j false) (q := fun j => !(listed.setIfInBounds i true).getD j false) (List.range ops.size) (fun x hx => by
          by_cases e : i = x
          · subst e; rw [hset] at hx; cases hx
          · rwa [getD_set_ne false e] at hx)).2 ⟨i, List.mem_range.2 his, by simp [hi1], by rw [hset]; rfl⟩
        unfold cnt at hc ⊢
        omega

theorem drawn_ok (hE : EnvOk E) {Γ : List (Nat × Ctr)} (hΓ : ∀ f c, find Γ f = some c → c.holds E f) (hmo : E.P.follows .mixedOrders = true) : DrawnOk E Γ := by
  intro id ops S K h
  obtain ⟨pl, S1, A1, hK, _, hlen, hn1, hch⟩ := firstK_out hE hΓ (tailFrom ops.toList) 0 ops.toList (by simp) h
  rw [Nat.zero_add] at hK
  obtain ⟨hd, hK⟩ := hK
  obtain ⟨S', A', hK, sA, hn2, hrun⟩ := runK_out hE hΓ (ops.toList.drop (tailFrom ops.toList)) (tailFrom ops.toList) rfl hK
  obtain ⟨hs, hK⟩ := sidesK_out hK
  refine ⟨S', hK, hn2.trans hn1, fun fb fr w0 C ρ a w Q hD hq => ?_⟩
  have hch := hch (hs.mono sA) fb fr
  have hm : tailFrom ops.toList ≤ ops.size := by
    unfold tailFrom
    simp only [Array.length_toList]
    omega
  have hops : ∀ p ∈ pl, ops.toList[p.1]? = some p.2.1 := fun q hq => by
    obtain ⟨a, b, e⟩ := List.append_of_mem hq
    have := (hch.get a q b e).2.1
    simpa using this
  have hP := drawOk_out hch.idx hlen hops hd
  refine wp_region_any hmo ?_
  have hnone : ∀ j, (Array.replicate ops.size false).getD j false = false := fun j => by
    rw [Array.getD_eq_getD_getElem?, Array.getElem?_replicate]
    split <;> rfl
  refine draw_any (w0 := w0) (C := C) hP hch hlen hm (fun ρ' a' w' hD' => ?_) ops.size _ ρ a _ (by simp) (fun j hj => by rw [hnone] at hj; cases hj) (fun k o _ hk => by rw [hnone] at hk; cases hk) ?_ ?_
  · have := hrun fb fr w0 C ρ' a' w' Q hs (by rw [hn1]; exact hD') (fun ρ2 a2 w2 h2 => hq ρ2 a2 w2 (by rw [hn1] at h2; exact h2))
    simpa using this
  · unfold cnt
    refine Nat.le_trans (List.length_filter_le _ _) (by simp)
  · have e : pl.filter (inT (Array.replicate ops.size false)) = [] := List.filter_eq_nil_iff.2 fun q _ => by simp only [inT, hnone]; simp
    rw [e]
    exact hD.drew
end
end Go.Eng

namespace Go.Eng
open Go.RowKit

def denApp : (a b : List CT) → denC a → denC b → denC (a ++ b)
  | [], _, _, e => e
  | _ :: a, b, (d, ds), e => (d, denApp a b ds e)

theorem HC.app {E : Env} {w : World} {own : Bool} : ∀ {a b : List CT} {d : denC a} {e : denC b} {us vs : List Value} {B C : List Nat}, HC E w own a d us B → HC E w own b e vs C → HC E w own (a ++ b) (denApp a b d e) (us ++ vs) (B ++ C)
  | [], b, d, e, us, vs, B, C, h, k => by obtain ⟨rfl, rfl⟩ := h; exact k
  | .leaf l :: a, b, (d, ds), e, us, vs, B, C, ⟨us', e1, h⟩, k => by subst e1; exact ⟨us' ++ vs, rfl, h.app k⟩
  | .row t :: a, b, (d, ds), e, us, vs, B, C, ⟨x, c, us', B', e1, ho, hB, h⟩, k => by
    subst e1 hB
    exact ⟨x, c, us' ++ vs, B' ++ C, rfl, ho, by rw [List.append_assoc], h.app k⟩

def wfL : Leaf → Prop
  | .int n => -9223372036854775808 ≤ n ∧ n ≤ 9223372036854775807
  | .u8 n => 0 ≤ n ∧ n ≤ 255
  | .bool _ => True
  | .str s => s.length ≤ maxLen

def wfC : (cts : List CT) → denC cts → Prop
  | [], _ => True
  | .leaf l :: cts, (d, ds) => wfL (l.leaf d) ∧ wfC cts ds
  | .row t :: cts, (d, ds) => (d.length ≤ maxLen ∧ ∀ y ∈ d, ∀ l ∈ t.lv y, wfL l) ∧ wfC cts ds

theorem wfC_app : ∀ {a b : List CT} {d : denC a} {e : denC b}, wfC a d → wfC b e → wfC (a ++ b) (denApp a b d e)
  | [], b, d, e, _, k => k
  | .leaf l :: a, b, (d, ds), e, h, k => ⟨h.1, wfC_app h.2 k⟩
  | .row t :: a, b, (d, ds), e, h, k => ⟨h.1, wfC_app h.2 k⟩

deriving instance DecidableEq for LT

/-- The cells are leaves of these kinds. -/
def leafs : List CT → Option (List LT)
  | [] => some []
  | .leaf l :: r => match leafs r with
    | some ls => some (l :: ls)
    | none => none
  | .row _ :: _ => none

mutual
def layT (E : Env) : Nat → TypeId → Option (List CT)
  | 0, _ => none
  | k + 1, t => match E.P.underlying t with
    | some .bool => some [.leaf .bool]
    | some (.int .i64) => some [.leaf .int]
    | some (.int .u8) => some [.leaf .u8]
    | some .string => some [.leaf .str]
    | some (.slice e) => match E.rd e, layT E k e with
      | some ty, some cs => if leafs cs = some ty.lts ∧ E.P.cellsOf e = ty.n then some [.row ty] else none
      | _, _ => none
    | some (.struct fs) => match layFs E k fs.toList 0 with
      | some cs => if cs.length = E.P.cellsOf t then some cs else none
      | none => none
    | _ => none
def layFs (E : Env) : Nat → List Field → Nat → Option (List CT)
  | _, [], _ => some []
  | 0, _ :: _, _ => none
  | k + 1, f :: fs, off => match layT E k f.type with
    | some cs => if f.offset = off ∧ cs.length = E.P.cellsOf f.type then
        match layFs E k fs (off + cs.length) with
        | some r => some (cs ++ r)
        | none => none
      else none
    | none => none
end

section
variable {E : Env} {w : World} {H : Type} {enc : TypeId × Value → H} {sp : Nat → Bool} {held : Bool}

theorem HC.leafs_of : ∀ {cts : List CT} {lts : List LT} {d : denC cts} {us : List Value} {B : List Nat}, leafs cts = some lts → HC E w false cts d us B → wfC cts d → ∃ e : denL lts, us = (leavesOf lts e).map Leaf.val ∧ ∀ l ∈ leavesOf lts e, wfL l
  | [], lts, d, us, B, h, hc, _ => by
    obtain rfl : [] = lts := Option.some.inj h
    exact ⟨(), hc.1, fun l hl => by cases hl⟩
  | .leaf l :: cts, lts, (d, ds), us, B, h, hc, hw => by
    simp only [leafs] at h
    split at h
    · rename_i ls hls
      obtain rfl := Option.some.inj h
      obtain ⟨us', rfl, hc⟩ := hc
      obtain ⟨e, rfl, he⟩ := HC.leafs_of hls hc hw.2
      refine ⟨(d, e), rfl, fun l' hl => ?_⟩
      rcases List.mem_cons.1 hl with rfl | hl
      · exact hw.1
      · exact he l' hl
    · cases h
  | .row t :: cts, lts, d, us, B, h, _, _ => by cases h

theorem trod_bool {n : Nat} {t : TypeId} {cs : List Value} {x : DataW H × List MemPlace} (hu : E.P.underlying t = some .bool) (h : DataW.trod enc E.P w 0 sp held n t cs = some x) : ∃ b, cs = [.bool b] := by
  cases n with
  | zero => cases h
  | succ n =>
    unfold DataW.trod at h
    rw [hu] at h
    split at h <;> first | exact ⟨_, rfl⟩ | (simp_all; done) | skip

theorem trod_int' {n : Nat} {t : TypeId} {k : IntKind} {cs : List Value} {x : DataW H × List MemPlace} (hu : E.P.underlying t = some (.int k)) (h : DataW.trod enc E.P w 0 sp held n t cs = some x) : ∃ m, cs = [.int k m] ∧ (Lit.int k m).wf = true := by
  cases n with
  | zero => cases h
  | succ n =>
    unfold DataW.trod at h
    rw [hu] at h
    split at h
    case h_2 k' k'' m hk =>
      split at h
      · rename_i hh
        obtain ⟨rfl, hw⟩ := hh
        injection hk with hk
        injection hk with hk
        subst hk
        exact ⟨m, rfl, hw⟩
      · cases h
    all_goals simp_all

theorem trod_string {n : Nat} {t : TypeId} {cs : List Value} {x : DataW H × List MemPlace} (hu : E.P.underlying t = some .string) (h : DataW.trod enc E.P w 0 sp held n t cs = some x) : ∃ s : ByteArray, cs = [.string s] ∧ s.size ≤ maxLen := by
  cases n with
  | zero => cases h
  | succ n =>
    unfold DataW.trod at h
    rw [hu] at h
    split at h
    case h_4 s hk =>
      split at h
      · rename_i hh
        exact ⟨s, rfl, hh⟩
      · cases h
    all_goals simp_all

theorem trod_slice {n : Nat} {t e : TypeId} {cs : List Value} {x : DataW H × List MemPlace} (hu : E.P.underlying t = some (.slice e)) (h : DataW.trod enc E.P w 0 sp held n t cs = some x) :
    cs = [.slice none 0 0] ∨ ∃ m a len cap, n = m + 1 ∧ cs = [.slice (some a) len cap] ∧ len ≤ cap ∧ cap ≤ maxLen ∧ ∀ i, i < len → ∃ us y, w.cells? 0 (a.add (i * E.P.cellsOf e)) (E.P.cellsOf e) = some us ∧ DataW.trod enc E.P w 0 sp held m e us = some y := by
  cases n with
  | zero => cases h
  | succ n =>
    unfold DataW.trod at h
    rw [hu] at h
    split at h
    case h_7 e' hk => exact .inl rfl
    case h_8 e' a len cap hk =>
      injection hk with hk
      injection hk with hk
      subst hk
      dsimp only at h
      split at h
      · rename_i hh
        refine .inr ⟨n, a, len, cap, rfl, rfl, hh.2.1, hh.2.2, fun i hi => ?_⟩
        obtain ⟨elems, he, _⟩ := Option.bind_eq_some_iff.1 h
        have hmem := List.mem_range.2 hi
        have : ∃ y, ((w.cells? 0 (a.add (i * E.P.cellsOf e)) (E.P.cellsOf e)).bind (DataW.trod enc E.P w 0 sp held n e)) = some y := by
          have key : ∀ (l : List Nat) (r : List (DataW H × List MemPlace)), l.mapM (fun i => (w.cells? 0 (a.add (i * E.P.cellsOf e)) (E.P.cellsOf e)).bind (DataW.trod enc E.P w 0 sp held n e)) = some r → ∀ i ∈ l, ∃ y, ((w.cells? 0 (a.add (i * E.P.cellsOf e)) (E.P.cellsOf e)).bind (DataW.trod enc E.P w 0 sp held n e)) = some y := by
            intro l
            induction l with
            | nil => intro r _ i hi; cases hi
            | cons j l ih =>
              intro r hr i hi
              rw [List.mapM_cons] at hr
              obtain ⟨y, hy, hr⟩ := Option.bind_eq_some_iff.1 hr
              obtain ⟨ys, hys, _⟩ := Option.bind_eq_some_iff.1 hr
              rcases List.mem_cons.1 hi with rfl | hi
              · exact ⟨y, hy⟩
              · exact ih ys hys i hi
          exact key _ _ he i hmem
        obtain ⟨y, hy⟩ := this
        obtain ⟨us, h1, h2⟩ := Option.bind_eq_some_iff.1 hy
        exact ⟨us, y, h1, h2⟩
      · cases h
    all_goals simp_all

theorem trod_struct {n : Nat} {t : TypeId} {fs : Array Field} {cs : List Value} {x : DataW H × List MemPlace} (hu : E.P.underlying t = some (.struct fs)) (h : DataW.trod enc E.P w 0 sp held n t cs = some x) :
    ∃ m xs, n = m + 1 ∧ cs.length = E.P.cellsOf t ∧ (fs.toList.mapM fun f => DataW.trod enc E.P w 0 sp held m f.type ((cs.drop f.offset).take (E.P.cellsOf f.type))) = some xs := by
  cases n with
  | zero => cases h
  | succ n =>
    unfold DataW.trod at h
    rw [hu] at h
    split at h
    case h_9 fs' hk =>
      injection hk with hk
      injection hk with hk
      subst hk
      split at h
      · rename_i hh
        obtain ⟨xs, hxs, _⟩ := Option.map_eq_some_iff.1 h
        exact ⟨n, xs, rfl, hh, hxs⟩
      · cases h
    all_goals simp_all
end
end Go.Eng

