/- The symbolic executor over the model of Go, with its proof; part 3. It speaks of no law by itself. -/
import Derived.Test.YtnpeomhpbakgnaaGreatEng2
set_option linter.unusedVariables false
set_option linter.unusedSimpArgs false
namespace Go.Eng
open Go.RowKit

section
variable {E : Env} {w0 : World} {C : List Nat} {n : Nat} {L : LS} {ρ : Val} {a : Act} {w : World}

theorem Den.block (hD : Den E w0 C n L ρ a w) {d : Nat} {t : TypeId} {cs : List SC} {us : List Value} (hf : L.b d = none) (hu : Oks L ρ cs us) :
  ∃ ρ', Den E w0 C n (L.app (some d) ⟨.a (.c (.ptr d 0)), some ⟨t, cs⟩, [], [], [], [], [], []⟩) ρ' (a.put (some d) (.pointer (some ⟨w.heap.size, 0, none⟩))) (w.alloc (.cells us.toArray t)) := by
 generalize hL' : L.app (some d) ⟨.a (.c (.ptr d 0)), some ⟨t, cs⟩, [], [], [], [], [], []⟩ = L'
 have hb : ∀ k, L'.b k = if k = d then some ⟨t, cs⟩ else L.b k := fun k => by
  subst hL'
  by_cases e : k = d
  ·subst e; simp [LS.app, find]
  ·simp [LS.app, find, e, Ne.symm e]
 have hr : ∀ k, L'.r k = L.r k := fun k => by subst hL'; simp [LS.app, find]
 let ρ' : Val := { ρ with bl := fun k => if k = d then w.heap.size else ρ.bl k }
 have hle : LE L ρ L' ρ' := by
  refine ⟨fun k b h => ?_, fun r e h => ⟨e, (hr r).trans h, fun x hx hl => ⟨x, hx, hl, rfl, rfl, rfl, rfl⟩⟩, fun _ _ _ => ⟨rfl, rfl⟩⟩
  have hkd : k ≠ d := by rintro rfl; rw [hf] at h; cases h
  exact ⟨⟨b, by rw [hb, if_neg hkd]; exact h⟩, by simp [ρ', hkd]⟩
 refine ⟨ρ', hD.next (X := fun _ => False) (New := (· = .b d)) (by subst hL'; rfl) (by subst hL'; rfl) (fun i => by subst hL'; rfl) hle (V := .a (.c (.ptr d 0))) (show SC.ok L' ρ' (.ptr d 0) _ from ⟨⟨⟨t, cs⟩, by rw [hb, if_pos rfl]⟩, by simp [ρ']⟩) rfl rfl rfl (by simp) (fun k hk _ => Below.heap_alloc w _ k hk) (fun _ h => h.elim) ?_ ?_ ?_ ?_ ?_⟩
 ·intro k b h
  rw [hb] at h
  split at h
  ·rename_i e
   subst e
   obtain rfl := Option.some.inj h
   exact ⟨us.toArray, by simp only [ρ', if_true]; exact heap_alloc_new w _, by simpa using hu.mono hle⟩
  ·rename_i e
   have := hD.blks k b h
   simp only [ρ', e, if_false]
   exact this.keep hle (Below.heap_alloc w _ _ this.lt)
 ·intro r x h
  rw [hr] at h
  exact (hD.rows r x h).keep (by simp) fun ad had hl => Below.heap_alloc w _ _ ((hD.rows r x h).lt hl ad had)
 ·intro y hy
  cases y with
  | b k =>
   by_cases e : k = d
   ·subst e; exact .inl rfl
   ·refine .inr ⟨?_, by simp [Val.at, ρ', e], fun h => ?_⟩
    ·obtain ⟨b, h⟩ := hy; rw [hb, if_neg e] at h; exact ⟨b, h⟩
    ·obtain ⟨b, h⟩ := h; rw [hb, if_neg e] at h; exact ⟨b, h⟩
  | r r => exact .inr ⟨by simpa [LS.has, hr] using hy, rfl, fun h => by simpa [LS.own, hr] using h⟩
 ·rintro y rfl _ g hg
  left
  simp only [Val.at, ρ', if_true, Option.some.injEq] at hg
  omega
 ·rintro x y rfl rfl _ _ hne
  exact (hne rfl).elim

theorem Den.row (hD : Den E w0 C n L ρ a w) {d : Option Nat} {k : Nat} {x : Row} {V : SV} {rd : List Nat} {v : Value} {c : Nat} {o : Obj} (hf : L.r k = none) (hown : x.own = true) (hx : OwnR E (w.alloc o) x.t (some ⟨w.heap.size, 0, none⟩) c x.xs)
  (hV : ∀ L' ρ', L'.r k = some (some x) → ρ'.ra k = some ⟨w.heap.size, 0, none⟩ → ρ'.rc k = c → SV.ok L' ρ' V v) :
  ∃ ρ', Den E w0 C n (L.app d ⟨V, none, [(k, x)], [], [], [], rd, []⟩) ρ' (a.put d v) (w.alloc o) := by
 generalize hL' : L.app d ⟨V, none, [(k, x)], [], [], [], rd, []⟩ = L'
 have hb : ∀ j, L'.b j = L.b j := fun j => by subst hL'; simp [LS.app, find]
 have hr : ∀ j, L'.r j = if k = j then some (some x) else L.r j := fun j => by
  subst hL'
  by_cases e : k = j
  ·simp [LS.app, find, e]
  ·simp [LS.app, find, e]
 let ρ' : Val := { ρ with ra := fun j => if k = j then some ⟨w.heap.size, 0, none⟩ else ρ.ra j, rc := fun j => if k = j then c else ρ.rc j }
 have hle : LE L ρ L' ρ' := by
  refine ⟨fun j b h => ⟨⟨b, (hb j).trans h⟩, rfl⟩, fun r e h => ?_, fun r e h => by
   have hkd : k ≠ r := by rintro rfl; rw [hf] at h; cases h
   exact ⟨by simp [ρ', hkd], by simp [ρ', hkd]⟩⟩
  have hkd : k ≠ r := by rintro rfl; rw [hf] at h; cases h
  exact ⟨e, by rw [hr, if_neg hkd]; exact h, fun x hx hl => ⟨x, hx, hl, rfl, rfl, by simp [ρ', hkd], by simp [ρ', hkd]⟩⟩
 refine ⟨ρ', hD.next (X := fun _ => False) (New := (· = .r k)) (by subst hL'; rfl) (by subst hL'; rfl) (fun i => by subst hL'; rfl) hle (hV L' ρ' (by rw [hr, if_pos rfl]) (by simp [ρ']) (by simp [ρ'])) rfl rfl rfl (by simp) (fun k hk _ => Below.heap_alloc w _ k hk) (fun _ h => h.elim) ?_ ?_ ?_ ?_ ?_⟩
 ·intro j b h
  rw [hb] at h
  have := hD.blks j b h
  exact this.keep hle (Below.heap_alloc w _ _ this.lt)
 ·intro r y h
  rw [hr] at h
  split at h
  ·rename_i e
   subst e
   obtain rfl := Option.some.inj (Option.some.inj h)
   simp only [ρ', if_true]
   exact OwnR.ok hx hown
  ·rename_i e
   simp only [ρ', e, if_false]
   exact (hD.rows r y h).keep (by simp) fun ad had hl => Below.heap_alloc w _ _ ((hD.rows r y h).lt hl ad had)
 ·intro y hy
  cases y with
  | b j => exact .inr ⟨by simpa [LS.has, hb] using hy, rfl, fun h => by simpa [LS.own, hb] using h⟩
  | r r =>
   by_cases e : k = r
   ·subst e; exact .inl rfl
   ·refine .inr ⟨?_, by simp [Val.at, ρ', e], fun h => ?_⟩
    ·obtain ⟨x, h, hl⟩ := hy; rw [hr, if_neg e] at h; exact ⟨x, h, hl⟩
    ·obtain ⟨x, h, hl⟩ := h; rw [hr, if_neg e] at h; exact ⟨x, h, hl⟩
 ·rintro y rfl _ g hg
  left
  simp only [Val.at, ρ', if_true, Option.map_some, Option.some.injEq] at hg
  omega
 ·rintro x y rfl rfl _ _ hne
  exact (hne rfl).elim

theorem viewRow_own {own : Bool} {t : ETy} {xs : List t.T} : (viewRow own t xs).own = own := rfl
theorem viewRow_live {own : Bool} {t : ETy} {xs : List t.T} : (viewRow own t xs).live := Row.live_none
theorem Den.view (hD : Den E w0 C n L ρ a w) {d : Option Nat} {k r : Nat} {y : Row} {t : ETy} {xs : List t.T} {V : SV} {kill rd : List Nat} {v : Value} {ad : Option Addr} {c : Nat} (hf : L.r k = none) (hy : L.r r = some (some y)) (hyl : y.live)
  (hkill : kill = match y.own with | true => [r] | false => []) (had : ad.map (·.block) = (ρ.ra r).map (·.block)) (hx : RowOk E w ad c (viewRow y.own t xs))
  (hV : ∀ L' ρ', L'.r k = some (some (viewRow y.own t xs)) → ρ'.ra k = ad → ρ'.rc k = c → SV.ok L' ρ' V v) :
  ∃ ρ', Den E w0 C n (L.app d ⟨V, none, [(k, (viewRow y.own t xs))], kill, [], [], rd, []⟩) ρ' (a.put d v) w := by
 generalize hL' : L.app d ⟨V, none, [(k, (viewRow y.own t xs))], kill, [], [], rd, []⟩ = L'
 have hb : ∀ j, L'.b j = L.b j := fun j => by subst hL'; simp [LS.app, find]
 have hkr : k ≠ r := by rintro rfl; rw [hf] at hy; cases hy
 have hr : ∀ j, L'.r j = if k = j then some (some (viewRow y.own t xs)) else if j ∈ kill then some none else L.r j := fun j => by
  subst hL'
  by_cases e : k = j
  ·simp [LS.app, find, e]
  ·simp [LS.app, find, e]
 have hmk : ∀ j, j ∈ kill → j = r ∧ y.own = true := fun j hj => by
  subst hkill
  cases ho : y.own with
  | true => rw [ho] at hj; simp at hj; exact ⟨hj, rfl⟩
  | false => rw [ho] at hj; simp at hj
 let ρ' : Val := { ρ with ra := fun j => if k = j then ad else ρ.ra j, rc := fun j => if k = j then c else ρ.rc j }
 have hle : LE L ρ L' ρ' := by
  refine ⟨fun j b h => ⟨⟨b, (hb j).trans h⟩, rfl⟩, fun q e h => ?_, fun q e h => by
   have hkd : k ≠ q := by rintro rfl; rw [hf] at h; cases h
   exact ⟨by simp [ρ', hkd], by simp [ρ', hkd]⟩⟩
  have hkd : k ≠ q := by rintro rfl; rw [hf] at h; cases h
  by_cases hq : q ∈ kill
  ·exact ⟨none, by rw [hr, if_neg hkd, if_pos hq], fun x hx => by cases hx⟩
  ·exact ⟨e, by rw [hr, if_neg hkd, if_neg hq]; exact h, fun x hx hl => ⟨x, hx, hl, rfl, rfl, by simp [ρ', hkd], by simp [ρ', hkd]⟩⟩
 refine ⟨ρ', hD.next (X := fun _ => False) (New := (· = .r k)) (by subst hL'; rfl) (by subst hL'; rfl) (fun i => by subst hL'; rfl) hle (hV L' ρ' (by rw [hr, if_pos rfl]) (by simp [ρ']) (by simp [ρ'])) rfl rfl rfl (Nat.le_refl _) (fun k hk _ => rfl) (fun _ h => h.elim) ?_ ?_ ?_ ?_ ?_⟩
 ·intro j b h
  rw [hb] at h
  exact (hD.blks j b h).keep hle rfl
 ·intro q z h
  rw [hr] at h
  split at h
  ·rename_i e
   subst e
   obtain rfl := Option.some.inj (Option.some.inj h)
   simp only [ρ', if_true]
   exact hx
  ·rename_i e
   split at h
   ·cases h
   ·simp only [ρ', e, if_false]
    exact hD.rows q z h
 ·intro z hz
  cases z with
  | b j => exact .inr ⟨by simpa [LS.has, hb] using hz, rfl, fun h => by simpa [LS.own, hb] using h⟩
  | r q =>
   by_cases e : k = q
   ·subst e; exact .inl rfl
   ·by_cases hq : q ∈ kill
    ·obtain ⟨x, h, _⟩ := hz; rw [hr, if_neg e, if_pos hq] at h; cases h
    ·refine .inr ⟨?_, by simp [Val.at, ρ', e], fun h => ?_⟩
     ·obtain ⟨x, h, hl⟩ := hz; rw [hr, if_neg e, if_neg hq] at h; exact ⟨x, h, hl⟩
     ·obtain ⟨x, h, hl⟩ := h; rw [hr, if_neg e, if_neg hq] at h; exact ⟨x, h, hl⟩
 ·rintro z rfl _ g hg
  right
  refine ⟨.r r, ⟨y, hy, hyl⟩, ?_, ?_⟩
  ·simp only [Val.at, ρ', if_true] at hg ⊢
   rw [← had]
   exact hg
  ·cases ho : y.own with
   | true =>
    refine .inl ⟨⟨y, hy, ho, hyl⟩, fun ⟨z, hz, _⟩ => ?_⟩
    rw [hr, if_neg hkr, if_pos (by subst hkill; rw [ho]; simp)] at hz
    cases hz
   | false =>
    refine .inr ⟨fun ⟨z, hz, hzo, _⟩ => ?_, fun ⟨z, hz, hzo, _⟩ => ?_⟩
    ·obtain rfl := Option.some.inj (Option.some.inj (hy.symm.trans hz))
     rw [ho] at hzo
     cases hzo
    ·rw [hr, if_pos rfl] at hz
     obtain rfl := Option.some.inj (Option.some.inj hz)
     rw [viewRow_own, ho] at hzo
     cases hzo
 ·rintro x y rfl rfl _ _ hne
  exact (hne rfl).elim

theorem Den.grow (hD : Den E w0 C n L ρ a w) {d : Option Nat} {k : Nat} {r : Option Nat} {x : Row} {V : SV} {rd kill : List Nat} {v : Value} {ad : Option Addr} {c : Nat} {w' : World} (hf : L.r k = none) (hown : x.own = true) (hx : OwnR E w' x.t ad c x.xs)
  (hkill : kill = r.toList) (hr0 : ∀ q, r = some q → ∃ y, L.r q = some (some y) ∧ y.own = true ∧ y.live)
  (hg : w.grownBy w' (r.bind fun q => (ρ.ra q).map (·.block))) (hat : ad.map (·.block) = (r.bind fun q => (ρ.ra q).map (·.block)) ∨ ad.map (·.block) = some w.heap.size)
  (hV : ∀ L' ρ', L'.r k = some (some x) → ρ'.ra k = ad → ρ'.rc k = c → SV.ok L' ρ' V v) :
  ∃ ρ', Den E w0 C n (L.app d ⟨V, none, [(k, x)], kill, [], [], rd, []⟩) ρ' (a.put d v) w' := by
 generalize hL' : L.app d ⟨V, none, [(k, x)], kill, [], [], rd, []⟩ = L'
 have hb : ∀ j, L'.b j = L.b j := fun j => by subst hL'; simp [LS.app, find]
 have hr : ∀ j, L'.r j = if k = j then some (some x) else if j ∈ kill then some none else L.r j := fun j => by
  subst hL'
  by_cases e : k = j
  ·simp [LS.app, find, e]
  ·simp [LS.app, find, e]
 have hmk : ∀ j, j ∈ kill ↔ r = some j := fun j => by subst hkill; simp
 have hkr : ∀ q, r = some q → k ≠ q := fun q hq e => by
  obtain ⟨y, hy, _⟩ := hr0 q hq
  rw [← e, hf] at hy
  cases hy
 let ρ' : Val := { ρ with ra := fun j => if k = j then ad else ρ.ra j, rc := fun j => if k = j then c else ρ.rc j }
 have hle : LE L ρ L' ρ' := by
  refine ⟨fun j b h => ⟨⟨b, (hb j).trans h⟩, rfl⟩, fun q e h => ?_, fun q e h => by
   have hkd : k ≠ q := by rintro rfl; rw [hf] at h; cases h
   exact ⟨by simp [ρ', hkd], by simp [ρ', hkd]⟩⟩
  have hkd : k ≠ q := by rintro rfl; rw [hf] at h; cases h
  by_cases hq : q ∈ kill
  ·exact ⟨none, by rw [hr, if_neg hkd, if_pos hq], fun x hx => by cases hx⟩
  ·exact ⟨e, by rw [hr, if_neg hkd, if_neg hq]; exact h, fun x hx hl => ⟨x, hx, hl, rfl, rfl, by simp [ρ', hkd], by simp [ρ', hkd]⟩⟩
 -- what is live and not given away lies elsewhere
 have far : ∀ z, L.has z → (∀ q, r = some q → z ≠ .r q) → ∀ g, ρ.at z = some g → some g ≠ (r.bind fun q => (ρ.ra q).map (·.block)) := by
  intro z hz hne g hgz he
  cases hrr : r with
  | none => rw [hrr] at he; cases he
  | some q =>
   obtain ⟨y, hy, hyo, hyl⟩ := hr0 q hrr
   rw [hrr] at he
   exact hD.apart (.r q) z ⟨y, hy, hyo, hyl⟩ hz (fun e => hne q hrr e.symm) g he.symm hgz
 refine ⟨ρ', hD.next (X := fun g => some g = (r.bind fun q => (ρ.ra q).map (·.block))) (New := (· = .r k)) (by subst hL'; rfl) (by subst hL'; rfl) (fun i => by subst hL'; rfl) hle (hV L' ρ' (by rw [hr, if_pos rfl]) (by simp [ρ']) (by simp [ρ'])) hg.os hg.tape hg.output hg.size (fun g hk hne => hg.block g hk hne) ?_ ?_ ?_ ?_ ?_ ?_⟩
 ·intro g hgx
  cases hrr : r with
  | none => rw [hrr] at hgx; cases hgx
  | some q =>
   obtain ⟨y, hy, hyo, hyl⟩ := hr0 q hrr
   rw [hrr] at hgx
   exact ⟨.r q, ⟨y, hy, hyo, hyl⟩, hgx.symm⟩
 ·intro j b h
  rw [hb] at h
  have := hD.blks j b h
  exact this.keep hle (hg.block _ this.lt (far (.b j) ⟨b, h⟩ (fun q _ e => by cases e) _ rfl))
 ·intro q z h
  rw [hr] at h
  split at h
  ·rename_i e
   subst e
   obtain rfl := Option.some.inj (Option.some.inj h)
   simp only [ρ', if_true]
   exact OwnR.ok hx hown
  ·rename_i e
   split at h
   ·cases h
   ·rename_i hq
    simp only [ρ', e, if_false]
    exact (hD.rows q z h).keep hg.size fun ad' had hl => hg.block _ ((hD.rows q z h).lt hl ad' had) (far (.r q) ⟨z, h, hl⟩ (fun p hp e => hq ((hmk q).2 (by injection e with e; rw [hp, e]))) _ (by simp [Val.at, had]))
 ·intro z hz
  cases z with
  | b j => exact .inr ⟨by simpa [LS.has, hb] using hz, rfl, fun h => by simpa [LS.own, hb] using h⟩
  | r q =>
   by_cases e : k = q
   ·subst e; exact .inl rfl
   ·by_cases hq : q ∈ kill
    ·obtain ⟨x, h, _⟩ := hz; rw [hr, if_neg e, if_pos hq] at h; cases h
    ·refine .inr ⟨?_, by simp [Val.at, ρ', e], fun h => ?_⟩
     ·obtain ⟨x, h, hl⟩ := hz; rw [hr, if_neg e, if_neg hq] at h; exact ⟨x, h, hl⟩
     ·obtain ⟨x, h, hl⟩ := h; rw [hr, if_neg e, if_neg hq] at h; exact ⟨x, h, hl⟩
 ·rintro z rfl _ g hgz
  simp only [Val.at, ρ', if_true] at hgz
  rcases hat with hat | hat
  ·right
   rw [hgz] at hat
   cases hrr : r with
   | none => rw [hrr] at hat; cases hat
   | some q =>
    obtain ⟨y, hy, hyo, hyl⟩ := hr0 q hrr
    rw [hrr] at hat
    refine ⟨.r q, ⟨y, hy, hyl⟩, hat.symm, .inl ⟨⟨y, hy, hyo, hyl⟩, fun ⟨z, hz, _⟩ => ?_⟩⟩
    rw [hr, if_neg (hkr q hrr), if_pos ((hmk q).2 hrr)] at hz
    cases hz
  ·left
   rw [hgz] at hat
   have := Option.some.inj hat
   omega
 ·rintro x y rfl rfl _ _ hne
  exact (hne rfl).elim
end
end Go.Eng

namespace Go.Eng
open Go.RowKit

section
variable {E : Env} {vs : List SV} {bs : List (Nat × Blk)} {rs : List (Nat × Option Row)} {o : Oper} {g : Option Bool} {A : Sides}

theorem castRow_out {s t : ETy} {xs : List s.T} {ys : List t.T} (h : castRow s t xs = some ys) : s = t ∧ HEq xs ys := by
 cases s <;> cases t <;> simp only [castRow, reduceCtorEq, Option.some.injEq] at h <;> exact ⟨rfl, heq_of_eq h⟩

theorem find_one {α : Type} (k : Nat) (x : α) : find [(k, x)] k = some x := by simp [find]

theorem find_one_eq {α : Type} {k k' : Nat} {x y : α} (h : find [(k, x)] k' = some y) : k = k' ∧ x = y := by
 simp only [find] at h
 split at h
 ·rename_i e; exact ⟨by simpa using e, Option.some.inj h⟩
 ·cases h

theorem GT_of_none : GT none := fun _ h => by cases h

theorem row_val {L : LS} {ρ : Val} {r : Nat} {x : Row} {v : Value} (hv : SC.ok L ρ (.row r) v) (hL : L.r r = some (some x)) (hl : x.live) : v = .slice (ρ.ra r) x.xs.length (ρ.rc r) := by
 obtain ⟨_, e, he, h⟩ := hv
 obtain rfl : e = some x := Option.some.inj (he.symm.trans hL)
 exact h x rfl hl

theorem own_drop {E : Env} {w : World} {t : ETy} {a : Option Addr} {c : Nat} {xs : List t.T} (h : OwnR E w t a c xs) {i : Nat} (hi : i ≤ xs.length) : OwnR E w t (if c = i then a else a.map (·.add (i * t.n))) (c - i) (xs.drop i) := by
 obtain ⟨e, he, h⟩ := h
 refine ⟨e, he, ?_⟩
 rcases h with ⟨rfl, rfl, rfl⟩ | ⟨g, off, cur, rfl, hh, hn, hc, hs, ht⟩
 ·left
  have : i = 0 := by simpa using hi
  subst this
  simp
 ·right
  have hmul : i * t.n + (c - i) * t.n = c * t.n := by rw [← Nat.add_mul]; congr 1; omega
  have hcl := cells_length t xs
  have hcd : cells t (xs.drop i) = (cells t xs).drop (i * t.n) := by
   have h1 : cells t xs = cells t (xs.take i) ++ cells t (xs.drop i) := by rw [← cells_append, List.take_append_drop]
   have h2 : (cells t (xs.take i)).length = i * t.n := by rw [cells_length, List.length_take, Nat.min_eq_left hi]
   rw [h1, List.drop_left' h2]
  split
  ·rename_i hci
   subst hci
   have h0 : xs.length = c := by omega
   refine ⟨g, off, cur, rfl, hh, by rw [List.length_drop]; omega, by omega, by simp; omega, ?_⟩
   have e1 : (cells t xs).drop (c * t.n) = [] := List.drop_eq_nil_of_le (by rw [hcl, h0]; exact Nat.le_refl _)
   rw [hcd, e1, List.length_drop, show xs.length - c = 0 from by omega]
   simp
  ·refine ⟨g, off + i * t.n, cur, ?_, hh, by rw [List.length_drop]; omega, by omega, by omega, ?_⟩
   ·simp only [Option.map_some]
    unfold Addr.add
    split <;> simp_all
   ·rw [hcd, ← ht, List.length_drop, ← List.drop_drop, List.drop_take]
    congr 1
    rw [Nat.sub_mul]
theorem own_take {E : Env} {w : World} {t : ETy} {a : Option Addr} {c : Nat} {xs : List t.T} (h : OwnR E w t a c xs) {i : Nat} (hi : i ≤ xs.length) : OwnR E w t (if c = 0 then a else a.map (·.add 0)) c (xs.take i) := by
 obtain ⟨e, he, h⟩ := h
 refine ⟨e, he, ?_⟩
 rcases h with ⟨rfl, rfl, rfl⟩ | ⟨g, off, cur, rfl, hh, hn, hc, hs, ht⟩
 ·left
  simp
 ·right
  have hct : cells t (xs.take i) = (cells t xs).take (i * t.n) := by
   have h1 : cells t xs = cells t (xs.take i) ++ cells t (xs.drop i) := by rw [← cells_append, List.take_append_drop]
   have h2 : (cells t (xs.take i)).length = i * t.n := by rw [cells_length, List.length_take, Nat.min_eq_left hi]
   rw [h1, List.take_left' h2]
  have hmul : i * t.n ≤ xs.length * t.n := Nat.mul_le_mul_right _ hi
  refine ⟨g, off, cur, ?_, hh, by rw [List.length_take]; omega, hc, hs, ?_⟩
  ·split
   ·rfl
   ·simp only [Option.map_some]
    unfold Addr.add
    split <;> simp_all
  ·rw [hct, ← ht, List.length_take, Nat.min_eq_left hi, List.take_take, Nat.min_eq_left hmul]
theorem rd_drop {w : World} {t : ETy} {a : Option Addr} {c : Nat} {xs : List t.T} (h : Rd w t a c xs) {i : Nat} (hi : i ≤ xs.length) : Rd w t (if c = i then a else a.map (·.add (i * t.n))) (c - i) (xs.drop i) := by
 refine ⟨by rw [List.length_drop]; have := h.cap; omega, ?_, ?_⟩
 ·intro ad had
  split at had
  ·exact h.lt ad had
  ·rw [Option.map_eq_some_iff] at had
   obtain ⟨b, hb, rfl⟩ := had
   rw [block_of_add]
   exact h.lt b hb
 ·intro j u hu
  have e : cells t (xs.drop i) = (cells t xs).drop (i * t.n) := by
   have h1 : xs = xs.take i ++ xs.drop i := (List.take_append_drop i xs).symm
   have h2 : (cells t (xs.take i)).length = i * t.n := by rw [cells_length, List.length_take]; congr 1; omega
   have h3 : cells t xs = cells t (xs.take i) ++ cells t (xs.drop i) := by rw [← cells_append, ← h1]
   have h4 : List.drop (i * t.n) (cells t (xs.take i)) = [] := List.drop_eq_nil_of_le (by omega)
   rw [h3, List.drop_append, h2, h4, Nat.sub_self, List.drop_zero, List.nil_append]
  rw [e, List.getElem?_drop] at hu
  have hlt : i * t.n + j < (cells t xs).length := (List.getElem?_eq_some_iff.1 hu).1
  rw [cells_length] at hlt
  obtain ⟨ad, had, hc⟩ := h.cell _ _ hu
  have hci : c ≠ i := by
   rintro rfl
   have := h.cap
   have h3 : xs.length * t.n ≤ c * t.n := Nat.mul_le_mul_right _ this
   omega
  refine ⟨ad.add (i * t.n), by rw [if_neg hci, had]; rfl, ?_⟩
  rw [add_of_add]
  exact hc

theorem rd_take {w : World} {t : ETy} {a : Option Addr} {c : Nat} {xs : List t.T} (h : Rd w t a c xs) {i : Nat} (hi : i ≤ xs.length) : Rd w t (if c = 0 then a else a.map (·.add 0)) c (xs.take i) := by
 have ha : (if c = 0 then a else a.map (·.add 0)) = a := by
  split
  ·rfl
  ·cases a with
   | none => rfl
   | some ad => simp [Addr.add]
 rw [ha]
 refine ⟨by rw [List.length_take]; have := h.cap; omega, h.lt, fun j u hu => ?_⟩
 have h1 : cells t xs = cells t (xs.take i) ++ cells t (xs.drop i) := by rw [← cells_append, List.take_append_drop]
 refine h.cell j u ?_
 rw [h1, List.getElem?_append_left (List.getElem?_eq_some_iff.1 hu).1]
 exact hu

theorem eff_slice {t : TypeId} {x : Operand} {lo hi : Option Operand} (ho : o.op = .slice t x lo hi none) {K : Eff → Sides → Prop}
  (h : dstK o.dst fun d => argK vs g A x fun v A => sliceK E t vs rs g A d v lo hi K) : ∃ e A', K e A' ∧ (∀ p ∈ A, p ∈ A') ∧ EffOk E vs bs rs o g A' e := by
 have hx : ∀ t, x = .tmp t → Operand.tmp t ∈ o.op.operands.toList := fun t e => by simp [ho, Op.operands, e]
 have hlo : ∀ y t, lo = some y → y = .tmp t → Operand.tmp t ∈ o.op.operands.toList := fun y t e e' => by simp [ho, Op.operands, e, e']
 have hhi : ∀ y t, hi = some y → y = .tmp t → Operand.tmp t ∈ o.op.operands.toList := fun y t e e' => by simp [ho, Op.operands, e, e']
 have hr : ∀ (a : Act), execOp a.eval o = (do pure (Next.value (← Instr.sliceAt t (a.eval x) (lo.map a.eval) (hi.map a.eval) none)) : Sem Next) := fun a => by simp only [execOp, ho]; rfl
 obtain ⟨d, hd, h'⟩ := dstK_out h
 obtain ⟨v, A1, h1, s1, a1⟩ := argK_out h'
 clear h h'
 unfold sliceK at h1
 split at h1
 ·rename_i s
  split at h1
  ·rename_i hst
   split at h1
   ·obtain ⟨vy, A2, h2, s2, a2⟩ := argK_out h1
    split at h2
    ·rename_i i hi'
     refine ⟨_, _, leafK_out h2, fun p hp => side_mem (s2 p (s1 p hp)), .val fun w0 C L ρ a w hL _ hB hs hg hD => ?_⟩
     have hs2 : Sd A2 := hs.mono fun p hp => side_mem hp
     have hv : a.eval x = .string ⟨s.toArray⟩ := hD.args (a1.mono s2) (fun t e => hL t (hx t e)) hs2 hg
     have hy := ok_int hi' (hD.args a2 (fun t e => hL t (hlo _ t rfl e)) hs2 hg)
     obtain ⟨h0, hlt⟩ := side_out hs hg
     refine ⟨_, ?_, wrapG_ok hg (show SC.ok L ρ (.leaf (.str (s.drop i.toNat))) (Leaf.str (s.drop i.toNat)).val from rfl)⟩
     rw [hr a, hv]
     simp only [Option.map_some, Option.map_none, hy]
     exact run_value (run_slice_lo hst h0 hlt)
    ·exact h2.elim
   ·obtain ⟨vy, A2, h2, s2, a2⟩ := argK_out h1
    split at h2
    ·rename_i i hi'
     refine ⟨_, _, leafK_out h2, fun p hp => side_mem (s2 p (s1 p hp)), .val fun w0 C L ρ a w hL _ hB hs hg hD => ?_⟩
     have hs2 : Sd A2 := hs.mono fun p hp => side_mem hp
     have hv : a.eval x = .string ⟨s.toArray⟩ := hD.args (a1.mono s2) (fun t e => hL t (hx t e)) hs2 hg
     have hy := ok_int hi' (hD.args a2 (fun t e => hL t (hhi _ t rfl e)) hs2 hg)
     obtain ⟨h0, hlt⟩ := side_out hs hg
     refine ⟨_, ?_, wrapG_ok hg (show SC.ok L ρ (.leaf (.str (s.take i.toNat))) (Leaf.str (s.take i.toNat)).val from rfl)⟩
     rw [hr a, hv]
     simp only [Option.map_some, Option.map_none, hy]
     exact run_value (run_slice_hi hst h0 hlt)
    ·exact h2.elim
   ·obtain ⟨vy, A2, h2, s2, a2⟩ := argK_out h1
    split at h2
    ·rename_i i hi'
     obtain ⟨vz, A3, h3, s3, a3⟩ := argK_out h2
     split at h3
     ·rename_i j hj'
      refine ⟨_, _, leafK_out h3, fun p hp => side_mem (s3 p (s2 p (s1 p hp))), .val fun w0 C L ρ a w hL _ hB hs hg hD => ?_⟩
      have hs3 : Sd A3 := hs.mono fun p hp => side_mem hp
      have hv : a.eval x = .string ⟨s.toArray⟩ := hD.args (a1.mono fun p hp => s3 p (s2 p hp)) (fun t e => hL t (hx t e)) hs3 hg
      have hy := ok_int hi' (hD.args (a2.mono s3) (fun t e => hL t (hlo _ t rfl e)) hs3 hg)
      have hz := ok_int hj' (hD.args a3 (fun t e => hL t (hhi _ t rfl e)) hs3 hg)
      obtain ⟨h0, hlt, hlt2⟩ := side_out hs hg
      refine ⟨_, ?_, wrapG_ok hg (show SC.ok L ρ (.leaf (.str ((s.take j.toNat).drop i.toNat))) (Leaf.str ((s.take j.toNat).drop i.toNat)).val from rfl)⟩
      rw [hr a, hv]
      simp only [Option.map_some, hy, hz]
      exact run_value (run_slice_lohi hst h0 hlt hlt2)
     ·exact h3.elim
    ·exact h2.elim
   ·exact h1.elim
  ·exact h1.elim
 ·rename_i r
  obtain ⟨row, A2, h2, s2, hf, hlive⟩ := rowK_out h1
  obtain ⟨ty, xs, own, rg⟩ := row
  split at h2
  ·rename_i ty' xs' own' hrow
   simp only [Row.mk.injEq] at hrow
   obtain ⟨rfl, hxs, rfl, rfl⟩ := hrow
   obtain rfl := eq_of_heq hxs
   split at h2
   ·rename_i e he
    split at h2
    ·rename_i sz hsz
     split at h2
     ·rename_i hb
      obtain rfl := beq_true hb
      have hll : Row.live ⟨ty, xs, own, none⟩ := Row.live_none
      split at h2
      ·obtain ⟨vy, A3, h3, s3, a3⟩ := argK_out h2
       split at h3
       ·rename_i i hi'
        refine ⟨_, _, h3, fun p hp => side_mem (s3 p (s2 p (s1 p hp))), ?_⟩
        refine ⟨fun p hp _ => by first | cases hp; done | (cases hp; exact ⟨rfl, rfl, rfl, rfl, ⟨_, rfl⟩, fun k x hx => by obtain ⟨rfl, rfl⟩ := find_one_eq hx; rfl⟩), ?_⟩
        intro w0 C L ρ a w next Q hL hR hB hs hg hD hfr hn
        have hs3 : Sd A3 := hs.mono fun p hp => side_mem hp
        have hLr : L.r r = some (some ⟨ty, xs, own, none⟩) := by rw [hR r List.mem_cons_self]; exact hf
        have hv := row_val (hD.args (a1.mono fun p hp => s3 p (s2 p hp)) (fun t e => hL t (hx t e)) hs3 hg) hLr hll
        have hy := ok_int hi' (hD.args a3 (fun t e => hL t (hlo _ t rfl e)) hs3 GT_of_none)
        obtain ⟨h0, hlt⟩ := side_out hs GT_of_none
        have hrd := (hD.rows r _ hLr).rd hll
        simp only at hv hrd
        obtain ⟨ρ', hD'⟩ := hD.view (ad := if ρ.rc r = i.toNat then ρ.ra r else (ρ.ra r).map (·.add (i.toNat * ty.n))) (c := ρ.rc r - i.toNat) (xs := xs.drop i.toNat) (t := ty) (d := o.dst) (k := Nat.mul d 64) (r := r) (rd := [r]) (v := .slice (if ρ.rc r = i.toNat then ρ.ra r else (ρ.ra r).map (·.add (i.toNat * ty.n))) (xs.length - i.toNat) (ρ.rc r - i.toNat)) (V := .a (.c (.row (Nat.mul d 64)))) (hfr.r _ _ (find_one _ _)) hLr hll rfl (by
          split
          ·rfl
          ·cases ρ.ra r <;> simp [block_of_add]) (by
         intro _
         cases own with
         | true => exact own_drop (E := E) (t := ty) (xs := xs) (hD.rows r _ hLr hll) (i := i.toNat) (by omega)
         | false => exact rd_drop hrd (i := i.toNat) (by omega)) (fun L' ρ' hk h1 h2 => by
          refine ⟨⟨_, _, _, rfl⟩, _, hk, fun x hx _ => ?_⟩
          obtain rfl := Option.some.inj hx
          rw [h1, h2]
          cases own <;> simp only [viewRow, List.length_drop])
        unfold Oper.wp
        rw [hr a, hv]
        simp only [Option.map_some, Option.map_none, hy]
        rw [run_value (run_rowslice_lo he hsz h0 hlt), Oper.upon_value]
        exact hn _ _ _ hD'
       ·exact h3.elim
      ·obtain ⟨vy, A3, h3, s3, a3⟩ := argK_out h2
       split at h3
       ·rename_i i hi'
        refine ⟨_, _, h3, fun p hp => side_mem (s3 p (s2 p (s1 p hp))), ?_⟩
        refine ⟨fun p hp _ => by first | cases hp; done | (cases hp; exact ⟨rfl, rfl, rfl, rfl, ⟨_, rfl⟩, fun k x hx => by obtain ⟨rfl, rfl⟩ := find_one_eq hx; rfl⟩), ?_⟩
        intro w0 C L ρ a w next Q hL hR hB hs hg hD hfr hn
        have hs3 : Sd A3 := hs.mono fun p hp => side_mem hp
        have hLr : L.r r = some (some ⟨ty, xs, own, none⟩) := by rw [hR r List.mem_cons_self]; exact hf
        have hv := row_val (hD.args (a1.mono fun p hp => s3 p (s2 p hp)) (fun t e => hL t (hx t e)) hs3 hg) hLr hll
        have hy := ok_int hi' (hD.args a3 (fun t e => hL t (hhi _ t rfl e)) hs3 GT_of_none)
        obtain ⟨h0, hlt⟩ := side_out hs GT_of_none
        have hrd := (hD.rows r _ hLr).rd hll
        simp only at hv hrd
        obtain ⟨ρ', hD'⟩ := hD.view (ad := if ρ.rc r = 0 then ρ.ra r else (ρ.ra r).map (·.add 0)) (c := ρ.rc r) (xs := xs.take i.toNat) (t := ty) (d := o.dst) (k := Nat.mul d 64) (r := r) (rd := [r]) (v := .slice (if ρ.rc r = 0 then ρ.ra r else (ρ.ra r).map (·.add 0)) i.toNat (ρ.rc r)) (V := .a (.c (.row (Nat.mul d 64)))) (hfr.r _ _ (find_one _ _)) hLr hll rfl (by
          split
          ·rfl
          ·cases ρ.ra r <;> simp [block_of_add]) (by
         intro _
         cases own with
         | true => exact own_take (E := E) (t := ty) (xs := xs) (hD.rows r _ hLr hll) (i := i.toNat) (by omega)
         | false => exact rd_take hrd (i := i.toNat) (by omega)) (fun L' ρ' hk h1 h2 => by
          refine ⟨⟨_, _, _, rfl⟩, _, hk, fun x hx _ => ?_⟩
          obtain rfl := Option.some.inj hx
          rw [h1, h2]
          have hmin : min i.toNat xs.length = i.toNat := by omega
          cases own <;> simp only [viewRow, List.length_take, hmin])
        unfold Oper.wp
        rw [hr a, hv]
        simp only [Option.map_some, Option.map_none, hy]
        rw [run_value (run_rowslice_hi he hsz hrd.cap h0 hlt), Oper.upon_value]
        exact hn _ _ _ hD'
       ·exact h3.elim
      ·exact h2.elim
     ·exact h2.elim
    ·exact h2.elim
   ·exact h2.elim
  ·exact h2.elim
 ·exact h1.elim

theorem eff_alloc {t : TypeId} (ho : o.op = .alloc t) {K : Eff → Sides → Prop}
  (h : dstK o.dst fun d => match g, zeroCells E.P t with
   | none, some cs => K ⟨.a (.c (.ptr d 0)), some ⟨t, cs⟩, [], [], [], [], [], []⟩ A
   | _, _ => False) : ∃ e A', K e A' ∧ (∀ p ∈ A, p ∈ A') ∧ EffOk E vs bs rs o g A' e := by
 obtain ⟨d, hd, h'⟩ := dstK_out h
 clear h
 split at h'
 ·rename_i cs hz
  obtain ⟨i, z, hi, hz, hc⟩ := zeroCells_out hz
  refine ⟨_, A, h', fun p hp => hp, ?_⟩
  refine ⟨fun p hp _ => by first | cases hp; done | (cases hp; exact ⟨rfl, rfl, rfl, rfl, ⟨_, rfl⟩, fun k x hx => by obtain ⟨rfl, rfl⟩ := find_one_eq hx; rfl⟩), ?_⟩
  intro w0 C L ρ a w next Q hL hR hB hs hg hD hfr hn
  obtain ⟨k, hk, hLb⟩ := hfr.b _ rfl
  obtain rfl : d = k := Option.some.inj (hd.symm.trans hk)
  obtain ⟨ρ', hD'⟩ := hD.block (t := t) hLb (cellsOf_ok hc L ρ)
  unfold Oper.wp
  have hr : (execOp a.eval o).run E.P w = .ok (.value (.pointer (some ⟨w.heap.size, 0, none⟩))) (w.alloc (.cells z.cells t)) := by
   simp only [execOp, ho, Sem.run_bind, run_alloc' hi hz]
   rfl
  rw [hr, Oper.upon_value]
  have := hn ρ' (.pointer (some ⟨w.heap.size, 0, none⟩)) (w.alloc (.cells z.cells t)) (by rw [hd]; simpa using hD')
  exact this
 ·exact h'.elim

theorem eff_box {t : TypeId} {x : Operand} (ho : o.op = .box t x) {K : Eff → Sides → Prop}
  (h : dstK o.dst fun d => match g with
   | none => argK vs none A x fun v A => cellsK v fun cs => K ⟨.a (.c (.ptr d 0)), some ⟨t, cs⟩, [], [], [], [], [], []⟩ A
   | some _ => False) : ∃ e A', K e A' ∧ (∀ p ∈ A, p ∈ A') ∧ EffOk E vs bs rs o g A' e := by
 have hx : ∀ t, x = .tmp t → Operand.tmp t ∈ o.op.operands.toList := fun t e => by simp [ho, Op.operands, e]
 obtain ⟨d, hd, h⟩ := dstK_out h
 split at h
 ·obtain ⟨v, A1, h1, s1, a1⟩ := argK_out h
  obtain ⟨cs, h2, hcs⟩ := cellsK_out h1
  refine ⟨_, A1, h2, s1, ?_⟩
  refine ⟨fun p hp _ => by first | cases hp; done | (cases hp; exact ⟨rfl, rfl, rfl, rfl, ⟨_, rfl⟩, fun k x hx => by obtain ⟨rfl, rfl⟩ := find_one_eq hx; rfl⟩), ?_⟩
  intro w0 C L ρ a w next Q hL hR hB hs hg hD hfr hn
  obtain ⟨k, hk, hLb⟩ := hfr.b _ rfl
  obtain rfl : d = k := Option.some.inj (hd.symm.trans hk)
  have hv := hcs L ρ _ (hD.args a1 (fun t e => hL t (hx t e)) hs hg)
  obtain ⟨ρ', hD'⟩ := hD.block (t := t) hLb hv
  unfold Oper.wp
  have hr : (execOp a.eval o).run E.P w = .ok (.value (.pointer (some ⟨w.heap.size, 0, none⟩))) (w.alloc (.cells (a.eval x).cells t)) := by
   simp only [execOp, ho, Sem.run_bind, run_box']
   rfl
  rw [hr, Oper.upon_value]
  have := hn ρ' (.pointer (some ⟨w.heap.size, 0, none⟩)) (w.alloc (.cells (a.eval x).cells t)) (by rw [hd]; simpa using hD')
  exact this
 ·exact h.elim
end
end Go.Eng

namespace Go.Eng
open Go.RowKit

section
variable {E : Env} {vs : List SV} {bs : List (Nat × Blk)} {rs : List (Nat × Option Row)} {o : Oper} {g : Option Bool} {A : Sides}

theorem fillK_out {pl : List (Nat × Nat)} : ∀ {parts : List (Nat × Operand)} {cs : List SC} {A : Sides} {K : List SC → Sides → Prop}, fillK vs g pl parts cs A K →
  ∃ cs' A', K cs' A' ∧ (∀ p ∈ A, p ∈ A') ∧ ∀ (L : LS) (ρ : Val) (a : Act) (us : List Value), a.tmps.size = vs.length → (∀ t, Operand.tmp t ∈ parts.map (·.2) → L.v t = vs.getD t .any) →
   (∀ (i : Nat) (v : Value), a.tmps[i]? = some v → SV.ok L ρ (L.v i) v) → Sd A' → GT g → Oks L ρ cs us →
   ∃ us', Instr.fill (pl.toArray[·]?) us.toArray (parts.map fun p => (p.1, a.eval p.2)) = some us'.toArray ∧ Oks L ρ cs' us'
 | [], cs, A, K, h => ⟨cs, A, h, fun p hp => hp, fun L ρ a us _ _ _ _ _ hus => ⟨us, rfl, hus⟩⟩
 | (f, q) :: parts, cs, A, K, h => by
  simp only [fillK] at h
  obtain ⟨x, A1, h1, s1, a1⟩ := argK_out h
  split at h1
  ·rename_i off n hpl
   obtain ⟨ys, h2, hys⟩ := cellsK_out h1
   split at h2
   ·rename_i hb
    have hn := beq_true hb
    obtain ⟨hle, h3⟩ := splK_out h2
    obtain ⟨cs', A', hK, s2, hf⟩ := fillK_out h3
    refine ⟨cs', A', hK, fun p hp => s2 p (s1 p hp), fun L ρ a us hz hL hv hs hg hus => ?_⟩
    have hx := hys L ρ _ ((a1.mono s2) L ρ a hz (fun t e => hL t (by simp [e])) hv hs hg)
    have hul := hus.length
    have hxl := hx.length
    have hxn : (a.eval q).cells.size = n := by rw [← Array.length_toList, hxl, hn]
    have hus' : Oks L ρ (cs.take off ++ ys ++ cs.drop (off + ys.length)) (us.take off ++ (a.eval q).cells.toList ++ us.drop (off + ys.length)) :=
     ((hus.take off).append hx).append (hus.drop _)
    obtain ⟨us', hfill, hok⟩ := hf L ρ a _ hz (fun t ht => hL t (by simp only [List.map_cons, List.mem_cons]; exact .inr ht)) hv hs hg hus'
    refine ⟨us', ?_, hok⟩
    rw [List.map_cons]
    rw [fill_one (off := off) (n := n) _ (by simpa using hpl) hxn (by simp only [List.size_toArray]; omega)]
    rw [← hfill, hn]
   ·exact h2.elim
  ·exact h1.elim

theorem eff_build {t : TypeId} {parts : Array (Nat × Operand)} (ho : o.op = .build t parts) {K : Eff → Sides → Prop}
  (h : match structPlaces E.P t, zeroCells E.P t with
   | some pl, some cs => fillK vs g pl parts.toList cs A fun cs A => leafK g [] [] A (.agg cs) K
   | _, _ => False) : ∃ e A', K e A' ∧ (∀ p ∈ A, p ∈ A') ∧ EffOk E vs bs rs o g A' e := by
 split at h
 ·rename_i pl cs hpl hz
  obtain ⟨i, z, hi, hz, hc⟩ := zeroCells_out hz
  unfold structPlaces at hpl
  split at hpl
  ·rename_i fs hu
   obtain ⟨cs', A', hK, s1, hf⟩ := fillK_out h
   refine ⟨_, A', leafK_out hK, s1, .val fun w0 C L ρ a w hL _ hB hs hg hD => ?_⟩
   obtain ⟨us', hfill, hok⟩ := hf L ρ a z.cells.toList hD.size (fun t ht => hL t (by simpa [ho, Op.operands] using ht)) hD.slots hs hg (cellsOf_ok hc L ρ)
   refine ⟨.agg us'.toArray, ?_, wrapG_ok hg ⟨us', rfl, hok⟩⟩
   simp only [execOp, ho]
   refine run_value (run_build hu hpl hi hz ?_)
   rw [Array.toArray_toList] at hfill
   rw [← hfill]
   simp [Array.toList_map]
  ·cases hpl
 ·exact h.elim

theorem leavesK_out {cs : List SC} {K : List Leaf → Prop} (h : leavesK cs K) : ∃ ls, K ls ∧ cs = ls.map .leaf := by
 induction cs generalizing K with
 | nil => exact ⟨[], h, rfl⟩
 | cons c cs ih =>
  cases c with
  | leaf l =>
   obtain ⟨ls, hK, rfl⟩ := ih h
   exact ⟨_, hK, rfl⟩
  | _ => exact h.elim

theorem oks_leaf_vals {L : LS} {ρ : Val} {ls : List Leaf} {us : List Value} (h : Oks L ρ (ls.map .leaf) us) : us = ls.map Leaf.val := by
 induction ls generalizing us with
 | nil => cases h; rfl
 | cons l ls ih =>
  cases h with
  | cons h0 h1 => rw [ih h1, show _ = l.val from h0]; rfl

theorem elemsK_out {ty : ETy} : ∀ {xs : List SA} {K : List ty.T → Prop}, elemsK ty xs K → ∃ ys, K ys ∧ ys.length = xs.length ∧
  ∀ L ρ us, OkAs L ρ xs us → us.map (fun v => v.cells.toList) = ys.map fun y => (ty.lv y).map Leaf.val
 | [], K, h => ⟨[], h, rfl, fun L ρ us hu => by cases hu; rfl⟩
 | x :: xs, K, h => by
  simp only [elemsK] at h
  obtain ⟨cs, h1, hcs⟩ := cellsK_out h
  obtain ⟨ls, h2, rfl⟩ := leavesK_out h1
  split at h2
  ·rename_i y hy
   obtain ⟨ys, hK, hl, hv⟩ := elemsK_out h2
   refine ⟨y :: ys, hK, by simp [hl], fun L ρ us hu => ?_⟩
   cases hu with
   | cons h0 h3 =>
    rw [List.map_cons, List.map_cons, hv L ρ _ h3, ETy.lv_of hy]
    rw [← oks_leaf_vals (hcs L ρ _ h0)]
  ·exact h2.elim

theorem partsK_out : ∀ {parts : List (Nat × Operand)} {n : Nat} {A : Sides} {K : List SA → Sides → Prop}, partsK vs g n parts A K →
  ∃ xs A', K xs A' ∧ (∀ p ∈ A, p ∈ A') ∧ ArgsR vs g A' (parts.map (·.2)) xs ∧ ∀ i, i < parts.length → (parts[i]?).map (·.1) = some (n + i)
 | [], n, A, K, h => ⟨[], A, h, fun p hp => hp, .nil, fun i hi => by simp at hi⟩
 | (i, q) :: parts, n, A, K, h => by
  simp only [partsK] at h
  split at h
  ·rename_i hb
   obtain rfl := beq_true hb
   obtain ⟨x, A1, h1, s1, a1⟩ := argK_out h
   obtain ⟨xs, A2, h2, s2, a2, hi⟩ := partsK_out h1
   refine ⟨x :: xs, A2, h2, fun p hp => s2 p (s1 p hp), .cons (a1.mono s2) a2, fun j hj => ?_⟩
   cases j with
   | zero => rfl
   | succ j =>
    have := hi j (by simpa using hj)
    rw [List.getElem?_cons_succ, this]
    congr 1
    omega
  ·exact h.elim

theorem parts_zip (f : Operand → Value) : ∀ (parts : List (Nat × Operand)) (n : Nat), (∀ i, i < parts.length → (parts[i]?).map (·.1) = some (n + i)) →
  (parts.map fun p => (p.1, f p.2)) = ((parts.map fun p => f p.2).zipIdx n).map fun p => (p.2, p.1)
 | [], _, _ => rfl
 | (i, q) :: parts, n, h => by
  have h0 : i = n := by simpa using h 0 (by simp)
  subst h0
  rw [List.map_cons, List.map_cons, List.zipIdx_cons, List.map_cons, parts_zip f parts (i + 1) fun j hj => by
   have := h (j + 1) (by simpa using hj)
   rw [List.getElem?_cons_succ] at this
   rw [this]
   congr 1
   omega]

theorem OkAs.length {L : LS} {ρ : Val} {l : List SA} {vs : List Value} (h : OkAs L ρ l vs) : vs.length = l.length := by
 induction h with
 | nil => rfl
 | cons _ _ ih => simp [ih]

variable (hE : EnvOk E)
include hE

theorem eff_buildSlice {t : TypeId} {n : Nat} {parts : Array (Nat × Operand)} (ho : o.op = .buildSlice t n parts) {K : Eff → Sides → Prop}
  (h : dstK o.dst fun d => match elemOfT E.P t with
   | some e => match etyOf E e etys, Nat.beq n parts.toList.length with
    | some ty, true => partsK vs g 0 parts.toList A fun xs A => elemsK ty xs fun ys => match Nat.ble (Nat.mul n ty.n) 16777216 with
     | true => K ⟨wrapG g (.c (.row (Nat.mul d 64))), none, [(Nat.mul d 64, ⟨ty, ys, true, g⟩)], [], [], [], [], []⟩ A
     | false => False
    | _, _ => False
   | none => False) : ∃ e A', K e A' ∧ (∀ p ∈ A, p ∈ A') ∧ EffOk E vs bs rs o g A' e := by
 obtain ⟨d, hd, h'⟩ := dstK_out h
 clear h
 split at h'
 ·rename_i e he
  split at h'
  ·rename_i ty hty hn
   have hn := beq_true hn
   have hte := etyOf_out hty
   obtain ⟨xs, A1, h1, s1, a1, hi⟩ := partsK_out h'
   obtain ⟨ys, h2, hl, hv⟩ := elemsK_out h1
   split at h2
   ·rename_i hle
    have hle : n * ty.n ≤ 16777216 := Nat.le_of_ble_eq_true hle
    refine ⟨_, A1, h2, s1, ?_⟩
    refine ⟨fun p hp _ => by first | cases hp; done | (cases hp; exact ⟨rfl, rfl, rfl, rfl, ⟨_, rfl⟩, fun k x hx => by obtain ⟨rfl, rfl⟩ := find_one_eq hx; rfl⟩), ?_⟩
    intro w0 C L ρ a w next Q hL hR hB hs hg hD hfr hnx
    have hok := a1.ok (L := L) (ρ := ρ) (a := a) hD.size (fun t ht => hL t (by simpa [ho, Op.operands] using ht)) hD.slots hs hg
    have hlen := hok.length
    have hxs : xs.length = parts.toList.length := by rw [← hlen]; simp
    have hny : n = ys.length := by rw [hl, hxs, hn]
    obtain ⟨cur, hr, hc⟩ := run_litRow (w := w) hE he hte (vs := (parts.toList.map (·.2)).map a.eval) (ys := ys) (by rw [hlen, hl]) (fun j hj => by
     have := hv L ρ _ hok
     rw [← List.getElem?_map, this]) (by rw [← hny]; exact hle)
    have hown := ownR_new (w := w) (E := E) (t := ty) (xs := ys) hte hc (by
     have h1 : ys.length * 1 ≤ ys.length * ty.n := Nat.mul_le_mul_left _ ty.n_pos
     rw [← hny] at h1 ⊢
     omega)
    obtain ⟨ρ', hD'⟩ := hD.row (d := o.dst) (k := Nat.mul d 64) (x := ⟨ty, ys, true, g⟩) (V := wrapG g (.c (.row (Nat.mul d 64)))) (rd := []) (v := .slice (some ⟨w.heap.size, 0, none⟩) ys.length ys.length) (hfr.r _ _ (find_one _ _)) rfl hown (fun L' ρ' hk h1 h2 => by
     refine wrapG_ok hg ?_
     refine ⟨⟨_, _, _, rfl⟩, _, hk, fun x hx _ => ?_⟩
     obtain rfl := Option.some.inj hx
     simp only [h1, h2])
    unfold Oper.wp
    have hr2 : (execOp a.eval o).run E.P w = .ok (.value (.slice (some ⟨w.heap.size, 0, none⟩) ys.length ys.length)) (w.alloc (.cells cur e)) := by
     simp only [execOp, ho]
     rw [Sem.run_bind]
     have e1 : (parts.map fun p => (p.1, a.eval p.2)) = ((((parts.toList.map (·.2)).map a.eval).zipIdx).map fun p => (p.2, p.1)).toArray := by
      apply Array.ext'
      rw [Array.toList_map, parts_zip a.eval parts.toList 0 hi]
      simp [List.map_map, Function.comp_def]
     rw [e1, hny, hr]
     rfl
    rw [hr2, Oper.upon_value]
    exact hnx _ _ _ hD'
   ·exact h2.elim
  ·exact h'.elim
 ·exact h'.elim

theorem eff_makeSlice {t : TypeId} {l c : Operand} (ho : o.op = .makeSlice t l c) {K : Eff → Sides → Prop}
  (h : dstK o.dst fun d => match g with
   | none => argK vs none A l fun x A => argK vs none A c fun y A => match intArg x, intArg y, elemOfT E.P t with
    | some n, some m, some e => match etyOf E e etys with
     | some ty => K ⟨.a (.c (.row (Nat.mul d 64))), none, [(Nat.mul d 64, ⟨ty, List.replicate n.toNat ty.zero, true, none⟩)], [], [], [], [], []⟩ ((0 ≤ n ∧ n ≤ 4294967296 ∧ m = n) :: A)
     | none => False
    | _, _, _ => False
   | some _ => False) : ∃ e A', K e A' ∧ (∀ p ∈ A, p ∈ A') ∧ EffOk E vs bs rs o g A' e := by
 have hx : ∀ t, l = .tmp t → Operand.tmp t ∈ o.op.operands.toList := fun t e => by simp [ho, Op.operands, e]
 have hy : ∀ t, c = .tmp t → Operand.tmp t ∈ o.op.operands.toList := fun t e => by simp [ho, Op.operands, e]
 obtain ⟨d, hd, h'⟩ := dstK_out h
 clear h
 split at h'
 ·obtain ⟨x, A1, h1, s1, a1⟩ := argK_out h'
  obtain ⟨y, A2, h2, s2, a2⟩ := argK_out h1
  split at h2
  ·rename_i n m e hn hm he
   split at h2
   ·rename_i ty hty
    have hte := etyOf_out hty
    refine ⟨_, _, h2, fun p hp => List.mem_cons_of_mem _ (s2 p (s1 p hp)), ?_⟩
    refine ⟨fun p hp _ => by first | cases hp; done | (cases hp; exact ⟨rfl, rfl, rfl, rfl, ⟨_, rfl⟩, fun k x hx => by obtain ⟨rfl, rfl⟩ := find_one_eq hx; rfl⟩), ?_⟩
    intro w0 C L ρ a w next Q hL hR hB hs hg hD hfr hnx
    have hs2 : Sd A2 := hs.tail
    obtain ⟨h0, hle, hmn⟩ := hs.head
    have hvx := ok_int hn (hD.args (a1.mono s2) (fun t e => hL t (hx t e)) hs2 GT_of_none)
    have hvy := ok_int hm (hD.args a2 (fun t e => hL t (hy t e)) hs2 GT_of_none)
    obtain ⟨cur, hr, hc⟩ := run_makeRow (w := w) hE he hte h0 hle
    have hown := ownR_new (w := w) (E := E) (t := ty) (xs := List.replicate n.toNat ty.zero) hte hc (by rw [List.length_replicate]; omega)
    obtain ⟨ρ', hD'⟩ := hD.row (d := o.dst) (k := Nat.mul d 64) (x := ⟨ty, List.replicate n.toNat ty.zero, true, none⟩) (V := .a (.c (.row (Nat.mul d 64)))) (rd := []) (v := .slice (some ⟨w.heap.size, 0, none⟩) n.toNat n.toNat) (hfr.r _ _ (find_one _ _)) rfl hown (fun L' ρ' hk h1 h2 => by
     refine ⟨⟨_, _, _, rfl⟩, _, hk, fun x hx _ => ?_⟩
     obtain rfl := Option.some.inj hx
     simp only [h1, h2, List.length_replicate])
    unfold Oper.wp
    have hr2 : (execOp a.eval o).run E.P w = .ok (.value (.slice (some ⟨w.heap.size, 0, none⟩) n.toNat n.toNat)) (w.alloc (.cells cur e)) := by
     simp only [execOp, ho]
     rw [Sem.run_bind, hvx, hvy, hmn, hr]
     rfl
    rw [hr2, Oper.upon_value]
    exact hnx _ _ _ hD'
   ·exact h2.elim
  ·exact h2.elim
 ·exact h'.elim
end
end Go.Eng

namespace Go.Eng
open Go.RowKit

section
variable {E : Env} {vs : List SV} {bs : List (Nat × Blk)} {rs : List (Nat × Option Row)} {o : Oper} {g : Option Bool} {A : Sides}

theorem run_builtin {P : Program} {w : World} {c : Call} {b : Builtin} (ho : o.op = .call c) (hc : c.callee = .builtin b) (a : Act) :
  (execOp a.eval o).run P w = (builtin b c.argTypes o.type (c.args.map fun | .const _ => true | _ => false) (c.args.map a.eval)).run P w := by
 simp only [execOp, ho, resolve, hc, Sem.run_bind, Sem.run_pure, Result.andThen_ok, invoke]
 rfl

theorem ArgsR.two {os : List Operand} {x y : SA} (h : ArgsR vs g A os [x, y]) : ∃ p q, os = [p, q] ∧ Arg vs g A p x ∧ Arg vs g A q y := by
 cases h with
 | cons h0 h => cases h with
  | cons h1 h => cases h; exact ⟨_, _, rfl, h0, h1⟩

theorem ArgsR.one {os : List Operand} {x : SA} (h : ArgsR vs g A os [x]) : ∃ p, os = [p] ∧ Arg vs g A p x := by
 cases h with
 | cons h0 h => cases h; exact ⟨_, rfl, h0⟩

theorem eff_len {c : Call} {p : Operand} {t : TypeId} {x : SA} {A' : Sides} (ho : o.op = .call c) (hc : c.callee = .builtin .len) (hargs : c.args.toList = [p]) (hty : c.argTypes.toList = [t]) (ha : Arg vs g A' p x) {K : Eff → Sides → Prop}
  (h : lenK E t rs g A' x K) : ∃ e A'', K e A'' ∧ (∀ p ∈ A', p ∈ A'') ∧ EffOk E vs bs rs o g A'' e := by
 have hx : ∀ t, p = .tmp t → Operand.tmp t ∈ o.op.operands.toList := fun t e => by simp [ho, Op.operands, Call.operands, hc, hargs, e]
 have hr : ∀ (a : Act) (w : World) (v : Value), (Builtin.len_ #[t] o.type #[a.eval p]).run E.P w = .ok v w → (execOp a.eval o).run E.P w = .ok (.value v) w := fun a w v h => by
  have e1 : c.args.map a.eval = #[a.eval p] := by apply Array.ext'; rw [Array.toList_map, hargs]; rfl
  have e2 : c.argTypes = #[t] := by apply Array.ext'; rw [hty]
  rw [run_builtin ho hc, e1, e2]
  exact run_value h
 unfold lenK at h
 split at h
 ·rename_i r
  split at h
  ·rename_i e he
   obtain ⟨row, A2, h2, s2, hf, hlive⟩ := rowK_out h
   obtain ⟨ty, xs, own, rg⟩ := row
   refine ⟨_, A2, leafK_out h2, s2, .val fun w0 C L ρ a w hL hR hB hs hg hD => ?_⟩
   have hLr : L.r r = some (some ⟨ty, xs, own, rg⟩) := by rw [hR r List.mem_cons_self]; exact hf
   have hv := row_val (hD.args (ha.mono s2) (fun t e => hL t (hx t e)) hs hg) hLr (hlive hs hg)
   refine ⟨_, hr a w _ ?_, wrapG_ok hg (show SC.ok L ρ (.leaf (.int (xs.length : Int))) (.int .i64 xs.length) from rfl)⟩
   rw [hv]
   exact run_len_slice he
  ·exact h.elim
 ·split at h
  ·rename_i e he
   refine ⟨_, _, leafK_out h, fun p hp => hp, .val fun w0 C L ρ a w hL hR hB hs hg hD => ?_⟩
   have hv : a.eval p = .slice none 0 0 := hD.args ha (fun t e => hL t (hx t e)) hs hg
   refine ⟨_, hr a w _ ?_, wrapG_ok hg (show SC.ok L ρ (.leaf (.int 0)) (.int .i64 0) from rfl)⟩
   rw [hv]
   exact run_len_slice he
  ·exact h.elim
 ·rename_i s
  split at h
  ·rename_i he
   refine ⟨_, _, leafK_out h, fun p hp => hp, .val fun w0 C L ρ a w hL hR hB hs hg hD => ?_⟩
   have hv : a.eval p = .string ⟨s.toArray⟩ := hD.args ha (fun t e => hL t (hx t e)) hs hg
   refine ⟨_, hr a w _ ?_, wrapG_ok hg (show SC.ok L ρ (.leaf (.int (s.length : Int))) (.int .i64 s.length) from rfl)⟩
   rw [hv, run_len_string he, size_mk]
  ·exact h.elim
 ·exact h.elim

theorem eff_minmax {c : Call} {p q : Operand} {x y : SA} {A' : Sides} {i j : Int} (ho : o.op = .call c) {n : Int} (hc : (c.callee = .builtin .min ∧ n = if j < i then j else i) ∨ (c.callee = .builtin .max ∧ n = if j > i then j else i)) (hargs : c.args.toList = [p, q]) (ha : Arg vs g A' p x) (hb : Arg vs g A' q y)
  (hi : intArg x = some i) (hj : intArg y = some j) {K : Eff → Sides → Prop}
  (h : leafK g [] [] A' (.c (.leaf (.int n))) K) : ∃ e A'', K e A'' ∧ (∀ p ∈ A', p ∈ A'') ∧ EffOk E vs bs rs o g A'' e := by
 have hx : ∀ t, p = .tmp t → Operand.tmp t ∈ o.op.operands.toList := fun t e => by
  rcases hc with ⟨hc, _⟩ | ⟨hc, _⟩ <;> simp [ho, Op.operands, Call.operands, hc, hargs, e]
 have hy : ∀ t, q = .tmp t → Operand.tmp t ∈ o.op.operands.toList := fun t e => by
  rcases hc with ⟨hc, _⟩ | ⟨hc, _⟩ <;> simp [ho, Op.operands, Call.operands, hc, hargs, e]
 refine ⟨_, _, leafK_out h, fun p hp => hp, .val fun w0 C L ρ a w hL hR hB hs hg hD => ?_⟩
 have hvx := ok_int hi (hD.args ha (fun t e => hL t (hx t e)) hs hg)
 have hvy := ok_int hj (hD.args hb (fun t e => hL t (hy t e)) hs hg)
 refine ⟨.int .i64 n, ?_, wrapG_ok hg (show SC.ok L ρ (.leaf (.int n)) _ from rfl)⟩
 have e1 : c.args.map a.eval = #[.int .i64 i, .int .i64 j] := by apply Array.ext'; rw [Array.toList_map, hargs]; simp [hvx, hvy]
 rcases hc with ⟨hc, rfl⟩ | ⟨hc, rfl⟩
 ·rw [run_builtin ho hc, e1]
  refine run_value ?_
  simp [Builtin.min_, Builtin.min2]
 ·rw [run_builtin ho hc, e1]
  refine run_value ?_
  simp [Builtin.max_, Builtin.max2]

variable (hE : EnvOk E)
include hE

theorem eff_append {c : Call} {p q : Operand} {t : TypeId} {x y : SA} {A' : Sides} {d : Nat} (hd : o.dst = some d) (ho : o.op = .call c) (hc : c.callee = .builtin .append) (hargs : c.args.toList = [p, q]) (hty : c.argTypes.toList = [t, t])
  (ha : Arg vs none A' p x) (hb : Arg vs none A' q y) {K : Eff → Sides → Prop} (h : appendK E t rs A' d x y K) : ∃ e A'', K e A'' ∧ (∀ p ∈ A', p ∈ A'') ∧ EffOk E vs bs rs o none A'' e := by
 have hx : ∀ t, p = .tmp t → Operand.tmp t ∈ o.op.operands.toList := fun t e => by simp [ho, Op.operands, Call.operands, hc, hargs, e]
 have hy : ∀ t, q = .tmp t → Operand.tmp t ∈ o.op.operands.toList := fun t e => by simp [ho, Op.operands, Call.operands, hc, hargs, e]
 have hr : ∀ (a : Act) (w : World) (v : Value) (w' : World), (Builtin.append_ #[t, t] o.type #[a.eval p, a.eval q]).run E.P w = .ok v w' → (execOp a.eval o).run E.P w = .ok (.value v) w' := fun a w v w' h => by
  have e1 : c.args.map a.eval = #[a.eval p, a.eval q] := by apply Array.ext'; rw [Array.toList_map, hargs]; rfl
  have e2 : c.argTypes = #[t, t] := by apply Array.ext'; rw [hty]
  rw [run_builtin ho hc, e1, e2]
  show (do pure (Next.value (← Builtin.append_ #[t, t] o.type #[a.eval p, a.eval q])) : Sem Next).run E.P w = _
  rw [Sem.run_bind, h]
  rfl
 have hV : ∀ {ty : ETy} {zs : List ty.T} {b : Option Addr} {e : Nat} {v : Value}, v = .slice b zs.length e → ∀ (L' : LS) (ρ' : Val), L'.r (Nat.mul d 64) = some (some ⟨ty, zs, true, none⟩) → ρ'.ra (Nat.mul d 64) = b → ρ'.rc (Nat.mul d 64) = e → SV.ok L' ρ' (.a (.c (.row (Nat.mul d 64)))) v :=
  fun hv L' ρ' hk h1 h2 => ⟨⟨_, _, _, hv⟩, _, hk, fun x hx _ => by
   obtain rfl := Option.some.inj hx
   simp only [hv, h1, h2]⟩
 unfold appendK at h
 split at h
 ·rename_i e he
  split at h
  ·rename_i ty hty'
   have hte := etyOf_out hty'
   split at h
   ·rename_i r r'
    obtain ⟨z1, hf1, h1⟩ := lookK_out h
    split at h1
    ·rename_i ty1 xs
     obtain ⟨z2, hf2, h2⟩ := lookK_out h1
     split at h2
     ·rename_i ty2 ys own2
      split at h2
      ·rename_i xs' ys' hne hcx hcy
       obtain ⟨rfl, hxx⟩ := castRow_out hcx
       obtain ⟨rfl, hyy⟩ := castRow_out hcy
       obtain rfl := eq_of_heq hxx
       obtain rfl := eq_of_heq hyy
       refine ⟨_, _, h2, fun p hp => List.mem_cons_of_mem _ hp, ?_⟩
       refine ⟨fun p hp => by first | cases hp; done | (cases hp; exact ⟨rfl, rfl, rfl, rfl, ⟨_, rfl⟩, fun k x hx => by obtain ⟨rfl, rfl⟩ := find_one_eq hx; rfl⟩), ?_⟩
       intro w0 C L ρ a w next Q hL hR hB hs hg hD hfr hnx
       have hs2 : Sd A' := hs.tail
       have hlen := hs.head
       have hL1 : L.r r = some (some ⟨ty2, xs, true, none⟩) := by rw [hR r (by simp)]; exact hf1
       have hL2 : L.r r' = some (some ⟨ty2, ys, own2, none⟩) := by rw [hR r' (by simp)]; exact hf2
       have hv1 := row_val (hD.args ha (fun t e => hL t (hx t e)) hs2 hg) hL1 Row.live_none
       have hv2 := row_val (hD.args hb (fun t e => hL t (hy t e)) hs2 hg) hL2 Row.live_none
       have hown : OwnR E w ty2 (ρ.ra r) (ρ.rc r) xs := hD.rows r _ hL1 Row.live_none
       have hrd := (hD.rows r' _ hL2).rd Row.live_none
       obtain ⟨b, e2, w', hrun, hown', hgr, hat⟩ := run_appendRow (tt := o.type) hE he hte hown hrd hlen
       obtain ⟨ρ', hD'⟩ := hD.grow (d := o.dst) (k := Nat.mul d 64) (r := some r) (x := ⟨ty2, xs ++ ys, true, none⟩) (V := .a (.c (.row (Nat.mul d 64)))) (rd := [r, r']) (kill := [r]) (v := .slice b (xs.length + ys.length) e2)
        (hfr.r _ _ (find_one _ _)) rfl hown' rfl (fun q hq => by obtain rfl := Option.some.inj hq; exact ⟨_, hL1, rfl, Row.live_none⟩) hgr hat (hV (by rw [List.length_append]))
       unfold Oper.wp
       rw [hr a w _ _ (by rw [hv1, hv2]; exact hrun), Oper.upon_value]
       exact hnx _ _ _ hD'
      ·exact h2.elim
     ·exact h2.elim
    ·exact h1.elim
   ·rename_i r
    obtain ⟨z1, hf1, h1⟩ := lookK_out h
    split at h1
    ·rename_i ty1 xs
     split at h1
     ·rename_i xs' hcx
      obtain ⟨rfl, hxx⟩ := castRow_out hcx
      obtain rfl := eq_of_heq hxx
      refine ⟨_, _, h1, fun p hp => hp, ?_⟩
      refine ⟨fun p hp => by first | cases hp; done | (cases hp; exact ⟨rfl, rfl, rfl, rfl, ⟨_, rfl⟩, fun k x hx => by obtain ⟨rfl, rfl⟩ := find_one_eq hx; rfl⟩), ?_⟩
      intro w0 C L ρ a w next Q hL hR hB hs hg hD hfr hnx
      have hL1 : L.r r = some (some ⟨ty1, xs, true, none⟩) := by rw [hR r (by simp)]; exact hf1
      have hv1 := row_val (hD.args ha (fun t e => hL t (hx t e)) hs hg) hL1 Row.live_none
      have hv2 : a.eval q = .slice none 0 0 := hD.args hb (fun t e => hL t (hy t e)) hs hg
      have hown : OwnR E w ty1 (ρ.ra r) (ρ.rc r) xs := hD.rows r _ hL1 Row.live_none
      have hlen : xs.length ≤ xs.length := Nat.le_refl _
      -- append of nothing
      have hrun : (Builtin.append_ #[t, t] o.type #[.slice (ρ.ra r) xs.length (ρ.rc r), .slice none 0 0]).run E.P w = .ok (.slice (ρ.ra r) xs.length (ρ.rc r)) w := by
       obtain ⟨i, z, hi, hz, hzc, hsz, hbb⟩ := hE ty1 e hte
       have hu := elemOfT_out he
       have hc := hown.rd.cap
       obtain ⟨e', he', hown2⟩ := hown
       rcases hown2 with ⟨k1, k2, kl⟩ | ⟨g, off, cur, k1, _, hnc, _⟩
       ·subst kl
        rw [k1, k2]
        simp [Builtin.append_, run_underlying hu, sizeOf, typeInfo, hi, Builtin.lenOf, Builtin.firstCells]
       ·simp [Builtin.append_, run_underlying hu, sizeOf, typeInfo, hi, Builtin.lenOf, Builtin.firstCells, k1, hnc, storeCells]
      obtain ⟨ρ', hD'⟩ := hD.grow (d := o.dst) (k := Nat.mul d 64) (r := some r) (x := ⟨ty1, xs, true, none⟩) (V := .a (.c (.row (Nat.mul d 64)))) (rd := [r]) (kill := [r]) (v := .slice (ρ.ra r) xs.length (ρ.rc r)) (w' := w)
       (hfr.r _ _ (find_one _ _)) rfl hown rfl (fun q hq => by obtain rfl := Option.some.inj hq; exact ⟨_, hL1, rfl, Row.live_none⟩) ⟨rfl, rfl, rfl, Nat.le_refl _, fun _ _ _ => rfl⟩ (.inl rfl) (hV rfl)
      unfold Oper.wp
      rw [hr a w _ _ (by rw [hv1, hv2]; exact hrun), Oper.upon_value]
      exact hnx _ _ _ hD'
     ·exact h1.elim
    ·exact h1.elim
   ·rename_i r'
    obtain ⟨z2, hf2, h2⟩ := lookK_out h
    split at h2
    ·rename_i ty2 ys own2
     split at h2
     ·rename_i ys' hcy
      obtain ⟨rfl, hyy⟩ := castRow_out hcy
      obtain rfl := eq_of_heq hyy
      refine ⟨_, _, h2, fun p hp => List.mem_cons_of_mem _ hp, ?_⟩
      refine ⟨fun p hp => by first | cases hp; done | (cases hp; exact ⟨rfl, rfl, rfl, rfl, ⟨_, rfl⟩, fun k x hx => by obtain ⟨rfl, rfl⟩ := find_one_eq hx; rfl⟩), ?_⟩
      intro w0 C L ρ a w next Q hL hR hB hs hg hD hfr hnx
      have hs2 : Sd A' := hs.tail
      have hlen := hs.head
      have hL2 : L.r r' = some (some ⟨ty2, ys, own2, none⟩) := by rw [hR r' (by simp)]; exact hf2
      have hv1 : a.eval p = .slice none 0 0 := hD.args ha (fun t e => hL t (hx t e)) hs2 hg
      have hv2 := row_val (hD.args hb (fun t e => hL t (hy t e)) hs2 hg) hL2 Row.live_none
      have hrd := (hD.rows r' _ hL2).rd Row.live_none
      have hown : OwnR E w ty2 none 0 [] := ⟨e, hte, .inl ⟨rfl, rfl, rfl⟩⟩
      obtain ⟨b, e2, w', hrun, hown', hgr, hat⟩ := run_appendRow (tt := o.type) (w := w) hE he hte hown hrd (by simpa using hlen)
      obtain ⟨ρ', hD'⟩ := hD.grow (d := o.dst) (k := Nat.mul d 64) (r := none) (x := ⟨ty2, ys, true, none⟩) (V := .a (.c (.row (Nat.mul d 64)))) (rd := [r']) (kill := []) (v := .slice b ys.length e2)
       (hfr.r _ _ (find_one _ _)) rfl (by simpa using hown') rfl (fun q hq => by cases hq) hgr hat (hV rfl)
      unfold Oper.wp
      rw [hr a w _ _ (by rw [hv1, hv2]; simpa using hrun), Oper.upon_value]
      exact hnx _ _ _ hD'
     ·exact h2.elim
    ·exact h2.elim
   ·refine ⟨_, _, h, fun p hp => hp, .val fun w0 C L ρ a w hL hR hB hs hg hD => ?_⟩
    have hv1 : a.eval p = .slice none 0 0 := hD.args ha (fun t e => hL t (hx t e)) hs hg
    have hv2 : a.eval q = .slice none 0 0 := hD.args hb (fun t e => hL t (hy t e)) hs hg
    refine ⟨.slice none 0 0, hr a w _ _ ?_, show SC.ok L ρ .nil _ from rfl⟩
    obtain ⟨i, z, hi, hz, hzc, hsz, hbb⟩ := hE ty e hte
    have hu := elemOfT_out he
    rw [hv1, hv2]
    simp [Builtin.append_, run_underlying hu, sizeOf, typeInfo, hi, Builtin.lenOf, Builtin.firstCells]
   ·exact h.elim
  ·exact h.elim
 ·exact h.elim

theorem eff_builtin {c : Call} {b : Builtin} (ho : o.op = .call c) (hc : c.callee = .builtin b) {K : Eff → Sides → Prop}
  (h : argsK vs g c.args.toList A fun xs A => dstK o.dst fun d => builtinK E b c.argTypes.toList rs g A d xs K) : ∃ e A', K e A' ∧ (∀ p ∈ A, p ∈ A') ∧ EffOk E vs bs rs o g A' e := by
 obtain ⟨xs, A1, h1, s1, a1⟩ := argsK_out h
 obtain ⟨d, hd, h2⟩ := dstK_out h1
 clear h h1
 unfold builtinK at h2
 split at h2
 ·rename_i t x hty
  obtain ⟨p, hp, ha⟩ := a1.one
  obtain ⟨e, A2, hK, s2, he⟩ := eff_len (bs := bs) ho hc hp hty ha h2
  exact ⟨e, A2, hK, fun p hp => s2 p (s1 p hp), he⟩
 ·rename_i t t' s x hty
  split at h2
  ·rename_i hb
   obtain rfl := beq_true hb
   obtain ⟨p, q, hpq, ha, hb⟩ := a1.two
   obtain ⟨e, A2, hK, s2, he⟩ := eff_append (bs := bs) hE hd ho hc hpq hty ha hb h2
   exact ⟨e, A2, hK, fun p hp => s2 p (s1 p hp), he⟩
  ·exact h2.elim
 ·rename_i x y
  obtain ⟨p, q, hpq, ha, hb⟩ := a1.two
  split at h2
  ·rename_i i j hi hj
   obtain ⟨e, A2, hK, s2, he⟩ := eff_minmax (bs := bs) (rs := rs) (E := E) ho (.inl ⟨hc, rfl⟩) hpq ha hb hi hj h2
   exact ⟨e, A2, hK, fun p hp => s2 p (s1 p hp), he⟩
  ·exact h2.elim
 ·rename_i x y
  obtain ⟨p, q, hpq, ha, hb⟩ := a1.two
  split at h2
  ·rename_i i j hi hj
   obtain ⟨e, A2, hK, s2, he⟩ := eff_minmax (bs := bs) (rs := rs) (E := E) ho (.inr ⟨hc, rfl⟩) hpq ha hb hi hj h2
   exact ⟨e, A2, hK, fun p hp => s2 p (s1 p hp), he⟩
  ·exact h2.elim
 ·exact h2.elim
end
end Go.Eng

namespace Go.Eng
open Go.RowKit

def HC (E : Env) (w : World) (own : Bool) : (cts : List CT) → denC cts → List Value → List Nat → Prop
 | [], _, us, B => us = [] ∧ B = []
 | .leaf l :: cts, (d, ds), us, B => ∃ us', us = (l.leaf d).val :: us' ∧ HC E w own cts ds us' B
 | .row t :: cts, (d, ds), us, B => ∃ a c us' B', us = .slice a d.length c :: us' ∧ (match own with | true => OwnR E w t a c d | false => Rd w t a c d) ∧ B = (a.map (·.block)).toList ++ B' ∧ HC E w own cts ds us' B'

def shapeV (agg : Bool) (v : Value) (us : List Value) : Prop :=
 match agg with
 | true => v = .agg us.toArray
 | false => us = [v]

theorem HC.length {E : Env} {w : World} {own : Bool} : ∀ {cts : List CT} {ds : denC cts} {us : List Value} {B : List Nat}, HC E w own cts ds us B → us.length = cts.length
 | [], _, us, B, h => by rw [h.1]; rfl
 | .leaf l :: cts, (d, ds), us, B, ⟨us', e, h⟩ => by rw [e, List.length_cons, h.length, List.length_cons]
 | .row t :: cts, (d, ds), us, B, ⟨a, c, us', B', e, _, _, h⟩ => by rw [e, List.length_cons, h.length, List.length_cons]

def bk (ρ : Val) (r : Nat) : Option Nat := (ρ.ra r).map (·.block)


def rowNames : List SC → List Nat
 | [] => []
 | .row r :: l => r :: rowNames l
 | .leaf _ :: l => rowNames l
 | .nil :: l => rowNames l
 | .ptr _ _ :: l => rowNames l
 | .ep _ _ _ :: l => rowNames l

inductive PDs (rs : List (Nat × Option Row)) (g : Option Bool) (A : Sides) : List SC → List PD → Prop where
 | nil : PDs rs g A [] []
 | leaf {x : Leaf} {l : List SC} {ds : List PD} : PDs rs g A l ds → PDs rs g A (.leaf x :: l) (.leaf x :: ds)
 | null {l : List SC} {ds : List PD} : PDs rs g A l ds → PDs rs g A (.nil :: l) (.nil :: ds)
 | row {r : Nat} {x : Row} {l : List SC} {ds : List PD} : find rs r = some (some x) → (Sd A → GT g → x.live) → PDs rs g A l ds → PDs rs g A (.row r :: l) (.row x.t x.xs :: ds)

theorem PDs.mono {rs : List (Nat × Option Row)} {g : Option Bool} {A A' : Sides} {l : List SC} {ds : List PD} (h : PDs rs g A l ds) (hs : ∀ p ∈ A, p ∈ A') : PDs rs g A' l ds := by
 induction h with
 | nil => exact .nil
 | leaf _ ih => exact .leaf ih
 | null _ ih => exact .null ih
 | row h1 h2 _ ih => exact .row h1 (fun h => h2 (h.mono hs)) ih

theorem pdsK_out {rs : List (Nat × Option Row)} {g : Option Bool} : ∀ {l : List SC} {A : Sides} {R : List Nat} {K : List PD → Sides → List Nat → Prop}, pdsK rs g l A R K →
  ∃ ds A', K ds A' ((rowNames l).reverse ++ R) ∧ (∀ p ∈ A, p ∈ A') ∧ PDs rs g A' l ds
 | [], A, R, K, h => ⟨[], A, h, fun p hp => hp, .nil⟩
 | x :: l, A, R, K, h => by
  simp only [pdsK, pdK] at h
  split at h
  ·obtain ⟨ds, A', hK, hs, hp⟩ := pdsK_out h
   exact ⟨_, A', hK, hs, .leaf hp⟩
  ·obtain ⟨ds, A', hK, hs, hp⟩ := pdsK_out h
   exact ⟨_, A', hK, hs, .null hp⟩
  ·obtain ⟨y, A1, h1, s1, hf, hl⟩ := rowK_out h
   obtain ⟨t, xs, own, q⟩ := y
   obtain ⟨ds, A', hK, hs, hp⟩ := pdsK_out h1
   refine ⟨_, A', ?_, fun p hp => hs p (s1 p hp), .row hf (fun hA => hl (hA.mono hs)) hp⟩
   simpa [rowNames] using hK
  ·exact h.elim

theorem parseC_row {t t' : ETy} {xs : List t'.T} {d : List t.T} (h : castRow t' t xs = some d) : t' = t ∧ HEq xs d := by
 obtain ⟨h1, h2⟩ := castRow_out h
 exact ⟨h1, h2⟩

section
variable {E : Env} {w : World} {L : LS} {ρ : Val} {rs : List (Nat × Option Row)} {g : Option Bool} {A : Sides}

theorem PDs.hc {own : Bool} (hs : Sd A) (hg : GT g) (hr : ∀ r x, L.r r = some (some x) → RowOk E w (ρ.ra r) (ρ.rc r) x) {l : List SC} {ds : List PD} (h : PDs rs g A l ds) :
  ∀ {cts : List CT} {d : denC cts} {us : List Value}, parseC cts ds = some d → (∀ r ∈ rowNames l, L.r r = find rs r) → Oks L ρ l us →
  (own = true → (∀ r ∈ rowNames l, ∃ t xs, find rs r = some (some ⟨t, xs, true, none⟩)) ∧ ∀ t, CT.row t ∈ cts → ∃ e, E.eid t = some e) →
  HC E w own cts d us ((rowNames l).filterMap (bk ρ)) := by
 induction h with
 | nil =>
  intro cts d us hp hL hu ho
  cases hu
  cases cts with
  | nil => exact ⟨rfl, rfl⟩
  | cons c cts => simp [parseC] at hp
 | leaf hx ih =>
  rename_i x l ds
  intro cts d us hp hL hu ho
  cases cts with
  | nil => simp [parseC] at hp
  | cons c cts =>
   simp only [parseC] at hp
   split at hp
   ·rename_i d1 h1
    split at hp
    ·rename_i d2 h2
     obtain rfl := Option.some.inj hp
     cases hu with
     | cons hv hu =>
      cases c with
      | leaf lt =>
       have e1 := LT.get_leaf (l := lt) (x := x) (d := d1) h1
       refine ⟨_, ?_, ih h2 hL hu fun hh => ⟨(ho hh).1, fun t ht => (ho hh).2 t (List.mem_cons_of_mem _ ht)⟩⟩
       rw [e1]
       rw [show _ = x.val from hv]
      | row t => simp [CT.get] at h1
    ·cases hp
   ·cases hp
 | null hx ih =>
  rename_i l ds
  intro cts d us hp hL hu ho
  cases cts with
  | nil => simp [parseC] at hp
  | cons c cts =>
   simp only [parseC] at hp
   split at hp
   ·rename_i d1 h1
    split at hp
    ·rename_i d2 h2
     obtain rfl := Option.some.inj hp
     cases hu with
     | cons hv hu =>
      cases c with
      | leaf lt => simp [CT.get] at h1
      | row t =>
       obtain rfl : [] = d1 := Option.some.inj h1
       refine ⟨none, 0, _, _, ?_, ?_, rfl, ih h2 hL hu fun hh => ⟨(ho hh).1, fun t ht => (ho hh).2 t (List.mem_cons_of_mem _ ht)⟩⟩
       ·rw [show _ = Value.slice none 0 0 from hv]; rfl
       ·cases own with
        | true =>
         obtain ⟨e, he⟩ := (ho rfl).2 t List.mem_cons_self
         exact ⟨e, he, .inl ⟨rfl, rfl, rfl⟩⟩
        | false => exact ⟨Nat.le_refl _, fun _ h => (by cases h), fun j u hj => by simp [cells] at hj⟩
    ·cases hp
   ·cases hp
 | row hf hl hx ih =>
  rename_i r x l ds
  intro cts d us hp hL hu ho
  cases cts with
  | nil => simp [parseC] at hp
  | cons c cts =>
   simp only [parseC] at hp
   split at hp
   ·rename_i d1 h1
    split at hp
    ·rename_i d2 h2
     obtain rfl := Option.some.inj hp
     cases hu with
     | cons hv hu =>
      cases c with
      | leaf lt => cases lt <;> simp [CT.get] at h1
      | row t =>
       obtain ⟨t', xs, own', q⟩ := x
       obtain ⟨rfl, hh⟩ := parseC_row (t := t) (t' := t') (xs := xs) (d := d1) h1
       obtain rfl := eq_of_heq hh
       have hLr := (hL r List.mem_cons_self).trans hf
       have hv' := row_val hv hLr (hl hs hg)
       have htail : HC E w own cts d2 _ ((rowNames l).filterMap (bk ρ)) := ih h2 (fun r hr => hL r (List.mem_cons_of_mem _ hr)) hu fun hh => ⟨fun r hr => (ho hh).1 r (List.mem_cons_of_mem _ hr), fun t ht => (ho hh).2 t (List.mem_cons_of_mem _ ht)⟩
       refine ⟨ρ.ra r, ρ.rc r, _, _, ?_, ?_, ?_, htail⟩
       ·rw [hv']
       ·cases own with
        | true =>
         obtain ⟨t2, xs2, h2⟩ := (ho rfl).1 r List.mem_cons_self
         rw [hf] at h2
         cases h2
         exact hr r _ hLr (hl hs hg)
        | false => exact (hr r _ hLr).rd (hl hs hg)
       ·show (rowNames (.row r :: l)).filterMap (bk ρ) = _
        simp only [rowNames, List.filterMap_cons, bk]
        cases ρ.ra r <;> rfl
    ·cases hp
   ·cases hp
end
end Go.Eng

namespace Go.Eng
open Go.RowKit

def outC (b : Nat) : (cts : List CT) → denC cts → List SC
 | [], _ => []
 | .leaf l :: cts, (d, ds) => .leaf (l.leaf d) :: outC (b + 1) cts ds
 | .row _ :: cts, (_, ds) => .row b :: outC (b + 1) cts ds

def outR (g : Option Bool) (b : Nat) : (cts : List CT) → denC cts → List (Nat × Row)
 | [], _ => []
 | .leaf _ :: cts, (_, ds) => outR g (b + 1) cts ds
 | .row t :: cts, (d, ds) => (b, ⟨t, d, true, g⟩) :: outR g (b + 1) cts ds

theorem outK_out {g : Option Bool} : ∀ {cts : List CT} {b : Nat} {d : denC cts} {K : List SC → List (Nat × Row) → Prop}, outK g b cts d K → K (outC b cts d) (outR g b cts d)
 | [], b, d, K, h => h
 | .leaf l :: cts, b, (d, ds), K, h => outK_out (cts := cts) (b := b + 1) (d := ds) (K := fun xs rw => K (.leaf (l.leaf d) :: xs) rw) h
 | .row t :: cts, b, (d, ds), K, h => outK_out (cts := cts) (b := b + 1) (d := ds) (K := fun xs rw => K (.row b :: xs) ((b, ⟨t, d, true, g⟩) :: rw)) h

theorem outC_length : ∀ {cts : List CT} {b : Nat} {d : denC cts}, (outC b cts d).length = cts.length
 | [], b, d => rfl
 | .leaf l :: cts, b, (d, ds) => by simp [outC, outC_length (cts := cts) (b := b + 1) (d := ds)]
 | .row t :: cts, b, (d, ds) => by simp [outC, outC_length (cts := cts) (b := b + 1) (d := ds)]

def rowAs (E : Env) (w : World) (own : Bool) (x : Row) (a : Option Addr) (c : Nat) : Prop :=
 match own with
 | true => OwnR E w x.t a c x.xs
 | false => Rd w x.t a c x.xs

section
variable {E : Env} {w : World} {own : Bool} {g : Option Bool}

theorem HC.rows : ∀ {cts : List CT} {d : denC cts} {us : List Value} {B : List Nat} {b : Nat}, HC E w own cts d us B → ∀ r x, (r, x) ∈ outR g b cts d →
  ∃ j a c, r = b + j ∧ j < cts.length ∧ us[j]? = some (.slice a x.xs.length c) ∧ x.g = g ∧ x.own = true ∧ rowAs E w own x a c
 | [], d, us, B, b, h => fun r x hx => by cases hx
 | .leaf l :: cts, (d, ds), us, B, b, ⟨us', e, h⟩ => fun r x hx => by
  obtain ⟨j, a, c, h1, h2, h3, h4⟩ := HC.rows (b := b + 1) h r x hx
  exact ⟨j + 1, a, c, by omega, by simpa using h2, by rw [e]; simpa using h3, h4⟩
 | .row t :: cts, (d, ds), us, B, b, ⟨a, c, us', B', e, ho, hB, h⟩ => fun r x hx => by
  rcases List.mem_cons.1 hx with hx | hx
  ·cases hx
   exact ⟨0, a, c, rfl, by simp, by rw [e]; rfl, rfl, rfl, ho⟩
  ·obtain ⟨j, a, c, h1, h2, h3, h4⟩ := HC.rows (b := b + 1) h r x hx
   exact ⟨j + 1, a, c, by omega, by simpa using h2, by rw [e]; simpa using h3, h4⟩

theorem HC.isRow : ∀ {cts : List CT} {d : denC cts} {us : List Value} {B : List Nat} {b : Nat}, HC E w own cts d us B → ∀ (j : Nat) (a : Option Addr) (n c : Nat), us[j]? = some (.slice a n c) → ∃ x, (b + j, x) ∈ outR g b cts d
 | [], d, us, B, b, h => fun j a n c hj => by rw [h.1] at hj; simp at hj
 | .leaf l :: cts, (d, ds), us, B, b, ⟨us', e, h⟩ => fun j a n c hj => by
  cases j with
  | zero => rw [e] at hj; cases l <;> simp [LT.leaf, Leaf.val] at hj
  | succ j =>
   rw [e] at hj
   obtain ⟨x, hx⟩ := HC.isRow (b := b + 1) h j a n c (by simpa using hj)
   exact ⟨x, by rw [show b + (j + 1) = b + 1 + j by omega]; exact hx⟩
 | .row t :: cts, (d, ds), us, B, b, ⟨a, c, us', B', e, ho, hB, h⟩ => fun j a n c hj => by
  cases j with
  | zero => exact ⟨_, List.mem_cons_self⟩
  | succ j =>
   rw [e] at hj
   obtain ⟨x, hx⟩ := HC.isRow (b := b + 1) h j a n c (by simpa using hj)
   exact ⟨x, by rw [show b + (j + 1) = b + 1 + j by omega]; exact List.mem_cons_of_mem _ hx⟩

def Knows (ρ : Val) (b : Nat) (us : List Value) : Prop := ∀ (j : Nat) (a : Option Addr) (n c : Nat), us[j]? = some (.slice a n c) → ρ.ra (b + j) = a ∧ ρ.rc (b + j) = c

theorem Knows.tail {ρ : Val} {b : Nat} {u : Value} {us : List Value} (h : Knows ρ b (u :: us)) : Knows ρ (b + 1) us := fun j a n c hj => by
 have := h (j + 1) a n c (by simpa using hj)
 rwa [show b + (j + 1) = b + 1 + j by omega] at this

theorem HC.oks {L : LS} {ρ : Val} : ∀ {cts : List CT} {d : denC cts} {us : List Value} {B : List Nat} {b : Nat}, HC E w own cts d us B → (∀ r x, (r, x) ∈ outR g b cts d → ∃ y, L.r r = some (some y) ∧ y.xs.length = x.xs.length) → Knows ρ b us → Oks L ρ (outC b cts d) us
 | [], d, us, B, b, h, _, _ => by rw [h.1]; exact .nil
 | .leaf l :: cts, (d, ds), us, B, b, ⟨us', e, h⟩, hL, hk => by
  subst e
  exact .cons rfl (HC.oks h hL hk.tail)
 | .row t :: cts, (d, ds), us, B, b, ⟨a, c, us', B', e, ho, hB, h⟩, hL, hk => by
  subst e
  refine .cons ?_ (HC.oks h (fun r x hx => hL r x (List.mem_cons_of_mem _ hx)) hk.tail)
  obtain ⟨y, hy, hlen⟩ := hL b ⟨t, d, true, g⟩ List.mem_cons_self
  refine ⟨⟨_, _, _, rfl⟩, _, hy, fun x hx hl => ?_⟩
  obtain rfl := Option.some.inj hx
  obtain ⟨h1, h2⟩ := hk 0 a _ c rfl
  rw [show b + 0 = b from rfl] at h1 h2
  rw [h1, h2, hlen]

theorem HC.blocks {ρ : Val} : ∀ {cts : List CT} {d : denC cts} {us : List Value} {B : List Nat} {b : Nat}, HC E w own cts d us B → Knows ρ b us → B = (outR g b cts d).filterMap fun q => bk ρ q.1
 | [], d, us, B, b, h, _ => by rw [h.2]; rfl
 | .leaf l :: cts, (d, ds), us, B, b, ⟨us', e, h⟩, hk => by
  subst e
  have := HC.blocks (cts := cts) (d := ds) h hk.tail
  exact this
 | .row t :: cts, (d, ds), us, B, b, ⟨a, c, us', B', e, ho, hB, h⟩, hk => by
  subst e
  have := HC.blocks h hk.tail
  obtain ⟨h1, _⟩ := hk 0 a _ c rfl
  rw [show b + 0 = b from rfl] at h1
  rw [hB, this]
  simp only [outR, List.filterMap_cons, bk, h1]
  cases a <;> rfl

theorem outR_keys : ∀ {cts : List CT} {d : denC cts} {b : Nat}, (∀ r x, (r, x) ∈ outR g b cts d → b ≤ r ∧ r < b + cts.length) ∧ ((outR g b cts d).map (·.1)).Nodup
 | [], d, b => ⟨fun r x hx => (by cases hx), List.nodup_nil⟩
 | .leaf l :: cts, (d, ds), b => by
  obtain ⟨h1, h2⟩ := outR_keys (cts := cts) (d := ds) (b := b + 1)
  exact ⟨fun r x hx => by have := h1 r x hx; simp only [List.length_cons]; omega, h2⟩
 | .row t :: cts, (d, ds), b => by
  obtain ⟨h1, h2⟩ := outR_keys (cts := cts) (d := ds) (b := b + 1)
  refine ⟨fun r x hx => ?_, ?_⟩
  ·rcases List.mem_cons.1 hx with hx | hx
   ·cases hx; simp only [List.length_cons]; omega
   ·have := h1 r x hx; simp only [List.length_cons]; omega
  ·show (b :: (outR g (b + 1) cts ds).map (·.1)).Nodup
   refine List.nodup_cons.2 ⟨fun hm => ?_, h2⟩
   obtain ⟨⟨r, x⟩, hx, e⟩ := List.mem_map.1 hm
   have := h1 r x hx
   simp only at e
   omega
end


def HOs (E : Env) (w : World) (own : Bool) : (ts : List ATy) → denA ts → List Value → List Value → List Nat → Prop
 | [], _, ys, US, B => ys = [] ∧ US = [] ∧ B = []
 | t :: ts, (d, ds), ys, US, B => ∃ v ys' us US' B1 B2, ys = v :: ys' ∧ US = us ++ US' ∧ B = B1 ++ B2 ∧ shapeV t.agg v us ∧ HC E w own t.cts (t.to d) us B1 ∧ HOs E w own ts ds ys' US' B2

def outsR (g : Option Bool) (b : Nat) : (ts : List ATy) → denA ts → List (Nat × Row)
 | [], _ => []
 | t :: ts, (d, ds) => outR g b t.cts (t.to d) ++ outsR g (b + t.cts.length) ts ds

def shapeA (agg : Bool) (cs : List SC) : SA :=
 match agg, cs with
 | true, cs => .agg cs
 | false, [x] => .c x
 | false, cs => .agg cs

def outsA (b : Nat) : (ts : List ATy) → denA ts → List SA
 | [], _ => []
 | t :: ts, (d, ds) => shapeA t.agg (outC b t.cts (t.to d)) :: outsA (b + t.cts.length) ts ds

theorem outsK_out {g : Option Bool} : ∀ {ts : List ATy} {b : Nat} {d : denA ts} {K : List SA → List (Nat × Row) → Prop}, outsK g b ts d K → K (outsA b ts d) (outsR g b ts d)
 | [], b, d, K, h => h
 | t :: ts, b, (d, ds), K, h => by
  have h1 := outK_out h
  have h2 := outsK_out (ts := ts) (b := b + t.cts.length) (d := ds) h1
  have h3 := appK_out h2
  show K (shapeA t.agg (outC b t.cts (t.to d)) :: outsA (b + t.cts.length) ts ds) (outR g b t.cts (t.to d) ++ outsR g (b + t.cts.length) ts ds)
  revert h3
  generalize outC b t.cts (t.to d) = cs
  intro h3
  split at h3
  ·rename_i e
   rw [e]
   exact h3
  ·rename_i e
   rw [e]
   exact h3
  ·exact h3.elim

section
variable {E : Env} {w : World} {own : Bool} {g : Option Bool}

theorem HOs.rows : ∀ {ts : List ATy} {d : denA ts} {ys US : List Value} {B : List Nat} {b : Nat}, HOs E w own ts d ys US B → ∀ r x, (r, x) ∈ outsR g b ts d →
  ∃ j a c, r = b + j ∧ US[j]? = some (.slice a x.xs.length c) ∧ x.g = g ∧ x.own = true ∧ rowAs E w own x a c
 | [], d, ys, US, B, b, h => fun r x hx => by cases hx
 | t :: ts, (d, ds), ys, US, B, b, ⟨v, ys', us, US', B1, B2, e1, e2, e3, hs, hc, ho⟩ => fun r x hx => by
  have hlen := hc.length
  rcases List.mem_append.1 hx with hx | hx
  ·obtain ⟨j, a, c, h1, h2, h3, h4, h5, h6⟩ := hc.rows r x hx
   exact ⟨j, a, c, h1, by rw [e2, List.getElem?_append_left (by omega)]; exact h3, h4, h5, h6⟩
  ·obtain ⟨j, a, c, h1, h2, h3⟩ := HOs.rows ho r x hx
   exact ⟨us.length + j, a, c, by omega, by rw [e2, List.getElem?_append_right (by omega), Nat.add_sub_cancel_left]; exact h2, h3⟩

theorem HOs.isRow : ∀ {ts : List ATy} {d : denA ts} {ys US : List Value} {B : List Nat} {b : Nat}, HOs E w own ts d ys US B → ∀ (j : Nat) (a : Option Addr) (n c : Nat), US[j]? = some (.slice a n c) → ∃ x, (b + j, x) ∈ outsR g b ts d
 | [], d, ys, US, B, b, h => fun j a n c hj => by rw [h.2.1] at hj; simp at hj
 | t :: ts, (d, ds), ys, US, B, b, ⟨v, ys', us, US', B1, B2, e1, e2, e3, hs, hc, ho⟩ => fun j a n c hj => by
  have hlen := hc.length
  rw [e2] at hj
  rcases Nat.lt_or_ge j us.length with hlt | hge
  ·rw [List.getElem?_append_left hlt] at hj
   obtain ⟨x, hx⟩ := hc.isRow (b := b) (g := g) j a n c hj
   exact ⟨x, List.mem_append_left _ hx⟩
  ·rw [List.getElem?_append_right hge] at hj
   obtain ⟨x, hx⟩ := HOs.isRow (b := b + t.cts.length) ho _ a n c hj
   exact ⟨x, List.mem_append_right _ (by rw [show b + j = b + t.cts.length + (j - us.length) by omega]; exact hx)⟩

theorem shapeA_ok {L : LS} {ρ : Val} {agg : Bool} {cs : List SC} {us : List Value} {v : Value} (hs : shapeV agg v us) (h : Oks L ρ cs us) : SA.ok L ρ (shapeA agg cs) v := by
 cases agg with
 | true => exact ⟨us, hs, h⟩
 | false =>
  have hs : us = [v] := hs
  subst hs
  cases h with
  | cons h0 h1 => cases h1; exact h0

theorem HOs.oks {L : LS} {ρ : Val} : ∀ {ts : List ATy} {d : denA ts} {ys US : List Value} {B : List Nat} {b : Nat}, HOs E w own ts d ys US B → (∀ r x, (r, x) ∈ outsR g b ts d → ∃ y, L.r r = some (some y) ∧ y.xs.length = x.xs.length) → Knows ρ b US → OkAs L ρ (outsA b ts d) ys
 | [], d, ys, US, B, b, h, _, _ => by rw [h.1]; exact .nil
 | t :: ts, (d, ds), ys, US, B, b, ⟨v, ys', us, US', B1, B2, e1, e2, e3, hs, hc, ho⟩, hL, hk => by
  have hlen := hc.length
  rw [e1]
  refine .cons ?_ (HOs.oks ho (fun r x hx => hL r x (List.mem_append_right _ hx)) fun j a n c hj => ?_)
  ·exact shapeA_ok hs (hc.oks (g := g) (fun r x hx => hL r x (List.mem_append_left _ hx)) fun j a n c hj => by
    refine hk j a n c ?_
    rw [e2, List.getElem?_append_left (List.getElem?_eq_some_iff.1 hj).1]
    exact hj)
  ·have := hk (us.length + j) a n c (by rw [e2, List.getElem?_append_right (by omega), Nat.add_sub_cancel_left]; exact hj)
   rwa [show b + (us.length + j) = b + t.cts.length + j by omega] at this

theorem HOs.blocks {ρ : Val} : ∀ {ts : List ATy} {d : denA ts} {ys US : List Value} {B : List Nat} {b : Nat}, HOs E w own ts d ys US B → Knows ρ b US → B = (outsR g b ts d).filterMap fun q => bk ρ q.1
 | [], d, ys, US, B, b, h, _ => by rw [h.2.2]; rfl
 | t :: ts, (d, ds), ys, US, B, b, ⟨v, ys', us, US', B1, B2, e1, e2, e3, hs, hc, ho⟩, hk => by
  have hlen := hc.length
  rw [e3, outsR, List.filterMap_append]
  congr 1
  ·refine hc.blocks (g := g) fun j a n c hj => hk j a n c ?_
   rw [e2, List.getElem?_append_left (List.getElem?_eq_some_iff.1 hj).1]
   exact hj
  ·refine HOs.blocks ho fun j a n c hj => ?_
   have := hk (us.length + j) a n c (by rw [e2, List.getElem?_append_right (by omega), Nat.add_sub_cancel_left]; exact hj)
   rwa [show b + (us.length + j) = b + t.cts.length + j by omega] at this

def cellsN : List ATy → Nat
 | [] => 0
 | t :: ts => t.cts.length + cellsN ts

theorem outsR_keys : ∀ {ts : List ATy} {d : denA ts} {b : Nat}, (∀ r x, (r, x) ∈ outsR g b ts d → b ≤ r) ∧ ((outsR g b ts d).map (·.1)).Nodup
 | [], d, b => ⟨fun r x hx => (by cases hx), List.nodup_nil⟩
 | t :: ts, (d, ds), b => by
  obtain ⟨h1, h2⟩ := outR_keys (g := g) (cts := t.cts) (d := t.to d) (b := b)
  obtain ⟨h3, h4⟩ := outsR_keys (ts := ts) (d := ds) (b := b + t.cts.length)
  refine ⟨fun r x hx => ?_, ?_⟩
  ·rcases List.mem_append.1 hx with hx | hx
   ·exact (h1 r x hx).1
   ·have := h3 r x hx; omega
  ·rw [outsR, List.map_append]
   refine List.nodup_append.2 ⟨h2, h4, fun a ha b' hb e => ?_⟩
   obtain ⟨⟨r, x⟩, hx, e1⟩ := List.mem_map.1 ha
   obtain ⟨⟨r', x'⟩, hx', e2⟩ := List.mem_map.1 hb
   have := h1 r x hx
   have := h3 r' x' hx'
   simp only at e1 e2
   omega
end

theorem find_of_mem {α : Type} : ∀ {l : List (Nat × α)}, (l.map (·.1)).Nodup → ∀ {r : Nat} {x : α}, (r, x) ∈ l → find l r = some x
 | [], _, r, x, h => by cases h
 | (k, y) :: l, hn, r, x, h => by
  rw [List.map_cons, List.nodup_cons] at hn
  rcases List.mem_cons.1 h with h | h
  ·cases h; simp [find]
  ·have hne : ¬ k = r := by
    rintro rfl
    exact hn.1 (List.mem_map.2 ⟨_, h, rfl⟩)
   simp [find, hne, find_of_mem hn.2 h]

theorem mem_of_find {α : Type} : ∀ {l : List (Nat × α)} {r : Nat} {x : α}, find l r = some x → (r, x) ∈ l
 | [], r, x, h => by cases h
 | (k, y) :: l, r, x, h => by
  simp only [find] at h
  split at h
  ·rename_i e; obtain rfl := Option.some.inj h; rw [e]; exact List.mem_cons_self
  ·exact List.mem_cons_of_mem _ (mem_of_find h)

theorem filterMap_ne {α : Type} {f : α → Option Nat} : ∀ {l : List α}, (l.filterMap f).Nodup → ∀ {x y : α}, x ∈ l → y ∈ l → x ≠ y → ∀ g, f x = some g → f y ≠ some g
 | [], _, x, y, hx, _, _ => by cases hx
 | z :: l, hn, x, y, hx, hy, hne => fun g hg hy' => by
  have key : ∀ u, u ∈ l → f z = some g → f u = some g → False := fun u hu h1 h2 => by
   rw [List.filterMap_cons, h1] at hn
   exact (List.nodup_cons.1 hn).1 (List.mem_filterMap.2 ⟨u, hu, h2⟩)
  rcases List.mem_cons.1 hx with e1 | hx1
  ·rcases List.mem_cons.1 hy with e2 | hy1
   ·exact hne (e1.trans e2.symm)
   ·exact key y hy1 (e1 ▸ hg) hy'
  ·rcases List.mem_cons.1 hy with e2 | hy1
   ·exact key x hx1 (e2 ▸ hy') hg
   ·refine filterMap_ne (l := l) ?_ hx1 hy1 hne g hg hy'
    rw [List.filterMap_cons] at hn
    split at hn
    ·exact hn
    ·exact (List.nodup_cons.1 hn).2
end Go.Eng

namespace Go.Eng
open Go.RowKit

section
variable {E : Env} {w0 : World} {C : List Nat} {n : Nat} {L : LS} {ρ : Val} {a : Act} {w : World}

theorem Den.call (hD : Den E w0 C n L ρ a w) {d : Option Nat} {nr : List (Nat × Row)} {kl : List Nat} {up : List (Nat × Row)} {sb : List (Nat × List SC)} {rd rf : List Nat} {V : SV} {v : Value} {w' : World}
  (adr : Nat → Option Addr × Nat) (X : List Nat)
  (hnf : ∀ r x, find nr r = some x → L.r r = none)
  (hkl : ∀ r ∈ kl, L.own (.r r))
  (hup : ∀ r y, find up r = some y → r ∉ kl ∧ y.own = true ∧ y.g = none ∧ OwnR E w' y.t (ρ.ra r) (ρ.rc r) y.xs ∧ ∃ x, L.r r = some (some x) ∧ x.own = true ∧ x.live ∧ y.xs.length = x.xs.length ∧ y.t.n = x.t.n)
  (hsb : ∀ k cs, find sb k = some cs → ∃ ty cs0 us', L.b k = some ⟨ty, cs0⟩ ∧ w'.heap[ρ.bl k]? = some (.cells us' ty (0, 0)) ∧ ∀ L' ρ', LE L ρ L' ρ' → (∀ r x, find nr r = some x → L'.r r = some (some x) ∧ ρ'.ra r = (adr r).1 ∧ ρ'.rc r = (adr r).2) → Oks L' ρ' cs us'.toList)
  (hX : ∀ g ∈ X, (∃ r ∈ kl, bk ρ r = some g) ∨ (∃ r y, find up r = some y ∧ bk ρ r = some g) ∨ (∃ k cs, find sb k = some cs ∧ ρ.bl k = g))
  (hk : Kept X w w')
  (hnr : ∀ r x, find nr r = some x → x.own = true ∧ x.live ∧ RowOk E w' (adr r).1 (adr r).2 x)
  (hor : ∀ r x g, find nr r = some x → (adr r).1.map (·.block) = some g → w.heap.size ≤ g ∨ ∃ r' ∈ kl, bk ρ r' = some g)
  (hnd : ∀ r r' x x', find nr r = some x → find nr r' = some x' → r ≠ r' → ∀ g, (adr r).1.map (·.block) = some g → (adr r').1.map (·.block) ≠ some g)
  (hV : ∀ L' ρ', LE L ρ L' ρ' → (∀ r x, find nr r = some x → L'.r r = some (some x) ∧ ρ'.ra r = (adr r).1 ∧ ρ'.rc r = (adr r).2) → SV.ok L' ρ' V v) :
  ∃ ρ', Den E w0 C n (L.app d ⟨V, none, nr, kl, up, sb, rd, rf⟩) ρ' (a.put d v) w' := by
 generalize hL' : L.app d ⟨V, none, nr, kl, up, sb, rd, rf⟩ = L'
 have hb : ∀ k, L'.b k = match find sb k with | some cs => (L.b k).map fun b => ⟨b.t, cs⟩ | none => L.b k := fun k => by
  subst hL'
  have e : (if d = some k then (none : Option Blk) else none) = none := by split <;> rfl
  simp only [LS.app, e]
  rfl
 have hr : ∀ r, L'.r r = match find nr r with | some x => some (some x) | none => match find up r with | some x => some (some x) | none => if r ∈ kl then some none else L.r r := fun r => by subst hL'; rfl
 let ρ' : Val := ⟨ρ.bl, fun r => if (find nr r).isSome then (adr r).1 else ρ.ra r, fun r => if (find nr r).isSome then (adr r).2 else ρ.rc r⟩
 have hold : ∀ r, find nr r = none → ρ'.ra r = ρ.ra r ∧ ρ'.rc r = ρ.rc r := fun r h => by simp [ρ', h]
 have hnew : ∀ r x, find nr r = some x → L'.r r = some (some x) ∧ ρ'.ra r = (adr r).1 ∧ ρ'.rc r = (adr r).2 := fun r x h => ⟨by rw [hr, h], by simp [ρ', h], by simp [ρ', h]⟩
 have hnone : ∀ r e, L.r r = some e → find nr r = none := fun r e h => by
  cases hf : find nr r with
  | none => rfl
  | some x => rw [hnf r x hf] at h; cases h
 have hle : LE L ρ L' ρ' := by
  refine ⟨fun k b h => ?_, fun r e h => ?_, fun r e h => hold r (hnone r e h)⟩
  ·rw [hb, h]
   cases find sb k <;> exact ⟨⟨_, rfl⟩, rfl⟩
  ·have hn := hnone r e h
   rw [hr, hn]
   cases hu : find up r with
   | some y =>
    obtain ⟨_, _, _, _, x, hx, _, hl, h1, h2⟩ := hup r y hu
    rw [h] at hx
    refine ⟨_, rfl, fun x' hx' _ => ?_⟩
    obtain rfl := Option.some.inj hx'
    exact ⟨x, Option.some.inj hx, hl, h1, h2, (hold r hn).1, (hold r hn).2⟩
   | none =>
    by_cases hk : r ∈ kl
    ·exact ⟨none, by simp [hk], fun x hx => by cases hx⟩
    ·exact ⟨e, by simp [hk, h], fun x hx hl => ⟨x, hx, hl, rfl, rfl, (hold r hn).1, (hold r hn).2⟩⟩
 -- what is live and stays as it was lies elsewhere
 have upOwn : ∀ r y, find up r = some y → L.own (.r r) := fun r y h => by
  obtain ⟨_, _, _, _, x, hx, ho, hl, _⟩ := hup r y h
  exact ⟨x, hx, ho, hl⟩
 have far : ∀ z, L.has z → (∀ r ∈ kl, z ≠ .r r) → (∀ r y, find up r = some y → z ≠ .r r) → (∀ k cs, find sb k = some cs → z ≠ .b k) → ∀ g, ρ.at z = some g → g ∉ X := by
  intro z hz h1 h2 h3 g hg hm
  rcases hX g hm with ⟨r, hr, hb⟩ | ⟨r, y, hy, hb⟩ | ⟨k, cs, hc, hb⟩
  ·exact hD.apart (.r r) z (hkl r hr) hz (fun e => h1 r hr e.symm) g hb hg
  ·exact hD.apart (.r r) z (upOwn r y hy) hz (fun e => h2 r y hy e.symm) g hb hg
  ·obtain ⟨ty, cs0, us', hbk, _⟩ := hsb k cs hc
   exact hD.apart (.b k) z ⟨_, hbk⟩ hz (fun e => h3 k cs hc e.symm) g (by rw [← hb]; rfl) hg
 refine ⟨ρ', hD.next (X := fun g => g ∈ X) (New := fun y => ∃ r x, y = .r r ∧ find nr r = some x) (by subst hL'; rfl) (by subst hL'; rfl) (fun i => by subst hL'; rfl) hle (hV L' ρ' hle hnew) hk.os hk.tape hk.output hk.size (fun g hg hn => hk.block g hg hn) ?_ ?_ ?_ ?_ ?_ ?_⟩
 ·intro g hg
  rcases hX g hg with ⟨r, hr, hb⟩ | ⟨r, y, hy, hb⟩ | ⟨k, cs, hc, hb⟩
  ·exact ⟨.r r, hkl r hr, hb⟩
  ·exact ⟨.r r, upOwn r y hy, hb⟩
  ·obtain ⟨ty, cs0, us', hbk, _⟩ := hsb k cs hc
   exact ⟨.b k, ⟨_, hbk⟩, by rw [← hb]; rfl⟩
 ·intro k b h
  rw [hb] at h
  cases hs : find sb k with
  | some cs =>
   obtain ⟨ty, cs0, us', hbk, hh, ho⟩ := hsb k cs hs
   rw [hs, hbk] at h
   obtain rfl := Option.some.inj h
   exact ⟨us', hh, ho L' ρ' hle hnew⟩
  | none =>
   rw [hs] at h
   have hbo := hD.blks k b h
   exact hbo.keep hle (hk.block _ hbo.lt (far (.b k) ⟨b, h⟩ (fun _ _ => by simp) (fun _ _ _ => by simp) (fun k' cs hc e => by cases e; rw [hs] at hc; cases hc) _ rfl))
 ·intro r x h
  cases hf : find nr r with
  | some y =>
   obtain ⟨h1, h2, h3⟩ := hnew r y hf
   rw [h1] at h
   obtain rfl := Option.some.inj (Option.some.inj h)
   rw [h2, h3]
   obtain ⟨ho, hl, hw⟩ := hnr r y hf
   exact hw
  | none =>
   rw [hr, hf] at h
   rw [(hold r hf).1, (hold r hf).2]
   cases hu : find up r with
   | some y =>
    rw [hu] at h
    obtain rfl := Option.some.inj (Option.some.inj h)
    obtain ⟨_, ho, _, hw, _⟩ := hup r y hu
    exact OwnR.ok hw ho
   | none =>
    rw [hu] at h
    by_cases hkr : r ∈ kl
    ·simp [hkr] at h
    ·simp only [hkr, if_false] at h
     have hro := hD.rows r x h
     refine hro.keep hk.size fun ad had hl => ?_
     refine hk.block _ (hro.lt hl ad had) (far (.r r) ⟨x, h, hl⟩ (fun r' hr' e => ?_) (fun r' y hy e => ?_) (fun _ _ _ => by simp) _ ?_)
     ·cases e; exact hkr hr'
     ·cases e; rw [hu] at hy; cases hy
     ·show (ρ.ra r).map (·.block) = _
      rw [had]; rfl
 ·intro y hy
  cases y with
  | b k =>
   obtain ⟨b, hbk⟩ := hy
   refine .inr ⟨?_, rfl, fun _ => ?_⟩
   ·rw [hb] at hbk
    cases hs : find sb k with
    | some cs => obtain ⟨ty, cs0, us', h, _⟩ := hsb k cs hs; exact ⟨_, h⟩
    | none => rw [hs] at hbk; exact ⟨b, hbk⟩
   ·rw [hb] at hbk
    cases hs : find sb k with
    | some cs => obtain ⟨ty, cs0, us', h, _⟩ := hsb k cs hs; exact ⟨_, h⟩
    | none => rw [hs] at hbk; exact ⟨b, hbk⟩
  | r r =>
   cases hf : find nr r with
   | some x => exact .inl ⟨r, x, rfl, hf⟩
   | none =>
    refine .inr ?_
    have hat : ρ'.at (.r r) = ρ.at (.r r) := by show (ρ'.ra r).map _ = _; rw [(hold r hf).1]; rfl
    cases hu : find up r with
    | some y => exact ⟨LS.own_has (upOwn r y hu), hat, fun _ => upOwn r y hu⟩
    | none =>
     obtain ⟨x, hx, hl⟩ := hy
     have hx' := hx
     rw [hr, hf, hu] at hx
     by_cases hkr : r ∈ kl
     ·simp [hkr] at hx
     ·simp only [hkr, if_false] at hx
      refine ⟨⟨x, hx, hl⟩, hat, fun ⟨x2, hx2, ho, hl2⟩ => ?_⟩
      rw [hx'] at hx2
      obtain rfl := Option.some.inj (Option.some.inj hx2)
      exact ⟨x, hx, ho, hl⟩
 ·rintro y ⟨r, x, rfl, hf⟩ _ g hg
  have hg : (ρ'.ra r).map (·.block) = some g := hg
  rw [(hnew r x hf).2.1] at hg
  rcases hor r x g hf hg with h | ⟨r', hr', hb⟩
  ·exact .inl h
  ·refine .inr ⟨.r r', LS.own_has (hkl r' hr'), hb, .inl ⟨hkl r' hr', ?_⟩⟩
   rintro ⟨y, hy, _⟩
   obtain ⟨z, hz, _⟩ := hkl r' hr'
   rw [hr, hnone r' _ hz] at hy
   cases hu : find up r' with
   | some q => exact (hup r' q hu).1 hr'
   | none => rw [hu] at hy; simp [hr'] at hy
 ·rintro _ _ ⟨r, x, rfl, hf⟩ ⟨r', x', rfl, hf'⟩ _ _ hne g hg hg'
  have hg : (ρ'.ra r).map (·.block) = some g := hg
  have hg' : (ρ'.ra r').map (·.block) = some g := hg'
  rw [(hnew r x hf).2.1] at hg
  rw [(hnew r' x' hf').2.1] at hg'
  exact hnd r r' x x' hf hf' (fun e => hne (by rw [e])) g hg hg'

theorem Den.callNew (hD : Den E w0 C n L ρ a w) {d : Nat} {t : TypeId} {cs : List SC} {rd rf : List Nat} {w' : World} {g : Nat} {us : List Value}
  (hnb : L.b d = none) (hk : Kept [] w w') (hg : w.heap.size ≤ g) (hh : w'.heap[g]? = some (.cells us.toArray t (0, 0))) (ho : ∀ L' ρ', LE L ρ L' ρ' → Oks L' ρ' cs us) :
  ∃ ρ', Den E w0 C n (L.app (some d) ⟨.a (.c (.ptr d 0)), some ⟨t, cs⟩, [], [], [], [], rd, rf⟩) ρ' (a.put (some d) (.pointer (some ⟨g, 0, none⟩))) w' := by
 generalize hL' : L.app (some d) ⟨.a (.c (.ptr d 0)), some ⟨t, cs⟩, [], [], [], [], rd, rf⟩ = L'
 have hb : ∀ k, L'.b k = if d = k then some ⟨t, cs⟩ else L.b k := fun k => by
  subst hL'
  by_cases e : d = k
  ·simp [LS.app, e, find]
  ·have e' : ¬ some d = some k := fun h => e (Option.some.inj h)
   simp only [LS.app, e', e, if_false]
   rfl
 have hr : ∀ r, L'.r r = L.r r := fun r => by subst hL'; rfl
 let ρ' : Val := ⟨fun k => if d = k then g else ρ.bl k, ρ.ra, ρ.rc⟩
 have hbl : ∀ k b, L.b k = some b → d ≠ k := fun k b h e => by subst e; rw [hnb] at h; cases h
 have hle : LE L ρ L' ρ' := by
  refine ⟨fun k b h => ?_, fun r e h => ⟨e, by rw [hr, h], fun x hx hl => ⟨x, hx, hl, rfl, rfl, rfl, rfl⟩⟩, fun r e h => ⟨rfl, rfl⟩⟩
  have hne := hbl k b h
  exact ⟨⟨b, by rw [hb, if_neg hne, h]⟩, by simp [ρ', hne]⟩
 refine ⟨ρ', hD.next (X := fun _ => False) (New := fun y => y = .b d) (by subst hL'; rfl) (by subst hL'; rfl) (fun i => by subst hL'; rfl) hle ?_ hk.os hk.tape hk.output hk.size (fun k hkk _ => hk.block k hkk (by simp)) (fun k h => h.elim) ?_ ?_ ?_ ?_ ?_⟩
 ·exact ⟨⟨_, by rw [hb, if_pos rfl]⟩, by simp [ρ']⟩
 ·intro k b h
  rw [hb] at h
  by_cases e : d = k
  ·rw [if_pos e] at h
   cases h
   subst e
   exact ⟨us.toArray, by simpa [ρ'] using hh, by simpa using ho L' ρ' hle⟩
  ·rw [if_neg e] at h
   have hbo := hD.blks k b h
   have := hbo.keep hle (w' := w') (hk.block _ hbo.lt (by simp))
   simpa [ρ', e] using this
 ·intro r x h
  rw [hr] at h
  have hro := hD.rows r x h
  exact hro.keep hk.size fun ad had hl => hk.block _ (hro.lt hl ad had) (by simp)
 ·intro y hy
  cases y with
  | b k =>
   by_cases e : d = k
   ·exact .inl (by rw [e])
   ·obtain ⟨b, hbk⟩ := hy
    rw [hb, if_neg e] at hbk
    exact .inr ⟨⟨b, hbk⟩, by simp [Val.at, ρ', e], fun _ => ⟨b, hbk⟩⟩
  | r r =>
   obtain ⟨x, hx, hl⟩ := hy
   rw [hr] at hx
   exact .inr ⟨⟨x, hx, hl⟩, rfl, fun ⟨z, hz, ho, hlz⟩ => ⟨z, by rw [← hr]; exact hz, ho, hlz⟩⟩
 ·rintro y rfl _ g' hg'
  have : g' = g := by simpa [Val.at, ρ'] using hg'.symm
  subst this
  exact .inl hg
 ·rintro x y rfl rfl _ _ hne
  exact (hne rfl).elim
end
end Go.Eng

namespace Go.Eng
open Go.RowKit

def ownB : Mode → Bool
 | .own => true
 | .mut => true
 | .giv => true
 | _ => false

def HA (E : Env) (w : World) : (ts : List ATy) → List Mode → denA ts → List Value → List Nat → List Nat → List Nat → List Nat → Prop
 | [], [], _, vs, ro, ow, mu, rf => vs = [] ∧ ro = [] ∧ ow = [] ∧ mu = [] ∧ rf = []
 | t :: ts, m :: ms, (d, ds), vs, ro, ow, mu, rf => ∃ v vs' us B, vs = v :: vs' ∧ HC E w (ownB m) t.cts (t.to d) us B ∧
  match m with
  | .ro => shapeV t.agg v us ∧ ∃ ro', ro = B ++ ro' ∧ HA E w ts ms ds vs' ro' ow mu rf
  | .own => shapeV t.agg v us ∧ ∃ ow', ow = B ++ ow' ∧ HA E w ts ms ds vs' ro ow' mu rf
  | .mut => shapeV t.agg v us ∧ ∃ mu', mu = B ++ mu' ∧ HA E w ts ms ds vs' ro ow mu' rf
  | .ref => ∃ g ty ro' rf', v = .pointer (some ⟨g, 0, none⟩) ∧ w.heap[g]? = some (.cells us.toArray ty (0, 0)) ∧ ro = B ++ ro' ∧ rf = g :: rf' ∧ HA E w ts ms ds vs' ro' ow mu rf'
  | .giv => ∃ g ty ow' rf', v = .pointer (some ⟨g, 0, none⟩) ∧ w.heap[g]? = some (.cells us.toArray ty (0, 0)) ∧ ow = B ++ ow' ∧ rf = g :: rf' ∧ HA E w ts ms ds vs' ro ow' mu rf'
 | _, _, _, _, _, _, _, _ => False

def resV (ys : List Value) (v : Value) : Prop :=
 match ys with
 | [y] => v = y
 | ys => v = .tuple ys.toArray

def RefV : (cts : List CT) → denC cts → List Value → List Value → Prop
 | [], _, us, us' => us = [] ∧ us' = []
 | .leaf l :: cts, (d, ds), us, us' => ∃ u r r', us = u :: r ∧ us' = (l.leaf d).val :: r' ∧ RefV cts ds r r'
 | .row _ :: cts, (_, ds), us, us' => ∃ u r r', us = u :: r ∧ us' = u :: r' ∧ RefV cts ds r r'

def Back (E : Env) (w w' : World) : (ts : List ATy) → List Mode → denA ts → List Value → Prop
 | t :: ts, m :: ms, (d, ds), vs => ∃ v vs', vs = v :: vs' ∧ Back E w w' ts ms ds vs' ∧
  match m with
  | .ro => True
  | .own => True
  | .giv => True
  | .mut => ∃ us B, shapeV t.agg v us ∧ HC E w' true t.cts (t.to d) us B
  | .ref => ∃ g us us' ty, v = .pointer (some ⟨g, 0, none⟩) ∧ w.heap[g]? = some (.cells us.toArray ty (0, 0)) ∧ w'.heap[g]? = some (.cells us'.toArray ty (0, 0)) ∧ RefV t.cts (t.to d) us us'
 | [], [], _, vs => vs = []
 | _, _, _, _ => False

def ViaV (w w' : World) (via : Via) (ms : List Mode) (args ys : List Value) (v : Value) : Prop :=
 match via with
 | .ret => resV ys v
 | .into => ∃ g us us' ty, ms.head? = some .giv ∧ args.head? = some (.pointer (some ⟨g, 0, none⟩)) ∧ w.heap[g]? = some (.cells us ty (0, 0)) ∧ w'.heap[g]? = some (.cells us' ty (0, 0)) ∧ ys = [.agg us'] ∧ v = .tuple #[]
 | .new t => ∃ g u us, roModes ms = true ∧ args.head? = some u ∧ w.heap.size ≤ g ∧ w'.heap[g]? = some (.cells (u :: us).toArray t (0, 0)) ∧ ys = [.agg us.toArray] ∧ v = .pointer (some ⟨g, 0, none⟩)

structure HR (E : Env) (w : World) (c : Ctr) (x : denA c.ins) (args : List Value) (ow mu rf : List Nat) (v : Value) (w' : World) : Prop where
 kept : Kept (ow ++ mu ++ rf) w w'
 res : ∃ ys US B, ViaV w w' c.via c.modes args ys v ∧ HOs E w' (!c.part) c.outs (c.model x) ys US B ∧ B.Nodup ∧ ∀ g ∈ B, w.heap.size ≤ g ∨ g ∈ ow
 back : Back E w w' c.ins c.modes (c.upd x) args

structure Ctr.holds (E : Env) (f : Nat) (c : Ctr) : Prop where
 fn : ∃ fn, E.P.funcs[f]? = some fn ∧ (fn.name == "runtime.NumGoroutine") = false ∧ fn.body.isSome = true
 eids : ∀ a, a ∈ c.ins ∨ a ∈ c.outs → ∀ t, CT.row t ∈ a.cts → ∃ e, E.eid t = some e
 call : ∀ (x : denA c.ins) (w : World) (args : List Value) (ro ow mu rf : List Nat), c.pre x → HA E w c.ins c.modes x args ro ow mu rf → (ow ++ mu ++ rf).Nodup → (∀ g ∈ ow ++ mu ++ rf, g ∉ ro) →
  Calls E.P f args.toArray w fun
   | .returned v, w' => HR E w c x args ow mu rf v w'
   | _, _ => False


def shapeS (agg : Bool) (x : SA) (l : List SC) : Prop :=
 match agg with
 | true => x = .agg l
 | false => ∃ c, x = .c c ∧ l = [c]

theorem shapeK_out {agg : Bool} {x : SA} {K : List SC → Prop} (h : shapeK agg x K) : ∃ l, K l ∧ shapeS agg x l := by
 unfold shapeK at h
 split at h
 ·exact ⟨_, h, rfl⟩
 ·exact ⟨_, h, _, rfl, rfl⟩
 ·exact h.elim

theorem shapeS_ok {L : LS} {ρ : Val} {agg : Bool} {x : SA} {l : List SC} {v : Value} (hs : shapeS agg x l) (h : SA.ok L ρ x v) : ∃ us, shapeV agg v us ∧ Oks L ρ l us := by
 cases agg with
 | true =>
  obtain rfl : x = .agg l := hs
  obtain ⟨us, hv, ho⟩ := h
  exact ⟨us, hv, ho⟩
 | false =>
  obtain ⟨c, rfl, rfl⟩ := hs
  exact ⟨[v], rfl, .cons h .nil⟩

def InR (bs : List (Nat × Blk)) (rs : List (Nat × Option Row)) (g : Option Bool) (A : Sides) : (ts : List ATy) → List Mode → denA ts → List SA → List Nat → List Nat → List Nat → List Nat → Prop
 | [], [], _, xs, R, kl, mt, rf => xs = [] ∧ R = [] ∧ kl = [] ∧ mt = [] ∧ rf = []
 | t :: ts, m :: ms, (d, ds), xs, R, kl, mt, rf => ∃ x xs' l ps, xs = x :: xs' ∧ PDs rs g A l ps ∧ parseC t.cts ps = some (t.to d) ∧
  match m with
  | .ro => shapeS t.agg x l ∧ ∃ R', R = rowNames l ++ R' ∧ InR bs rs g A ts ms ds xs' R' kl mt rf
  | .own => shapeS t.agg x l ∧ ∃ kl', kl = rowNames l ++ kl' ∧ InR bs rs g A ts ms ds xs' R kl' mt rf
  | .mut => shapeS t.agg x l ∧ ∃ mt', mt = rowNames l ++ mt' ∧ InR bs rs g A ts ms ds xs' R kl mt' rf
  | .ref => ∃ k ty R' rf', x = .c (.ptr k 0) ∧ find bs k = some ⟨ty, l⟩ ∧ R = rowNames l ++ R' ∧ rf = k :: rf' ∧ InR bs rs g A ts ms ds xs' R' kl mt rf'
  | .giv => ∃ k ty kl' rf', x = .c (.ptr k 0) ∧ find bs k = some ⟨ty, l⟩ ∧ kl = rowNames l ++ kl' ∧ rf = k :: rf' ∧ InR bs rs g A ts ms ds xs' R kl' mt rf'
 | _, _, _, _, _, _, _, _ => False

theorem InR.mono {bs : List (Nat × Blk)} {rs : List (Nat × Option Row)} {g : Option Bool} {A A' : Sides} (hs : ∀ p ∈ A, p ∈ A') : ∀ {ts : List ATy} {ms : List Mode} {d : denA ts} {xs : List SA} {R kl mt rf : List Nat},
  InR bs rs g A ts ms d xs R kl mt rf → InR bs rs g A' ts ms d xs R kl mt rf
 | [], [], d, xs, R, kl, mt, rf, h => h
 | t :: ts, .ro :: ms, (d, ds), xs, R, kl, mt, rf, ⟨x, xs', l, ps, h1, h2, h3, h4, R', h5, h6⟩ => ⟨x, xs', l, ps, h1, h2.mono hs, h3, h4, R', h5, h6.mono hs⟩
 | t :: ts, .own :: ms, (d, ds), xs, R, kl, mt, rf, ⟨x, xs', l, ps, h1, h2, h3, h4, R', h5, h6⟩ => ⟨x, xs', l, ps, h1, h2.mono hs, h3, h4, R', h5, h6.mono hs⟩
 | t :: ts, .mut :: ms, (d, ds), xs, R, kl, mt, rf, ⟨x, xs', l, ps, h1, h2, h3, h4, R', h5, h6⟩ => ⟨x, xs', l, ps, h1, h2.mono hs, h3, h4, R', h5, h6.mono hs⟩
 | t :: ts, .ref :: ms, (d, ds), xs, R, kl, mt, rf, ⟨x, xs', l, ps, h1, h2, h3, k, ty, R', rf', h4, h5, h6, h7, h8⟩ => ⟨x, xs', l, ps, h1, h2.mono hs, h3, k, ty, R', rf', h4, h5, h6, h7, h8.mono hs⟩
 | t :: ts, .giv :: ms, (d, ds), xs, R, kl, mt, rf, ⟨x, xs', l, ps, h1, h2, h3, k, ty, R', rf', h4, h5, h6, h7, h8⟩ => ⟨x, xs', l, ps, h1, h2.mono hs, h3, k, ty, R', rf', h4, h5, h6, h7, h8.mono hs⟩
 | [], _ :: _, d, xs, R, kl, mt, rf, h => h.elim
 | _ :: _, [], d, xs, R, kl, mt, rf, h => h.elim

theorem inK_out {a : ATy} {rs : List (Nat × Option Row)} {g : Option Bool} {A : Sides} {R : List Nat} {x : SA} {K : a.T → Sides → List Nat → Prop} (h : inK a rs g A R x K) :
  ∃ d A' l ps, K d A' ((rowNames l).reverse ++ R) ∧ (∀ p ∈ A, p ∈ A') ∧ shapeS a.agg x l ∧ PDs rs g A' l ps ∧ parseC a.cts ps = some (a.to d) := by
 obtain ⟨l, h1, hs⟩ := shapeK_out h
 obtain ⟨ps, A', h2, s, hp⟩ := pdsK_out h1
 split at h2
 ·rename_i d hd
  exact ⟨_, A', l, ps, h2, s, hs, hp, by rw [hd, a.to_frm]⟩
 ·exact h2.elim

theorem perm_rev (l R : List Nat) : (l.reverse ++ R).Perm (l ++ R) := (List.reverse_perm l).append_right R

theorem insMK_out {bs : List (Nat × Blk)} {rs : List (Nat × Option Row)} {g : Option Bool} : ∀ {ts : List ATy} {ms : List Mode} {A : Sides} {R kl mt rf : List Nat} {xs : List SA} {K : denA ts → Sides → List Nat → List Nat → List Nat → List Nat → Prop},
  insMK bs rs g ts ms A R kl mt rf xs K → ∃ d A' Rn kn mn fn R2 kl2 mt2 rf2, K d A' R2 kl2 mt2 rf2 ∧ (∀ p ∈ A, p ∈ A') ∧ InR bs rs g A' ts ms d xs Rn kn mn fn ∧ R2.Perm (Rn ++ R) ∧ kl2.Perm (kn ++ kl) ∧ mt2.Perm (mn ++ mt) ∧ rf2.Perm (fn ++ rf)
 | [], [], A, R, kl, mt, rf, [], K, h => ⟨(), A, [], [], [], [], R, kl, mt, rf, h, fun p hp => hp, ⟨rfl, rfl, rfl, rfl, rfl⟩, .refl _, .refl _, .refl _, .refl _⟩
 | t :: ts, .ro :: ms, A, R, kl, mt, rf, x :: xs, K, h => by
  simp only [insMK] at h
  obtain ⟨d, A1, l, ps, h1, s1, hs, hp, hd⟩ := inK_out h
  obtain ⟨ds, A2, Rn, kn, mn, fn, R2, kl2, mt2, rf2, h2, s2, hi, p1, p2, p3, p4⟩ := insMK_out h1
  exact ⟨(d, ds), A2, rowNames l ++ Rn, kn, mn, fn, R2, kl2, mt2, rf2, h2, fun p hp => s2 p (s1 p hp), ⟨x, xs, l, ps, rfl, hp.mono s2, hd, hs, Rn, rfl, hi⟩,
   (p1.trans ((perm_rev _ _).append_left Rn)).trans (by
    rw [← List.append_assoc]
    exact (List.perm_append_comm).append_right R), p2, p3, p4⟩
 | t :: ts, .own :: ms, A, R, kl, mt, rf, x :: xs, K, h => by
  simp only [insMK] at h
  obtain ⟨d, A1, l, ps, h1, s1, hs, hp, hd⟩ := inK_out h
  have h1 := appK_out h1
  obtain ⟨ds, A2, Rn, kn, mn, fn, R2, kl2, mt2, rf2, h2, s2, hi, p1, p2, p3, p4⟩ := insMK_out h1
  exact ⟨(d, ds), A2, Rn, rowNames l ++ kn, mn, fn, R2, kl2, mt2, rf2, h2, fun p hp => s2 p (s1 p hp), ⟨x, xs, l, ps, rfl, hp.mono s2, hd, hs, kn, rfl, hi⟩, p1,
   (p2.trans (by
    rw [List.append_nil, ← List.append_assoc]
    refine (List.Perm.append_right kl ?_)
    exact ((List.reverse_perm _).append_left kn).trans List.perm_append_comm)), p3, p4⟩
 | t :: ts, .mut :: ms, A, R, kl, mt, rf, x :: xs, K, h => by
  simp only [insMK] at h
  obtain ⟨d, A1, l, ps, h1, s1, hs, hp, hd⟩ := inK_out h
  have h1 := appK_out h1
  obtain ⟨ds, A2, Rn, kn, mn, fn, R2, kl2, mt2, rf2, h2, s2, hi, p1, p2, p3, p4⟩ := insMK_out h1
  exact ⟨(d, ds), A2, Rn, kn, rowNames l ++ mn, fn, R2, kl2, mt2, rf2, h2, fun p hp => s2 p (s1 p hp), ⟨x, xs, l, ps, rfl, hp.mono s2, hd, hs, mn, rfl, hi⟩, p1, p2,
   (p3.trans (by
    rw [List.append_nil, ← List.append_assoc]
    refine (List.Perm.append_right mt ?_)
    exact ((List.reverse_perm _).append_left mn).trans List.perm_append_comm)), p4⟩
 | t :: ts, .ref :: ms, A, R, kl, mt, rf, x :: xs, K, h => by
  simp only [insMK] at h
  split at h
  ·rename_i k
   obtain ⟨b, hf, h⟩ := lookK_out h
   obtain ⟨ty, cs⟩ := b
   obtain ⟨d, A1, l, ps, h1, s1, hs, hp, hd⟩ := inK_out h
   have hl : l = cs := by
    revert hs
    unfold shapeS
    split
    ·intro e; cases e; rfl
    ·rintro ⟨c, e, _⟩; cases e
   subst hl
   obtain ⟨ds, A2, Rn, kn, mn, fn, R2, kl2, mt2, rf2, h2, s2, hi, p1, p2, p3, p4⟩ := insMK_out h1
   exact ⟨(d, ds), A2, rowNames l ++ Rn, kn, mn, k :: fn, R2, kl2, mt2, rf2, h2, fun p hp => s2 p (s1 p hp), ⟨_, xs, l, ps, rfl, hp.mono s2, hd, k, ty, Rn, fn, rfl, hf, rfl, rfl, hi⟩,
    (p1.trans ((perm_rev _ _).append_left Rn)).trans (by
     rw [← List.append_assoc]
     exact (List.perm_append_comm).append_right R), p2, p3, p4.trans List.perm_middle⟩
  ·exact h.elim
 | t :: ts, .giv :: ms, A, R, kl, mt, rf, x :: xs, K, h => by
  simp only [insMK] at h
  split at h
  ·rename_i k
   obtain ⟨b, hf, h⟩ := lookK_out h
   obtain ⟨ty, cs⟩ := b
   obtain ⟨d, A1, l, ps, h1, s1, hs, hp, hd⟩ := inK_out h
   have h1 := appK_out h1
   have hl : l = cs := by
    revert hs
    unfold shapeS
    split
    ·intro e; cases e; rfl
    ·rintro ⟨c, e, _⟩; cases e
   subst hl
   obtain ⟨ds, A2, Rn, kn, mn, fn, R2, kl2, mt2, rf2, h2, s2, hi, p1, p2, p3, p4⟩ := insMK_out h1
   exact ⟨(d, ds), A2, Rn, rowNames l ++ kn, mn, k :: fn, R2, kl2, mt2, rf2, h2, fun p hp => s2 p (s1 p hp), ⟨_, xs, l, ps, rfl, hp.mono s2, hd, k, ty, kn, fn, rfl, hf, rfl, rfl, hi⟩,
    p1, (p2.trans (by
    rw [List.append_nil, ← List.append_assoc]
    refine (List.Perm.append_right kl ?_)
    exact ((List.reverse_perm _).append_left kn).trans List.perm_append_comm)), p3, p4.trans List.perm_middle⟩
  ·exact h.elim
 | [], _ :: _, A, R, kl, mt, rf, xs, K, h => by simp [insMK] at h
 | _ :: _, [], A, R, kl, mt, rf, xs, K, h => by simp [insMK] at h
 | [], [], A, R, kl, mt, rf, _ :: _, K, h => by simp [insMK] at h
 | _ :: _, m :: _, A, R, kl, mt, rf, [], K, h => by simp [insMK] at h
end Go.Eng

