/- The symbolic executor over the model of Go, with its proof; part 2. It speaks of no law by itself. -/
import Derived.Test.YtnpeomhpbakgnaaGreatEng1
import Derived.Laws.MakeOwn
import Derived.Maps.AppendAt
import Derived.ArgAppend
set_option linter.unusedVariables false
set_option linter.unusedSimpArgs false
namespace Go.Eng
open Go.RowKit

theorem block_of_add (a : Addr) (n : Nat) : (a.add n).block = a.block := by unfold Addr.add; split <;> rfl
theorem add_of_add (a : Addr) (i j : Nat) : (a.add i).add j = a.add (i + j) := by
 unfold Addr.add
 by_cases hi : i = 0 <;> by_cases hj : j = 0 <;> simp [hi, hj, Nat.add_assoc]

theorem Rd.keep {w w' : World} {t : ETy} {a : Option Addr} {c : Nat} {xs : List t.T} (h : Rd w t a c xs) (hs : w.heap.size ≤ w'.heap.size)
  (hb : ∀ ad, a = some ad → w'.heap[ad.block]? = w.heap[ad.block]?) : Rd w' t a c xs :=
 ⟨h.cap, fun ad e => Nat.lt_of_lt_of_le (h.lt ad e) hs, fun j u hu => by
  obtain ⟨ad, e, hc⟩ := h.cell j u hu
  refine ⟨ad, e, ?_⟩
  rw [World.cell?_of_block (w := w) (a := ad.add j) (by rw [block_of_add]; exact hb ad e)]
  exact hc⟩

theorem cell_of_cur {w : World} {g off j : Nat} {cur : Array Value} {e : TypeId} (h : w.heap[g]? = some (.cells cur e (0, 0))) : w.cell? ((⟨g, off, none⟩ : Addr).add j) = cur[off + j]? := by
 have : (⟨g, off, none⟩ : Addr).add j = ⟨g, off + j, none⟩ := by
  unfold Addr.add
  split <;> simp_all
 rw [this]
 simp [World.cell?, h]

theorem OwnR.keep {E : Env} {w w' : World} {t : ETy} {a : Option Addr} {c : Nat} {xs : List t.T} (h : OwnR E w t a c xs)
  (hb : ∀ ad, a = some ad → w'.heap[ad.block]? = w.heap[ad.block]?) : OwnR E w' t a c xs := by
 obtain ⟨e, he, h2⟩ := h
 refine ⟨e, he, ?_⟩
 rcases h2 with h2 | ⟨g, off, cur, hv, hh, r⟩
 ·exact .inl h2
 ·exact .inr ⟨g, off, cur, hv, by rw [hb _ hv]; exact hh, r⟩

theorem OwnR.of {E : Env} {w : World} {t : ETy} {a : Option Addr} {c : Nat} {xs : List t.T} {e : TypeId} (he : E.eid t = some e) (h : w.ownsRow 0 e t.n (.slice a xs.length c) xs.length (cells t xs)) : OwnR E w t a c xs := by
 refine ⟨e, he, ?_⟩
 rcases h.2 with ⟨h1, h2⟩ | ⟨g, cap, cur, hv, _, hh, hn, hc, hs, ht⟩
 ·injection h1 with h1 _ h3
  exact .inl ⟨h1, h3, List.eq_nil_of_length_eq_zero h2⟩
 ·injection hv with hv1 _ hv3
  subst hv3
  exact .inr ⟨g, 0, cur, hv1, hh, hn, hc, by omega, by simpa using ht⟩

theorem OwnR.lt {E : Env} {w : World} {t : ETy} {a : Option Addr} {c : Nat} {xs : List t.T} (h : OwnR E w t a c xs) : ∀ ad, a = some ad → ad.block < w.heap.size := by
 obtain ⟨e, he, h⟩ := h
 intro ad had
 subst had
 rcases h with ⟨h, _⟩ | ⟨g, off, cur, hv, hh, _⟩
 ·cases h
 ·obtain rfl := Option.some.inj hv
  exact (Array.getElem?_eq_some_iff.1 hh).1

theorem OwnR.rd {E : Env} {w : World} {t : ETy} {a : Option Addr} {c : Nat} {xs : List t.T} (h : OwnR E w t a c xs) : Rd w t a c xs := by
 have hlt := h.lt
 obtain ⟨e, he, h⟩ := h
 refine ⟨?_, hlt, fun j u hu => ?_⟩
 ·rcases h with ⟨_, h1, h2⟩ | ⟨g, off, cur, hv, _, h3, _⟩
  ·subst h2; simp
  ·exact h3
 ·rcases h with ⟨_, h1, h2⟩ | ⟨g, off, cur, hv, hh, h3, h4, h5, h6⟩
  ·subst h2; simp [cells] at hu
  ·refine ⟨_, hv, ?_⟩
   rw [← h6, List.getElem?_take] at hu
   split at hu
   ·rw [List.getElem?_drop] at hu
    rw [cell_of_cur hh]
    simpa using hu
   ·cases hu

theorem OwnR.ok {E : Env} {w : World} {a : Option Addr} {c : Nat} {x : Row} (h : OwnR E w x.t a c x.xs) (ho : x.own = true) : RowOk E w a c x := by
 obtain ⟨t, xs, own, g⟩ := x
 intro _
 cases ho
 cases g with
 | none => exact h
 | some q => exact OwnR.rd (E := E) (t := t) (xs := xs) h

theorem RowOk.keep {E : Env} {w w' : World} {a : Option Addr} {c : Nat} {x : Row} (h : RowOk E w a c x) (hs : w.heap.size ≤ w'.heap.size)
  (hb : ∀ ad, a = some ad → x.live → w'.heap[ad.block]? = w.heap[ad.block]?) : RowOk E w' a c x := by
 obtain ⟨t, xs, own, g⟩ := x
 intro hl
 have h1 := h hl
 cases own with
 | true => cases g with
  | none => exact OwnR.keep (E := E) (t := t) (xs := xs) h1 fun ad e => hb ad e hl
  | some q => exact Rd.keep (t := t) (xs := xs) h1 hs fun ad e => hb ad e hl
 | false => exact Rd.keep (t := t) (xs := xs) h1 hs fun ad e => hb ad e hl

theorem RowOk.lt {E : Env} {w : World} {a : Option Addr} {c : Nat} {x : Row} (h : RowOk E w a c x) (hl : x.live) : ∀ ad, a = some ad → ad.block < w.heap.size := by
 obtain ⟨t, xs, own, g⟩ := x
 have h1 := h hl
 cases own with
 | true => cases g with
  | none => exact OwnR.lt (E := E) (t := t) (xs := xs) h1
  | some q => exact Rd.lt (t := t) (xs := xs) h1
 | false => exact Rd.lt (t := t) (xs := xs) h1

theorem RowOk.rd {E : Env} {w : World} {a : Option Addr} {c : Nat} {x : Row} (h : RowOk E w a c x) (hl : x.live) : Rd w x.t a c x.xs := by
 obtain ⟨t, xs, own, g⟩ := x
 have h1 := h hl
 cases own with
 | true => cases g with
  | none => exact OwnR.rd (E := E) (t := t) (xs := xs) h1
  | some q => exact h1
 | false => exact h1

theorem BlkOk.keep {w w' : World} {L L' : LS} {ρ ρ' : Val} {g : Nat} {b : Blk} (h : BlkOk w L ρ g b) (hle : LE L ρ L' ρ') (hb : w'.heap[g]? = w.heap[g]?) : BlkOk w' L' ρ' g b := by
 obtain ⟨vs, hv, hs⟩ := h
 exact ⟨vs, hb.trans hv, hs.mono hle⟩

theorem BlkOk.lt {w : World} {L : LS} {ρ : Val} {g : Nat} {b : Blk} (h : BlkOk w L ρ g b) : g < w.heap.size := by
 obtain ⟨vs, hv, _⟩ := h
 exact (Array.getElem?_eq_some_iff.1 hv).1

section
variable {E : Env} {w0 : World} {C : List Nat} {n : Nat} {L : LS} {ρ : Val} {a : Act} {w : World}

theorem Den.lt (h : Den E w0 C n L ρ a w) {y : Key} (hy : L.has y) {g : Nat} (hg : ρ.at y = some g) : g < w.heap.size := by
 cases y with
 | b k =>
  obtain ⟨b, hb⟩ := hy
  obtain rfl : ρ.bl k = g := by simpa [Val.at] using hg
  exact (h.blks k b hb).lt
 | r r =>
  obtain ⟨x, hx, hl⟩ := hy
  simp only [Val.at, Option.map_eq_some_iff] at hg
  obtain ⟨ad, had, rfl⟩ := hg
  exact (h.rows r x hx).lt hl ad had

theorem LS.own_has {L : LS} {x : Key} (h : L.own x) : L.has x := by
 cases x with
 | b k => exact h
 | r r => obtain ⟨x, hx, _, hl⟩ := h; exact ⟨x, hx, hl⟩

theorem put_get {a : Act} {d : Option Nat} {v : Value} {i : Nat} {u : Value} (h : (a.put d v).tmps[i]? = some u) : (d = some i ∧ u = v) ∨ (d ≠ some i ∧ a.tmps[i]? = some u) := by
 cases d with
 | none => exact .inr ⟨by simp, h⟩
 | some d =>
  simp only [Act.put, Array.getElem?_setIfInBounds] at h
  split at h
  ·rename_i e
   subst e
   split at h
   ·exact .inl ⟨rfl, (Option.some.inj h).symm⟩
   ·cases h
  ·rename_i e
   exact .inr ⟨fun hd => e (Option.some.inj hd), h⟩

theorem Den.next (hD : Den E w0 C n L ρ a w) {L' : LS} {ρ' : Val} {V : SV} {v : Value} {w' : World} {d : Option Nat}
  (hfb : L'.fb = L.fb) (hfr : L'.fr = L.fr) (hv : ∀ i, L'.v i = if d = some i then V else L.v i) (hle : LE L ρ L' ρ') (hV : SV.ok L' ρ' V v)
  (X : Nat → Prop) (hos : w'.os = w.os) (htape : w'.tape = w.tape) (hout : w'.output = w.output) (hsize : w.heap.size ≤ w'.heap.size)
  (hheap : ∀ k, k < w.heap.size → ¬ X k → w'.heap[k]? = w.heap[k]?) (hX : ∀ k, X k → ∃ z, L.own z ∧ ρ.at z = some k)
  (hb : ∀ k b, L'.b k = some b → BlkOk w' L' ρ' (ρ'.bl k) b) (hr : ∀ r x, L'.r r = some (some x) → RowOk E w' (ρ'.ra r) (ρ'.rc r) x)
  (New : Key → Prop) (hold : ∀ y, L'.has y → New y ∨ (L.has y ∧ ρ'.at y = ρ.at y ∧ (L'.own y → L.own y)))
  (horig : ∀ y, New y → L'.has y → ∀ g, ρ'.at y = some g → w.heap.size ≤ g ∨ ∃ z, L.has z ∧ ρ.at z = some g ∧ ((L.own z ∧ ¬ L'.has z) ∨ (¬ L.own z ∧ ¬ L'.own y)))
  (hnn : ∀ x y, New x → New y → L'.own x → L'.has y → x ≠ y → ∀ g, ρ'.at x = some g → ρ'.at y ≠ some g) :
  Den E w0 C n L' ρ' (a.put d v) w' := by
 refine ⟨?_, ?_, ?_, hb, hr, ?_, ?_, ?_, ?_, ?_⟩
 ·cases d <;> simp [Act.put, hD.size]
 ·cases d <;> exact hD.defers
 ·intro i u hu
  rw [hv i]
  rcases put_get hu with ⟨hd, rfl⟩ | ⟨hd, hu⟩
  ·rw [if_pos hd]; exact hV
  ·rw [if_neg hd]; exact SV.ok_mono hle (hD.slots i u hu)
 ·intro x y hx hy hxy g hg hgy
  rcases hold x (LS.own_has hx) with hnx | ⟨hxh, hxat, hxo⟩
  ·rcases hold y hy with hny | ⟨hyh, hyat, _⟩
   ·exact hnn x y hnx hny hx hy hxy g hg hgy
   ·rw [hyat] at hgy
    rcases horig x hnx (LS.own_has hx) g hg with hge | ⟨z, hz, hzg, hzz⟩
    ·have := hD.lt hyh hgy; omega
    ·rcases hzz with ⟨hzo, hnz⟩ | ⟨_, hno⟩
     ·have hne : z ≠ y := fun e => hnz (e ▸ hy)
      exact hD.apart z y hzo hyh hne g hzg hgy
     ·exact hno hx
  ·rw [hxat] at hg
   rcases hold y hy with hny | ⟨hyh, hyat, _⟩
   ·rcases horig y hny hy g hgy with hge | ⟨z, hz, hzg, hzz⟩
    ·have := hD.lt hxh hg; omega
    ·have hne : x ≠ z := by
      rintro rfl
      rcases hzz with ⟨_, hnz⟩ | ⟨hno, _⟩
      ·exact hnz (LS.own_has hx)
      ·exact hno (hxo hx)
     exact hD.apart x z (hxo hx) hz hne g hg hzg
   ·rw [hyat] at hgy
    exact hD.apart x y (hxo hx) hyh hxy g hg hgy
 ·intro x hx g hg
  rcases hold x (LS.own_has hx) with hnx | ⟨hxh, hxat, hxo⟩
  ·rcases horig x hnx (LS.own_has hx) g hg with hge | ⟨z, hz, hzg, hzz⟩
   ·exact .inl (Nat.le_trans hD.kept.size hge)
   ·rcases hzz with ⟨hzo, _⟩ | ⟨_, hno⟩
    ·exact hD.bound z hzo g hzg
    ·exact (hno hx).elim
  ·rw [hxat] at hg
   exact hD.bound x (hxo hx) g hg
 ·refine ⟨hos.trans hD.kept.os, htape.trans hD.kept.tape, hout.trans hD.kept.output, Nat.le_trans hD.kept.size hsize, fun k hk hC => ?_⟩
  have hlt : k < w.heap.size := Nat.lt_of_lt_of_le hk hD.kept.size
  rw [hheap k hlt ?_, hD.kept.block k hk hC]
  intro hXk
  obtain ⟨z, hz, hzk⟩ := hX k hXk
  rcases hD.bound z hz k hzk with h | h
  ·omega
  ·exact hC h
 ·intro k g h
  rw [hfb] at h
  obtain ⟨⟨b, hb⟩, hg⟩ := hD.fixb k g h
  obtain ⟨hb', hbl⟩ := hle.b k b hb
  exact ⟨hb', hbl.trans hg⟩
 ·intro r x h
  rw [hfr] at h
  obtain ⟨⟨e, he⟩, h1, h2⟩ := hD.fixr r x h
  obtain ⟨e', he', _⟩ := hle.r r e he
  obtain ⟨h3, h4⟩ := hle.f r e he
  exact ⟨⟨e', he'⟩, h3.trans h1, h4.trans h2⟩

def LS.app (L : LS) (d : Option Nat) (e : Eff) : LS where
 v i := if d = some i then e.v else L.v i
 b k := match (if d = some k then e.nb else none) with
  | some b => some b
  | none => match find e.sb k with
   | some cs => (L.b k).map fun b => ⟨b.t, cs⟩
   | none => L.b k
 r r := match find e.nr r with
  | some x => some (some x)
  | none => match find e.upd r with
   | some x => some (some x)
   | none => if r ∈ e.kill then some none else L.r r
 fb := L.fb
 fr := L.fr

structure Fresh (L : LS) (d : Option Nat) (e : Eff) : Prop where
 b : ∀ b, e.nb = some b → ∃ k, d = some k ∧ L.b k = none
 r : ∀ k x, find e.nr k = some x → L.r k = none

theorem Den.val (hD : Den E w0 C n L ρ a w) {d : Option Nat} {V : SV} {rd bd : List Nat} {v : Value} (hV : SV.ok L ρ V v) :
  Den E w0 C n (L.app d ⟨V, none, [], [], [], [], rd, bd⟩) ρ (a.put d v) w := by
 have hb : ∀ k, (L.app d ⟨V, none, [], [], [], [], rd, bd⟩).b k = L.b k := fun k => by simp [LS.app, find]
 have hr : ∀ k, (L.app d ⟨V, none, [], [], [], [], rd, bd⟩).r k = L.r k := fun k => by simp [LS.app, find]
 have hle : LE L ρ (L.app d ⟨V, none, [], [], [], [], rd, bd⟩) ρ :=
  ⟨fun k b h => ⟨⟨b, (hb k).trans h⟩, rfl⟩, fun r e h => ⟨e, (hr r).trans h, fun x hx hl => ⟨x, hx, hl, rfl, rfl, rfl, rfl⟩⟩, fun _ _ _ => ⟨rfl, rfl⟩⟩
 have hhas : ∀ y, (L.app d ⟨V, none, [], [], [], [], rd, bd⟩).has y → L.has y := fun y hy => by
  cases y with
  | b k => simpa [LS.has, hb] using hy
  | r r => simpa [LS.has, hr] using hy
 have hown : ∀ y, (L.app d ⟨V, none, [], [], [], [], rd, bd⟩).own y → L.own y := fun y hy => by
  cases y with
  | b k => simpa [LS.own, hb] using hy
  | r r => simpa [LS.own, hr] using hy
 refine hD.next (X := fun _ => False) (New := fun _ => False) rfl rfl (fun i => rfl) hle (SV.ok_mono hle hV) rfl rfl rfl (Nat.le_refl _) (fun _ _ _ => rfl) (fun _ h => h.elim) ?_ ?_
  (fun y hy => .inr ⟨hhas y hy, rfl, hown y⟩) (fun _ h => h.elim) (fun _ _ h => h.elim)
 ·intro k b h
  rw [hb] at h
  exact (hD.blks k b h).keep hle rfl
 ·intro r x h
  rw [hr] at h
  exact hD.rows r x h
end
end Go.Eng

namespace Go.Eng
open Go.RowKit

section
variable {P : Program} {w : World}

theorem run_v (s : Sem Value) {v : Value} {w' : World} (h : s.run P w = .ok v w') : (do pure (Next.value (← s)) : Sem Next).run P w = .ok (.value v) w' := by
 rw [Sem.run_bind, h]; rfl

theorem structSize_out {t : TypeId} {n : Nat} (h : structSize P t = some n) : (∃ fs, P.underlying t = some (.struct fs)) ∧ ∃ i, P.info? t = some i ∧ i.size = n := by
 unfold structSize at h
 split at h
 ·rename_i fs hu
  split at h
  ·rename_i i hi
   exact ⟨⟨fs, hu⟩, i, hi, Option.some.inj h⟩
  ·cases h
 ·cases h

theorem isPlain_out {t : TypeId} (h : isPlain P t = true) : ∃ d, P.underlying t = some d ∧ (∀ fs, d ≠ .struct fs) ∧ ∀ n e, d ≠ .array n e := by
 unfold isPlain at h
 split at h
 ·cases h
 ·cases h
 ·rename_i d h1 h2 hu
  exact ⟨d, hu, fun fs e => h1 fs e, fun n e' e => h2 n e' e⟩
 ·cases h

theorem run_isAgg_struct {t : TypeId} {fs : Array Field} (h : P.underlying t = some (.struct fs)) : (isAgg t).run P w = .ok true w := by
 unfold isAgg
 rw [Sem.run_bind, run_underlying h]
 rfl

theorem run_isAgg_plain {t : TypeId} (h : isPlain P t = true) : (isAgg t).run P w = .ok false w := by
 obtain ⟨d, hu, h1, h2⟩ := isPlain_out h
 unfold isAgg
 rw [Sem.run_bind, run_underlying hu]
 cases d <;> first | exact (h1 _ rfl).elim | exact (h2 _ _ rfl).elim | rfl

theorem run_sizeOf' {t : TypeId} {i : TypeInfo} (h : P.info? t = some i) : (sizeOf t).run P w = .ok i.size w := by
 simp [sizeOf, typeInfo, h]

theorem run_zeroValue' {t : TypeId} {i : TypeInfo} {z : Value} (h : P.info? t = some i) (hz : i.zero = some z) : (zeroValue t).run P w = .ok z w := by
 simp [zeroValue, typeInfo, h, hz]

theorem run_loadAgg {t : TypeId} {n : Nat} (h : structSize P t = some n) {ad : Addr} {vs : List Value} (hl : vs.length = n) (hc : ∀ j v, vs[j]? = some v → w.cell? (ad.add j) = some v) :
  (Instr.loadAt t (.pointer (some ad))).run P w = .ok (.agg vs.toArray) w := by
 obtain ⟨⟨fs, hu⟩, i, hi, hs⟩ := structSize_out h
 have h1 := run_isAgg_struct (w := w) hu
 have h2 := run_sizeOf' (w := w) hi
 have h3 := run_loadCells_list (P := P) w ad vs hc
 rw [hl, ← hs] at h3
 unfold Instr.loadAt
 simp only [Instr.sureAddr, Sem.run_bind, Sem.run_pure, Result.andThen_ok, loadVar, h1, if_true, h2, h3]

theorem run_loadOne {t : TypeId} (h : isPlain P t = true) {ad : Addr} {v : Value} (hc : w.cell? ad = some v) : (Instr.loadAt t (.pointer (some ad))).run P w = .ok v w := by
 have h1 := run_isAgg_plain (w := w) h
 unfold Instr.loadAt
 simp only [Instr.sureAddr, Sem.run_bind, Sem.run_pure, Result.andThen_ok, loadVar, h1, Bool.false_eq_true, if_false, run_load, hc]

theorem run_alloc' {t : TypeId} {i : TypeInfo} {z : Value} (h : P.info? t = some i) (hz : i.zero = some z) :
  (Instr.alloc t true (.tuple #[])).run P w = .ok (.pointer (some ⟨w.heap.size, 0, none⟩)) (w.alloc (.cells z.cells t)) := by
 unfold Instr.alloc
 rw [Sem.run_bind, run_zeroValue' h hz]
 rfl

theorem run_box' {t : TypeId} {v : Value} : (Instr.box t v).run P w = .ok (.pointer (some ⟨w.heap.size, 0, none⟩)) (w.alloc (.cells v.cells t)) := rfl

theorem fieldOff_out {t : TypeId} {f n : Nat} (h : fieldOff P t f = some n) :
  ∃ fs x i, P.underlying t = some (.struct fs) ∧ fs[f]? = some x ∧ x.offset = n ∧ P.info? x.type = some i ∧ i.size ≠ 0 := by
 unfold fieldOff at h
 split at h
 ·rename_i fs hu
  split at h
  ·rename_i x hx
   split at h
   ·rename_i m hm
    split at h
    ·cases h
    ·rename_i hb
     unfold sizeOfT at hm
     split at hm
     ·rename_i i hi
      obtain rfl := Option.some.inj hm
      exact ⟨fs, x, i, hu, hx, Option.some.inj h, hi, beq_false hb⟩
     ·cases hm
   ·cases h
  ·cases h
 ·cases h

theorem run_field {t : TypeId} {f n : Nat} (h : fieldOff P t f = some n) {ad : Addr} : (Instr.fieldAt t (.pointer (some ad)) f).run P w = .ok (.pointer (some (ad.add n))) w := by
 obtain ⟨fs, x, i, hu, hx, ho, hi, hs⟩ := fieldOff_out h
 have h2 := run_sizeOf' (w := w) hi
 unfold Instr.fieldAt
 simp only [Sem.run_bind, run_underlying hu, Result.andThen_ok, hx, Instr.sureAddr, Sem.run_pure, fieldPlace, h2, hs, if_false, ho]

theorem elemOfT_out {t e : TypeId} (h : elemOfT P t = some e) : P.underlying t = some (.slice e) := by
 unfold elemOfT at h
 split at h
 ·rename_i hu; rw [hu, Option.some.inj h]
 ·cases h

theorem sizeOfT_out {t : TypeId} {n : Nat} (h : sizeOfT P t = some n) : ∃ i, P.info? t = some i ∧ i.size = n := by
 unfold sizeOfT at h
 split at h
 ·rename_i i hi; exact ⟨i, hi, Option.some.inj h⟩
 ·cases h

theorem run_index {t e : TypeId} (he : elemOfT P t = some e) {sz : Nat} (hs : sizeOfT P e = some sz) {ad : Addr} {n : Nat} {c : Nat} {i : Int} (h0 : 0 ≤ i) (h1 : i < n) :
  (Instr.indexAt t (.slice (some ad) n c) (.int .i64 i)).run P w = .ok (.pointer (some (ad.add (i.toNat * sz)))) w := by
 have hu := elemOfT_out he
 obtain ⟨j, hj, hsz⟩ := sizeOfT_out hs
 have h2 := run_sizeOf' (w := w) hj
 unfold Instr.indexAt
 simp only [Sem.run_bind, run_underlying hu, Result.andThen_ok, asIntOf, Sem.run_pure, h0, h1, and_self, if_true, h2, hsz]

theorem run_len_slice {t e ty : TypeId} (he : elemOfT P t = some e) {a : Option Addr} {n c : Nat} : (Builtin.len_ #[t] ty #[.slice a n c]).run P w = .ok (.int .i64 n) w := by
 have hu := elemOfT_out he
 unfold Builtin.len_
 simp [run_underlying hu, goInt]

theorem isString_out {t : TypeId} (h : isString P t = true) : P.underlying t = some .string := by
 unfold isString at h
 split at h
 ·assumption
 ·cases h

theorem run_len_string {t ty : TypeId} (he : isString P t = true) {s : ByteArray} : (Builtin.len_ #[t] ty #[.string s]).run P w = .ok (.int .i64 s.size) w := by
 have hu := isString_out he
 unfold Builtin.len_
 simp [run_underlying hu, goInt]


theorem run_bin_int {op : BinOp} {t : TypeId} {x y : Operand} {a b : Int} {g : Option Bool} {A : Sides} {K : Leaf → Sides → Prop} (h : intOpK op a b g A K) :
  ∃ l A', K l A' ∧ (∀ p ∈ A, p ∈ A') ∧ (Sd A' → GT g → (do eqGuard op t x y (.int .i64 a) (.int .i64 b); binOp op t (.int .i64 a) (.int .i64 b) : Sem Value).run P w = .ok l.val w) := by
 cases op <;> simp only [intOpK] at h <;> first | exact h.elim | skip
 case quo =>
  refine ⟨_, _, h, fun p hp => side_mem hp, fun hs hg => ?_⟩
  have hb := side_out hs hg
  simp [eqGuard, binOp, Op.intDiv, hb, Leaf.val, w64]
 case rem =>
  refine ⟨_, _, h, fun p hp => side_mem hp, fun hs hg => ?_⟩
  have hb := side_out hs hg
  simp [eqGuard, binOp, Op.intDiv, hb, Leaf.val]
 case and => exact ⟨_, _, h, fun p hp => hp, fun _ _ => rfl⟩
 case xor => exact ⟨_, _, h, fun p hp => hp, fun _ _ => rfl⟩
 all_goals
  refine ⟨_, _, h, fun p hp => hp, fun _ _ => ?_⟩
  simp [eqGuard, binOp, Op.intArith, Op.intCmp, Leaf.val, w64]

theorem run_bin_u8 {op : BinOp} {t : TypeId} {x y : Operand} {a b : Int} {K : Leaf → Prop} (h : u8OpK op a b K) :
  ∃ l, K l ∧ (do eqGuard op t x y (.int .u8 a) (.int .u8 b); binOp op t (.int .u8 a) (.int .u8 b) : Sem Value).run P w = .ok l.val w := by
 cases op <;> simp only [u8OpK] at h <;> first | exact h.elim | skip
 all_goals
  refine ⟨_, h, ?_⟩
  simp [eqGuard, binOp, Op.intArith, Op.intCmp, Leaf.val]

theorem toList_mk (l : List UInt8) : (ByteArray.mk l.toArray).toList = l := by
 rw [ByteArray.toList_eq]

theorem mk_append (a b : List UInt8) : (ByteArray.mk a.toArray) ++ (ByteArray.mk b.toArray) = ByteArray.mk (a ++ b).toArray := by
 apply ByteArray.ext
 simp [ByteArray.data_append]

theorem run_bin_add_str {t : TypeId} {x y : Operand} {a b : List UInt8} (hs : a.length + b.length ≤ 9223372036854775807) :
  (do eqGuard .add t x y (.string ⟨a.toArray⟩) (.string ⟨b.toArray⟩); binOp .add t (.string ⟨a.toArray⟩) (.string ⟨b.toArray⟩) : Sem Value).run P w = .ok (Leaf.str (a ++ b)).val w := by
 have h1 : (ByteArray.mk a.toArray).size = a.length := by simp [ByteArray.size]
 have h2 : (ByteArray.mk b.toArray).size = b.length := by simp [ByteArray.size]
 have h3 : ¬ (((a.length + b.length : Nat) : Int) > IntKind.i64.max) := by
  have : IntKind.i64.max = 9223372036854775807 := rfl
  omega
 have e1 : (eqGuard .add t x y (.string ⟨a.toArray⟩) (.string ⟨b.toArray⟩)) = pure () := rfl
 have e2 : binOp .add t (.string ⟨a.toArray⟩) (.string ⟨b.toArray⟩) = Op.stringOp .add ⟨a.toArray⟩ ⟨b.toArray⟩ := rfl
 rw [e1, e2, Sem.run_bind, Sem.run_pure, Result.andThen_ok]
 unfold Op.stringOp
 simp only [h1, h2]
 rw [if_neg h3, mk_append]
 rfl

theorem run_bin_eq_str {t : TypeId} {x y : Operand} {a b : List UInt8} :
  (do eqGuard .eql t x y (.string ⟨a.toArray⟩) (.string ⟨b.toArray⟩); binOp .eql t (.string ⟨a.toArray⟩) (.string ⟨b.toArray⟩) : Sem Value).run P w = .ok (.bool (a == b)) w := by
 have e1 : (eqGuard .eql t x y (.string ⟨a.toArray⟩) (.string ⟨b.toArray⟩)) = pure () := rfl
 have e2 : binOp .eql t (.string ⟨a.toArray⟩) (.string ⟨b.toArray⟩) = Op.stringOp .eql ⟨a.toArray⟩ ⟨b.toArray⟩ := rfl
 rw [e1, e2, Sem.run_bind, Sem.run_pure, Result.andThen_ok]
 unfold Op.stringOp
 simp only [toList_mk]
 rfl

theorem run_bin_ne_str {t : TypeId} {x y : Operand} {a b : List UInt8} :
  (do eqGuard .neq t x y (.string ⟨a.toArray⟩) (.string ⟨b.toArray⟩); binOp .neq t (.string ⟨a.toArray⟩) (.string ⟨b.toArray⟩) : Sem Value).run P w = .ok (.bool (!(a == b))) w := by
 have e1 : (eqGuard .neq t x y (.string ⟨a.toArray⟩) (.string ⟨b.toArray⟩)) = pure () := rfl
 have e2 : binOp .neq t (.string ⟨a.toArray⟩) (.string ⟨b.toArray⟩) = Op.stringOp .neq ⟨a.toArray⟩ ⟨b.toArray⟩ := rfl
 rw [e1, e2, Sem.run_bind, Sem.run_pure, Result.andThen_ok]
 unfold Op.stringOp
 simp only [toList_mk]
 rfl

theorem run_bin_eq_bool {t : TypeId} {x y : Operand} {a b : Bool} (h : P.underlying t = some .bool) :
  (do eqGuard .eql t x y (.bool a) (.bool b); binOp .eql t (.bool a) (.bool b) : Sem Value).run P w = .ok (.bool (a == b)) w := by
 have hr := run_equal_bool (P := P) w t a b h
 have e1 : (eqGuard .eql t x y (.bool a) (.bool b)) = pure () := rfl
 rw [e1, Sem.run_bind, Sem.run_pure, Result.andThen_ok]
 simp only [binOp, Sem.run_bind, hr, Result.andThen_ok, Sem.run_pure]

theorem run_bin_ne_bool {t : TypeId} {x y : Operand} {a b : Bool} (h : P.underlying t = some .bool) :
  (do eqGuard .neq t x y (.bool a) (.bool b); binOp .neq t (.bool a) (.bool b) : Sem Value).run P w = .ok (.bool (!(a == b))) w := by
 have hr := run_equal_bool (P := P) w t a b h
 have e1 : (eqGuard .neq t x y (.bool a) (.bool b)) = pure () := rfl
 rw [e1, Sem.run_bind, Sem.run_pure, Result.andThen_ok]
 simp only [binOp, Sem.run_bind, hr, Result.andThen_ok, Sem.run_pure]


theorem extract_mk (l : List UInt8) (a b : Nat) : (ByteArray.mk l.toArray).extract a b = ByteArray.mk ((l.take b).drop a).toArray := by
 apply ByteArray.ext
 rw [ByteArray.data_extract]
 show l.toArray.extract a b = _
 rw [List.extract_toArray, List.extract_eq_take_drop, List.drop_take]

theorem size_mk (l : List UInt8) : (ByteArray.mk l.toArray).size = l.length := by simp [ByteArray.size]

theorem run_slice_lo {t : TypeId} (h : isString P t = true) {s : List UInt8} {i : Int} (h0 : 0 ≤ i) (h1 : i ≤ s.length) :
  (Instr.sliceAt t (.string ⟨s.toArray⟩) (some (.int .i64 i)) none none).run P w = .ok (Leaf.str (s.drop i.toNat)).val w := by
 have hu := isString_out h
 unfold Instr.sliceAt
 simp only [Sem.run_bind, run_underlying hu, Result.andThen_ok, Instr.slice, Option.isSome_none, Bool.false_eq_true, if_false, Instr.sliceBounds, Sem.run_pure, Instr.sliceBound, asIntOf, size_mk,
  h0, h1, and_self, if_true, extract_mk, List.take_length]
 rfl

theorem run_slice_hi {t : TypeId} (h : isString P t = true) {s : List UInt8} {i : Int} (h0 : 0 ≤ i) (h1 : i ≤ s.length) :
  (Instr.sliceAt t (.string ⟨s.toArray⟩) none (some (.int .i64 i)) none).run P w = .ok (Leaf.str (s.take i.toNat)).val w := by
 have hu := isString_out h
 unfold Instr.sliceAt
 simp only [Sem.run_bind, run_underlying hu, Result.andThen_ok, Instr.slice, Option.isSome_none, Bool.false_eq_true, if_false, Instr.sliceBounds, Sem.run_pure, Instr.sliceBound, asIntOf, size_mk,
  h0, h1, and_self, if_true, extract_mk, List.drop_zero]
 rfl

theorem run_slice_lohi {t : TypeId} (h : isString P t = true) {s : List UInt8} {i j : Int} (h0 : 0 ≤ i) (h1 : i ≤ j) (h2 : j ≤ s.length) :
  (Instr.sliceAt t (.string ⟨s.toArray⟩) (some (.int .i64 i)) (some (.int .i64 j)) none).run P w = .ok (Leaf.str ((s.take j.toNat).drop i.toNat)).val w := by
 have hu := isString_out h
 have h3 : 0 ≤ j := by omega
 have h4 : i ≤ (j.toNat : Int) := by omega
 unfold Instr.sliceAt
 simp only [Sem.run_bind, run_underlying hu, Result.andThen_ok, Instr.slice, Option.isSome_none, Bool.false_eq_true, if_false, Instr.sliceBounds, Sem.run_pure, Instr.sliceBound, asIntOf, size_mk,
  h0, h2, h3, h4, and_self, if_true, extract_mk]
 rfl


theorem run_rowslice_lo {t e : TypeId} (he : elemOfT P t = some e) {sz : Nat} (hs : sizeOfT P e = some sz) {a : Option Addr} {n c : Nat} {i : Int} (h0 : 0 ≤ i) (h1 : i ≤ n) :
  (Instr.sliceAt t (.slice a n c) (some (.int .i64 i)) none none).run P w = .ok (.slice (if c = i.toNat then a else a.map (·.add (i.toNat * sz))) (n - i.toNat) (c - i.toNat)) w := by
 have hu := elemOfT_out he
 obtain ⟨j, hj, hsz⟩ := sizeOfT_out hs
 have h2 := run_sizeOf' (w := w) hj
 unfold Instr.sliceAt
 simp only [Sem.run_bind, run_underlying hu, Result.andThen_ok, Instr.slice, Option.isSome_none, Bool.false_eq_true, if_false, Instr.sliceBounds, Sem.run_pure, Instr.sliceBound, asIntOf,
  h0, h1, and_self, if_true, h2, hsz]

theorem run_rowslice_hi {t e : TypeId} (he : elemOfT P t = some e) {sz : Nat} (hs : sizeOfT P e = some sz) {a : Option Addr} {n c : Nat} (hc : n ≤ c) {i : Int} (h0 : 0 ≤ i) (h1 : i ≤ n) :
  (Instr.sliceAt t (.slice a n c) none (some (.int .i64 i)) none).run P w = .ok (.slice (if c = 0 then a else a.map (·.add 0)) i.toNat c) w := by
 have hu := elemOfT_out he
 obtain ⟨j, hj, hsz⟩ := sizeOfT_out hs
 have h2 := run_sizeOf' (w := w) hj
 have h3 : i ≤ (c : Int) := by omega
 unfold Instr.sliceAt
 simp only [Sem.run_bind, run_underlying hu, Result.andThen_ok, Instr.slice, Option.isSome_none, Bool.false_eq_true, if_false, Instr.sliceBounds, Sem.run_pure, Instr.sliceBound, asIntOf,
  h0, h3, and_self, if_true, h2, hsz, Nat.zero_mul, Nat.sub_zero]

theorem run_min {t ty : TypeId} {a b : Int} : (Builtin.min_ #[t] ty #[.int .i64 a, .int .i64 b]).run P w = .ok (.int .i64 (if b < a then b else a)) w := by
 simp [Builtin.min_, Builtin.min2]
end
end Go.Eng

namespace Go.Eng
open Go.RowKit

section
variable {P : Program} {w : World}


theorem cellOf_ok {v : Value} {c : SC} (h : cellOf v = some c) (L : LS) (ρ : Val) : SC.ok L ρ c v := by
 unfold cellOf at h
 split at h <;> first | (cases h; done) | (obtain rfl := Option.some.inj h; rfl)

theorem cellsOf_ok {vs : List Value} {cs : List SC} (h : cellsOf vs = some cs) (L : LS) (ρ : Val) : Oks L ρ cs vs := by
 induction vs generalizing cs with
 | nil => obtain rfl := Option.some.inj h; exact .nil
 | cons v vs ih =>
  simp only [cellsOf] at h
  split at h
  ·rename_i c hc
   split at h
   ·rename_i r hr
    obtain rfl := Option.some.inj h
    exact .cons (cellOf_ok hc L ρ) (ih hr)
   ·cases h
  ·cases h

theorem valOf_ok {v : Value} {x : SA} (h : valOf v = some x) (L : LS) (ρ : Val) : SA.ok L ρ x v := by
 unfold valOf at h
 split at h
 ·rename_i cs
  split at h
  ·rename_i l hl
   obtain rfl := Option.some.inj h
   exact ⟨cs.toList, by simp, cellsOf_ok hl L ρ⟩
  ·cases h
 ·split at h
  ·rename_i c hc
   obtain rfl := Option.some.inj h
   exact cellOf_ok hc L ρ
  ·cases h

theorem zeroCells_out {t : TypeId} {cs : List SC} (h : zeroCells P t = some cs) : ∃ i z, P.info? t = some i ∧ i.zero = some z ∧ cellsOf z.cells.toList = some cs := by
 unfold zeroCells at h
 split at h
 ·rename_i i hi
  split at h
  ·rename_i z hz
   exact ⟨i, z, hi, hz, h⟩
  ·cases h
 ·cases h


theorem foldl_set (ys : List Value) : ∀ (off k : Nat) (cs : Array Value), off + k + ys.length ≤ cs.size →
  ((ys.zipIdx k).foldl (fun a (p : Value × Nat) => a.setIfInBounds (off + p.2) p.1) cs).toList = cs.toList.take (off + k) ++ ys ++ cs.toList.drop (off + k + ys.length) := by
 induction ys with
 | nil => intro off k cs _; simp
 | cons y ys ih =>
  intro off k cs h
  simp only [List.length_cons] at h
  rw [List.zipIdx_cons, List.foldl_cons, ih off (k + 1) (cs.setIfInBounds (off + k) y) (by simp only [Array.size_setIfInBounds]; omega)]
  rw [Array.toList_setIfInBounds]
  have hlt : off + k < cs.toList.length := by simp; omega
  have e1 : off + (k + 1) = off + k + 1 := by omega
  have e2 : off + k + 1 + ys.length = off + k + (y :: ys).length := by simp only [List.length_cons]; omega
  rw [e1, e2]
  rw [List.take_succ_eq_append_getElem (by simpa using hlt)]
  rw [List.take_set_of_le (by omega), List.getElem_set_self]
  rw [List.drop_set_of_lt (by simp only [List.length_cons]; omega)]
  simp

theorem fill_one (place : Nat → Option (Nat × Nat)) {i off n : Nat} (hp : place i = some (off, n)) {v : Value} (hn : v.cells.size = n) {cs : Array Value} (hs : off + n ≤ cs.size) (rest : List (Nat × Value)) :
  Instr.fill place cs ((i, v) :: rest) = Instr.fill place (cs.toList.take off ++ v.cells.toList ++ cs.toList.drop (off + n)).toArray rest := by
 have h := foldl_set v.cells.toList off 0 cs (by simp; omega)
 simp only [Instr.fill, hp]
 have hc : ¬ ((decide (v.cells.size ≠ n) || decide (off + v.cells.size > cs.size)) = true) := by simp; omega
 rw [if_neg hc]
 congr 1
 apply Array.ext'
 rw [← Array.foldl_toList]
 simp only [Array.toList_zipIdx]
 refine h.trans ?_
 simp [hn]

theorem placesOf_out : ∀ {fs : List Field} {pl : List (Nat × Nat)}, placesOf P fs = some pl →
  (fs.mapM fun f => (do pure (f.offset, ← sizeOf f.type) : Sem (Nat × Nat))).run P w = .ok pl w
 | [], pl, h => by
  obtain rfl := Option.some.inj h
  rfl
 | f :: fs, pl, h => by
  simp only [placesOf] at h
  split at h
  ·rename_i n hn
   split at h
   ·rename_i r hr
    obtain rfl := Option.some.inj h
    obtain ⟨i, hi, hs⟩ := sizeOfT_out hn
    have h1 := run_sizeOf' (w := w) hi
    have h2 := placesOf_out hr
    rw [List.mapM_cons]
    simp only [Sem.run_bind, h1, Result.andThen_ok, Sem.run_pure, h2, hs]
   ·cases h
  ·cases h

theorem run_mapM_places {fs : Array Field} {pl : List (Nat × Nat)} (h : placesOf P fs.toList = some pl) :
  (fs.mapM fun f => (do pure (f.offset, ← sizeOf f.type) : Sem (Nat × Nat))).run P w = .ok pl.toArray w := by
 have h1 := placesOf_out (w := w) h
 rw [Array.mapM_eq_mapM_toList]
 show Sem.run P (List.mapM _ fs.toList >>= fun l => pure l.toArray) w = _
 rw [Sem.run_bind, h1]
 rfl

theorem run_build {t : TypeId} {fs : Array Field} (hu : P.underlying t = some (.struct fs)) {pl : List (Nat × Nat)} (hp : placesOf P fs.toList = some pl) {i : TypeInfo} {z : Value} (hi : P.info? t = some i) (hz : i.zero = some z)
  {parts : Array (Nat × Value)} {cs : Array Value} (hf : Instr.fill (pl.toArray[·]?) z.cells parts.toList = some cs) : (Instr.build t parts).run P w = .ok (.agg cs) w := by
 have h1 := run_mapM_places (w := w) hp
 have h2 := run_zeroValue' (w := w) hi hz
 unfold Instr.build
 simp only [Sem.run_bind, h2, Result.andThen_ok, run_underlying hu, h1, hf, Sem.run_pure]


theorem size_madeOf (z : Array Value) (n : Nat) : ((Array.range n).map (z[· % z.size]!)).size = n := by simp

theorem fill_row (n : Nat) : ∀ (vss : List (List Value)) (k : Nat) (cs : Array Value) (vs : List Value), vs.length = vss.length → (∀ j, j < vs.length → ((vs[j]?).map fun v => v.cells.toList) = vss[j]?) → (∀ l ∈ vss, l.length = n) →
  (k + vss.length) * n ≤ cs.size →
  Instr.fill (fun i => some (i * n, n)) cs ((vs.zipIdx k).map fun p => (p.2, p.1)) = some (cs.toList.take (k * n) ++ vss.flatten ++ cs.toList.drop ((k + vss.length) * n)).toArray
 | [], k, cs, vs, hl, _, _, _ => by
  obtain rfl : vs = [] := List.eq_nil_of_length_eq_zero (by simpa using hl)
  simp [Instr.fill]
 | l :: vss, k, cs, [], hl, _, _, _ => by simp at hl
 | l :: vss, k, cs, v :: vs, hl, hc, hn, hs => by
  have h0 : v.cells.toList = l := by simpa using hc 0 (by simp)
  have hln : l.length = n := hn l List.mem_cons_self
  have hvn : v.cells.size = n := by rw [← Array.length_toList, h0, hln]
  have e : (k + (l :: vss).length) * n = (k + 1 + vss.length) * n := by rw [List.length_cons]; congr 1; omega
  have e1 : (k + 1) * n = k * n + n := by rw [Nat.add_mul]; omega
  have hle : k * n + n ≤ cs.size := by
   have : (k + 1) * n ≤ (k + (l :: vss).length) * n := Nat.mul_le_mul_right _ (by simp only [List.length_cons]; omega)
   omega
  rw [List.zipIdx_cons, List.map_cons, fill_one (off := k * n) (n := n) _ rfl hvn hle]
  have hsz : (cs.toList.take (k * n) ++ v.cells.toList ++ cs.toList.drop (k * n + n)).toArray.size = cs.size := by
   simp only [List.size_toArray, List.length_append, List.length_take, List.length_drop, Array.length_toList, hvn]
   omega
  rw [fill_row n vss (k + 1) _ vs (by simpa using hl) (fun j hj => by simpa using hc (j + 1) (by simpa using hj)) (fun l hl => hn l (List.mem_cons_of_mem _ hl)) (by rw [hsz, ← e]; exact hs)]
  congr 2
  have ht : (cs.toList.take (k * n)).length = k * n := by simp only [List.length_take, Array.length_toList]; omega
  have hv : v.cells.toList.length = n := by simpa using hvn
  simp only [List.append_assoc]
  have hM : k * n + n ≤ (k + (l :: vss).length) * n := by rw [e, ← e1]; exact Nat.mul_le_mul_right _ (by omega)
  generalize hMd : (k + (l :: vss).length) * n = M at *
  rw [e1, ← e]
  have t1 : List.take (k * n + n) (cs.toList.take (k * n) ++ (v.cells.toList ++ cs.toList.drop (k * n + n))) = cs.toList.take (k * n) ++ v.cells.toList := by
   have a1 : List.take (k * n + n) (cs.toList.take (k * n)) = cs.toList.take (k * n) := List.take_of_length_le (by omega)
   have a2 : List.take n v.cells.toList = v.cells.toList := List.take_of_length_le (by omega)
   rw [List.take_append, ht, a1, Nat.add_sub_cancel_left, List.take_append, hv, a2, Nat.sub_self, List.take_zero, List.append_nil]
  have t2 : List.drop M (cs.toList.take (k * n) ++ (v.cells.toList ++ cs.toList.drop (k * n + n))) = cs.toList.drop M := by
   have a1 : List.drop M (cs.toList.take (k * n)) = [] := List.drop_eq_nil_of_le (by omega)
   have a2 : List.drop (M - k * n) v.cells.toList = [] := List.drop_eq_nil_of_le (by omega)
   rw [List.drop_append, ht, a1, List.nil_append, List.drop_append, hv, a2, List.nil_append, List.drop_drop]
   congr 1
   omega
  rw [t1, t2, h0]
  simp [List.append_assoc]

end
end Go.Eng

namespace Go.Eng
open Go.RowKit

def EnvOk (E : Env) : Prop := ∀ t e, E.eid t = some e → ∃ i z, E.P.info? e = some i ∧ i.zero = some z ∧ z.cells.toList = (t.lv t.zero).map Leaf.val ∧ i.size = t.n ∧ i.bytes ≤ 4096

theorem etyOf_out {E : Env} {e : TypeId} {l : List ETy} {t : ETy} (h : etyOf E e l = some t) : E.eid t = some e := by
 induction l with
 | nil => cases h
 | cons x l ih =>
  simp only [etyOf] at h
  split at h
  ·rename_i e' he'
   split at h
   ·rename_i hb
    obtain rfl := Option.some.inj h
    rw [he', beq_true hb]
   ·exact ih h
  ·exact ih h

theorem madeCells_toList (z : Array Value) (hz : 0 < z.size) (n : Nat) : (madeCells z (n * z.size)).toList = (List.replicate n z.toList).flatten := by
 apply List.ext_getElem
 ·simp [madeCells]
 ·intro i h1 h2
  have hi : i < n * z.size := by simpa [madeCells] using h1
  have hm : i % z.size < z.size := Nat.mod_lt _ hz
  have e : (madeCells z (n * z.size)).toList[i] = z[i % z.size]! := by simp [madeCells]
  rw [e, getElem!_pos z _ hm]
  clear h1 e
  induction n generalizing i with
  | zero => simp at hi
  | succ n ih =>
   simp only [List.replicate_succ, List.flatten_cons]
   by_cases hlt : i < z.size
   ·rw [List.getElem_append_left (by simpa using hlt)]
    simp [Nat.mod_eq_of_lt hlt]
   ·have hge : z.size ≤ i := by omega
    rw [List.getElem_append_right (by simpa using hge)]
    have hi' : i - z.size < n * z.size := by rw [Nat.add_mul] at hi; omega
    have := ih (i - z.size) (by simpa [Nat.mul_comm] using hi') hi' (Nat.mod_lt _ hz)
    simp only [Array.length_toList]
    rw [← this]
    congr 1
    rw [Nat.mod_eq_sub_mod hge]

theorem cells_replicate (t : ETy) (x : t.T) (n : Nat) : cells t (List.replicate n x) = (List.replicate n ((t.lv x).map Leaf.val)).flatten := by
 induction n with
 | zero => rfl
 | succ n ih => simp only [List.replicate_succ, cells_cons, List.flatten_cons, ih]

theorem val_one (l : Leaf) : l.val.oneCell' = true := by cases l <;> rfl

theorem cells_one (t : ETy) (xs : List t.T) : ∀ u ∈ cells t xs, u.oneCell' = true := by
 intro u hu
 simp only [cells, List.mem_flatMap, List.mem_map] at hu
 obtain ⟨_, _, l, _, rfl⟩ := hu
 exact val_one l

section
variable {E : Env} {w : World} (hE : EnvOk E)
include hE

omit hE in
theorem ownR_new {t : ETy} {e : TypeId} (he : E.eid t = some e) {xs : List t.T} {cur : Array Value} (hc : cur.toList = cells t xs) (hl : xs.length ≤ 4294967296) :
  OwnR E (w.alloc (.cells cur e)) t (some ⟨w.heap.size, 0, none⟩) xs.length xs := by
 have hsz : cur.size = xs.length * t.n := by rw [← Array.length_toList, hc, cells_length]
 refine OwnR.of he ⟨by rw [cells_length], .inr ⟨w.heap.size, xs.length, cur, rfl, Nat.zero_le _, heap_alloc_new w _, Nat.le_refl _, by unfold maxLen; omega, hsz, ?_⟩⟩
 rw [hc, List.take_of_length_le (by rw [cells_length]; exact Nat.le_refl _)]

theorem run_makeRow {t : TypeId} {e : TypeId} {ty : ETy} (ht : elemOfT E.P t = some e) (he : E.eid ty = some e) {n : Int} (h0 : 0 ≤ n) (h1 : n ≤ 4294967296) :
  ∃ cur, (Instr.makeSlice t (.int .i64 n) (.int .i64 n)).run E.P w = .ok (.slice (some ⟨w.heap.size, 0, none⟩) n.toNat n.toNat) (w.alloc (.cells cur e)) ∧
   cur.toList = cells ty (List.replicate n.toNat ty.zero) := by
 obtain ⟨i, z, hi, hz, hzc, hs, hb⟩ := hE ty e he
 have hr := run_make (P := E.P) w t e i z (elemOfT_out ht) hi hz .i64 .i64 n n h0 (Int.le_refl _) (by
  have : (i.bytes : Int) * n ≤ 4096 * 4294967296 := Int.mul_le_mul (by omega) h1 h0 (by omega)
  omega) (by omega)
 have hzs : z.cells.size = ty.n := by rw [← Array.length_toList, hzc, List.length_map, ETy.lv_length]
 refine ⟨_, hr, ?_⟩
 rw [hs, ← hzs, madeCells_toList z.cells (by rw [hzs]; exact ty.n_pos), hzc, cells_replicate]

theorem run_litRow {t : TypeId} {e : TypeId} {ty : ETy} (ht : elemOfT E.P t = some e) (he : E.eid ty = some e) {vs : List Value} {ys : List ty.T} (hl : vs.length = ys.length)
  (hv : ∀ j, j < vs.length → ((vs[j]?).map fun v => v.cells.toList) = (ys.map fun y => (ty.lv y).map Leaf.val)[j]?) (hn : ys.length * ty.n ≤ 16777216) :
  ∃ cur, (Instr.buildSlice t ys.length (vs.zipIdx.map fun p => (p.2, p.1)).toArray).run E.P w = .ok (.slice (some ⟨w.heap.size, 0, none⟩) ys.length ys.length) (w.alloc (.cells cur e)) ∧ cur.toList = cells ty ys := by
 obtain ⟨i, z, hi, hz, hzc, hs, hb⟩ := hE ty e he
 have hu := elemOfT_out ht
 have h2 := run_sizeOf' (w := w) hi
 have h3 := run_zeroValue' (w := w) hi hz
 have hzs : z.cells.size = ty.n := by rw [← Array.length_toList, hzc, List.length_map, ETy.lv_length]
 have hns : ¬ (ys.length * i.size > 2 ^ 24) := by rw [hs]; omega
 have key : ∀ zz : Array Value, ∃ cur, Instr.fill (fun k => some (k * i.size, i.size)) ((Array.range (ys.length * i.size)).map (zz[· % zz.size]!)) (vs.zipIdx.map fun p => (p.2, p.1)) = some cur ∧ cur.toList = cells ty ys := by
  intro zz
  refine ⟨_, fill_row i.size (ys.map fun y => (ty.lv y).map Leaf.val) 0 _ vs (by simpa using hl) hv (fun l hl => ?_) (by simp), ?_⟩
  ·simp only [List.mem_map] at hl
   obtain ⟨y, _, rfl⟩ := hl
   rw [List.length_map, ETy.lv_length, hs]
  ·simp only [Nat.zero_mul, List.take_zero, List.nil_append, Nat.zero_add, List.length_map]
   rw [List.drop_eq_nil_of_le (by simp), List.append_nil]
   simp [cells, List.flatMap]
 by_cases h0 : ys.length * i.size = 0
 ·obtain ⟨cur, hf, hc⟩ := key #[]
  refine ⟨cur, ?_, hc⟩
  unfold Instr.buildSlice
  rw [h0] at hf
  have hns0 : ¬ (0 > 2 ^ 24) := by omega
  simp only [Sem.run_bind, run_underlying hu, Result.andThen_ok, h2, h0, if_true, newRow]
  rw [if_neg hns0]
  simp only [Sem.run_bind, Sem.run_pure, Result.andThen_ok, hf, run_newObj]
  rfl
 ·obtain ⟨cur, hf, hc⟩ := key z.cells
  refine ⟨cur, ?_, hc⟩
  unfold Instr.buildSlice
  simp only [Sem.run_bind, run_underlying hu, Result.andThen_ok, h2, hns, if_false, h0, h3, Sem.run_pure, hf, newRow, run_newObj]
  rfl

omit hE in
theorem setCells_heap {g : Nat} {e : TypeId} : ∀ (vs : List Value) (o : Nat) (w : World) (cur : Array Value), w.heap[g]? = some (.cells cur e (0, 0)) → o + vs.length ≤ cur.size →
  (w.setCells g o vs).heap[g]? = some (.cells (cur.toList.take o ++ vs ++ cur.toList.drop (o + vs.length)).toArray e (0, 0)) ∧ w.grownBy (w.setCells g o vs) (some g)
 | [], o, w, cur, h, hl => by
  refine ⟨?_, ⟨rfl, rfl, rfl, Nat.le_refl _, fun _ _ _ => rfl⟩⟩
  simp [World.setCells, h]
 | v :: r, o, w, cur, h, hl => by
  rw [World.setCells]
  simp only [List.length_cons] at hl
  have h1 : (w.setCell ⟨g, o, none⟩ v).heap[g]? = some (.cells (cur.setIfInBounds o v) e (0, 0)) := by
   simp [World.setCell, Array.getElem?_modify, h]
  obtain ⟨h2, h3⟩ := setCells_heap r (o + 1) _ _ h1 (by rw [Array.size_setIfInBounds]; omega)
  refine ⟨?_, ?_⟩
  ·rw [h2]
   congr 2
   rw [Array.toList_setIfInBounds]
   have hlt : o < cur.toList.length := by simpa using (by omega : o < cur.size)
   rw [List.take_set, List.take_succ_eq_append_getElem hlt]
   simp [List.set_append, List.drop_set, Nat.min_eq_left (Nat.le_of_lt hlt), hlt, Nat.add_assoc, Nat.add_comm 1]
   have hlt : o < cur.size := by omega
   rw [if_neg (by omega)]
   simp [List.set_append_right, Nat.min_eq_left (Nat.le_of_lt hlt)]
  ·have h0 : w.grownBy (w.setCell ⟨g, o, none⟩ v) (some g) := ⟨rfl, rfl, rfl, by simp [World.setCell], fun k hk hn => by
    simp only [World.setCell]
    rw [Array.getElem?_modify]
    have : g ≠ k := fun e => hn (by rw [e])
    simp [this]⟩
   obtain ⟨a1, a2, a3, a4, a5⟩ := h0
   obtain ⟨b1, b2, b3, b4, b5⟩ := h3
   exact ⟨b1.trans a1, b2.trans a2, b3.trans a3, Nat.le_trans a4 b4, fun k hk hn => (b5 k (Nat.lt_of_lt_of_le hk a4) hn).trans (a5 k hk hn)⟩

theorem run_appendRow {t : TypeId} {e : TypeId} {ty : ETy} (ht : elemOfT E.P t = some e) (he : E.eid ty = some e) {tt : TypeId} {a : Option Addr} {c : Nat} {xs : List ty.T} (h : OwnR E w ty a c xs)
  {a' : Option Addr} {c' : Nat} {ys : List ty.T} (hy : Rd w ty a' c' ys) (hlen : xs.length + ys.length ≤ 4294967296) :
  ∃ b d w', (Builtin.append_ #[t, t] tt #[.slice a xs.length c, .slice a' ys.length c']).run E.P w = .ok (.slice b (xs.length + ys.length) d) w' ∧ OwnR E w' ty b d (xs ++ ys) ∧
   w.grownBy w' (a.map (·.block)) ∧ (b.map (·.block) = a.map (·.block) ∨ b.map (·.block) = some w.heap.size) := by
 obtain ⟨i, z, hi, hz, hzc, hs, hb⟩ := hE ty e he
 have hu := elemOfT_out ht
 have hzs : z.cells.size = ty.n := by rw [← Array.length_toList, hzc, List.length_map, ETy.lv_length]
 obtain ⟨e', he', hown⟩ := h
 obtain rfl : e' = e := Option.some.inj (he'.symm.trans he)
 have form : ∀ {v : Value} {n : Nat} {zs : List Value} {w1 : World} {B : Nat}, w1.ownsRow B e' ty.n v n zs → w1.ownsRow 0 e' ty.n v n zs ∧ ∃ b d, v = .slice b n d ∧ v.ownBlock = b.map (·.block) := by
  intro v n zs w1 B hh
  obtain ⟨h1, h2⟩ := hh
  rcases h2 with ⟨rfl, rfl⟩ | ⟨g, cap, cur, rfl, _, h3⟩
  ·exact ⟨⟨h1, .inl ⟨rfl, rfl⟩⟩, none, 0, rfl, rfl⟩
  ·exact ⟨⟨h1, .inr ⟨g, cap, cur, rfl, Nat.zero_le _, h3⟩⟩, _, _, rfl, rfl⟩
 have hbytes : (xs.length + ys.length) * i.bytes ≤ 140737488355328 := by
  have : (xs.length + ys.length) * i.bytes ≤ 4294967296 * 4096 := Nat.mul_le_mul hlen hb
  omega
 have hcl : cells ty (xs ++ ys) = cells ty xs ++ cells ty ys := cells_append ty xs ys
 cases a' with
 | some ad =>
  have hnews : ∀ (j : Nat) (u : Value), (cells ty ys)[j]? = some u → w.cell? (ad.add j) = some u := fun j u hu => by
   obtain ⟨ad', hh, hc⟩ := hy.cell j u hu
   obtain rfl := Option.some.inj hh
   exact hc
  have hrd := OwnR.rd (E := E) ⟨e', he, hown⟩
  rcases hown with ⟨rfl, rfl, rfl⟩ | ⟨g, off, cur, rfl, hh, hn, hcm, hsz, htk⟩
  ·have hown0 : w.ownsRow 0 e' ty.n (.slice none 0 0) 0 [] := ⟨by simp, .inl ⟨rfl, rfl⟩⟩
   obtain ⟨v', w', hrun, h2, h3, _, h5⟩ := run_append_own_at (P := E.P) w 0 t tt e' i z ty.n i.bytes hu hi hz hs rfl hzs ty.n_pos _ 0 [] hown0 ad ys.length c' (cells ty ys) (by rw [cells_length])
    hnews (cells_one ty ys) (by unfold maxLen; simp at hlen; omega) (by simpa using hbytes) (Nat.zero_le _)
   obtain ⟨_, b, d, rfl, hbb⟩ := form h2
   rw [hbb] at h5
   refine ⟨b, d, w', by simpa using hrun, OwnR.of he (by simpa using h2), h3, h5⟩
  ·by_cases hroom : xs.length + ys.length ≤ c
   ·have hm : (xs.length + ys.length) * ty.n ≤ c * ty.n := Nat.mul_le_mul_right _ hroom
    rw [Nat.add_mul] at hm
    have hcy := cells_length ty ys
    have hcx := cells_length ty xs
    have hr := run_append_room_cells (P := E.P) w t tt e' i hu hi g off xs.length c ad ys.length c' (cells ty ys) (by rw [hcy, hs]) hnews (cells_one ty ys) hroom
     (fun j hj => by
      have e0 := cell_of_cur (j := xs.length * i.size + j) (off := off) hh
      have e1 : (⟨g, off, none⟩ : Addr).add (xs.length * i.size + j) = ⟨g, off + xs.length * i.size + j, none⟩ := by
       unfold Addr.add
       split <;> simp_all [Nat.add_assoc]
      rw [e1] at e0
      rw [e0, hs]
      have : off + (xs.length * ty.n + j) < cur.size := by omega
      rw [Array.getElem?_eq_getElem this]
      rfl)
     (fun j hj => by simp [World.frozen?, hh])
    obtain ⟨k1, k2⟩ := setCells_heap (cells ty ys) (off + xs.length * i.size) w cur hh (by rw [hs]; omega)
    refine ⟨some ⟨g, off, none⟩, c, _, hr, ⟨e', he, .inr ⟨g, off, _, rfl, k1, by rw [List.length_append]; exact hroom, hcm, ?_, ?_⟩⟩, k2, .inl rfl⟩
    ·have : cur.toList.length = cur.size := by simp
     simp only [List.size_toArray, List.length_append, List.length_take, List.length_drop, hs]
     omega
    ·rw [hcl, ← htk, List.length_append, Nat.add_mul, hs]
     have hl : cur.toList.length = cur.size := by simp
     have ht : (cur.toList.take (off + xs.length * ty.n)).drop off = (cur.toList.drop off).take (xs.length * ty.n) := by
      rw [List.drop_take]
      congr 1
      omega
     simp only [List.append_assoc]
     rw [List.drop_append_of_le_length (by rw [List.length_take]; omega), ht]
     have hA : ((cur.toList.drop off).take (xs.length * ty.n)).length = xs.length * ty.n := by rw [List.length_take, List.length_drop]; omega
     rw [List.take_append, hA, List.take_of_length_le (by rw [hA]; omega), show xs.length * ty.n + ys.length * ty.n - xs.length * ty.n = ys.length * ty.n from by omega, List.take_left' hcy]
   ·obtain ⟨v', w', hrun, h2, h3⟩ := run_append_arg_grows (P := E.P) w t tt e' i z ty.n i.bytes hu hi hz hs rfl hzs ty.n_pos ⟨g, off, none⟩ xs.length c (cells ty xs) (cells_length ty xs)
     (fun j u hu => by obtain ⟨ad', h1, h2⟩ := hrd.cell j u hu; obtain rfl := Option.some.inj h1; exact h2) ad ys.length c' (cells ty ys) (cells_length ty ys) hnews (by omega) (by unfold maxLen; omega) hbytes
    have hge : c < xs.length + ys.length := by omega
    have hr0 := run_append_grow (P := E.P) w t tt e' i z hu hi hz ⟨g, off, none⟩ xs.length c (cells ty xs) (by rw [cells_length, hs]) (fun j u hu => by obtain ⟨ad', h1, h2⟩ := hrd.cell j u hu; obtain rfl := Option.some.inj h1; exact h2) ad ys.length c' (cells ty ys) (by rw [cells_length, hs]) hnews hge (by omega) (growslice_fits hge hbytes)
    have hv := hrun.symm.trans hr0
    simp only [Result.ok.injEq] at hv
    obtain ⟨h2', b, d, rfl, hbb⟩ := form h2
    obtain ⟨g1, g2, g3, g4, g5⟩ := h3
    refine ⟨b, d, w', hrun, OwnR.of he (by rw [hcl]; simpa using h2'), ⟨g1, g2, g3, g4, fun k hk _ => g5 k hk (by simp)⟩, ?_⟩
    have hv1 := hv.1
    injection hv1 with hv1
    rw [hv1]
    exact .inr rfl
 | none =>
  have hys : ys = [] := by
   cases ys with
   | nil => rfl
   | cons y ys =>
    have h0 : 0 < (cells ty (y :: ys)).length := by rw [cells_length]; exact Nat.mul_pos (by simp) ty.n_pos
    obtain ⟨ad, hh, _⟩ := hy.cell 0 _ (List.getElem?_eq_getElem h0)
    cases hh
  subst hys
  refine ⟨a, c, w, ?_, by simpa using ⟨e', he, hown⟩, ⟨rfl, rfl, rfl, Nat.le_refl _, fun _ _ _ => rfl⟩, .inl rfl⟩
  rcases hown with ⟨rfl, rfl, rfl⟩ | ⟨g, off, cur, rfl, _, hnc, _⟩
  ·simp [Builtin.append_, run_underlying hu, sizeOf, typeInfo, hi, Builtin.lenOf, Builtin.firstCells]
  ·simp [Builtin.append_, run_underlying hu, sizeOf, typeInfo, hi, Builtin.lenOf, Builtin.firstCells, hnc, storeCells]
end
end Go.Eng

namespace Go.Eng
open Go.RowKit

section
variable {P : Program} {w : World}

def Fits (P : Program) (t : TypeId) (xs : List Value) (v : Value) : Prop :=
 match P.underlying t with
 | some (.struct _) => v = .agg xs.toArray
 | _ => xs = [v]

theorem eqInt_run {l r : List SC} {b : Bool} (h : eqInt l r = some b) {L : LS} {ρ : Val} {t : TypeId} {vx vy : Value} (hx : Oks L ρ l [vx]) (hy : Oks L ρ r [vy]) (k : Nat) (ht : P.underlying t = some (.int .i64)) :
  (Op.equalIn (k + 1) t vx vy).run P w = .ok b w := by
 unfold eqInt at h
 split at h
 ·rename_i p q
  cases hx with
  | cons hx _ => cases hy with
   | cons hy _ =>
    obtain rfl : vx = .int .i64 p := hx
    obtain rfl : vy = .int .i64 q := hy
    obtain rfl := Option.some.inj h
    exact run_equalIn_int w k t .i64 .i64 p q ht
 ·cases h

theorem eqBool_run {l r : List SC} {b : Bool} (h : eqBool l r = some b) {L : LS} {ρ : Val} {t : TypeId} {vx vy : Value} (hx : Oks L ρ l [vx]) (hy : Oks L ρ r [vy]) (k : Nat) (ht : P.underlying t = some .bool) :
  (Op.equalIn (k + 1) t vx vy).run P w = .ok b w := by
 unfold eqBool at h
 split at h
 ·rename_i p q
  cases hx with
  | cons hx _ => cases hy with
   | cons hy _ =>
    obtain rfl : vx = .bool p := hx
    obtain rfl : vy = .bool q := hy
    obtain rfl := Option.some.inj h
    exact run_equalIn_bool' w k t p q ht
 ·cases h

theorem eqStr_run {l r : List SC} {b : Bool} (h : eqStr l r = some b) {L : LS} {ρ : Val} {t : TypeId} {vx vy : Value} (hx : Oks L ρ l [vx]) (hy : Oks L ρ r [vy]) (k : Nat) (ht : P.underlying t = some .string) :
  (Op.equalIn (k + 1) t vx vy).run P w = .ok b w := by
 unfold eqStr at h
 split at h
 ·rename_i p q
  cases hx with
  | cons hx _ => cases hy with
   | cons hy _ =>
    obtain rfl : vx = .string ⟨p.toArray⟩ := hx
    obtain rfl : vy = .string ⟨q.toArray⟩ := hy
    obtain rfl := Option.some.inj h
    have := run_equalIn_string w k t ⟨p.toArray⟩ ⟨q.toArray⟩ ht
    simp only [toList_mk] at this
    exact this
 ·cases h

theorem eqT_kind {m : Nat} {t : TypeId} {l r : List SC} {b : Bool} (h : eqT P m t l r = some b) :
  (∃ fs, P.underlying t = some (.struct fs)) ∨ (isPlain P t = true ∧ l.length = 1 ∧ r.length = 1) := by
 cases m with
 | zero => simp [eqT] at h
 | succ m =>
  simp only [eqT] at h
  split at h
  ·rename_i fs hu
   exact .inl ⟨fs, hu⟩
  ·rename_i hu
   refine .inr ⟨by simp [isPlain, hu], ?_⟩
   unfold eqInt at h
   split at h
   ·exact ⟨rfl, rfl⟩
   ·cases h
  ·rename_i hu
   refine .inr ⟨by simp [isPlain, hu], ?_⟩
   unfold eqBool at h
   split at h
   ·exact ⟨rfl, rfl⟩
   ·cases h
  ·rename_i hu
   refine .inr ⟨by simp [isPlain, hu], ?_⟩
   unfold eqStr at h
   split at h
   ·exact ⟨rfl, rfl⟩
   ·cases h
  ·cases h

theorem fits_one {t : TypeId} (h : isPlain P t = true) {xs : List Value} {v : Value} (hf : Fits P t xs v) : xs = [v] := by
 obtain ⟨d, hu, hd, _⟩ := isPlain_out h
 unfold Fits at hf
 rw [hu] at hf
 cases d <;> first | exact hf | exact (hd _ rfl).elim

mutual
theorem eqT_run : ∀ (m : Nat) {t : TypeId} {l r : List SC} {b : Bool}, eqT P m t l r = some b → ∀ (k : Nat) {L : LS} {ρ : Val} {xs ys : List Value}, Oks L ρ l xs → Oks L ρ r ys → ∀ {vx vy : Value}, Fits P t xs vx → Fits P t ys vy →
  (Op.equalIn (m + k) t vx vy).run P w = .ok b w
 | 0, _, _, _, _, h => by simp [eqT] at h
 | m + 1, t, l, r, b, h => fun k L ρ xs ys hx hy vx vy fx fy => by
  have hk := eqT_kind h
  simp only [eqT] at h
  have e : m + 1 + k = (m + k) + 1 := by omega
  rw [e]
  split at h
  ·rename_i fs hu
   split at h
   ·rename_i hst
    unfold Fits at fx fy
    rw [hu] at fx fy
    subst fx
    subst fy
    have hf : P.fieldsOf t = fs := by unfold Program.fieldsOf; rw [hu]
    rw [run_equalIn_struct w (m + k) t _ _ (by rw [hf]; exact hu) (heldB_out hst), hf]
    exact eqFs_run m h k hx hy
   ·cases h
  ·rename_i hu
   have hp : isPlain P t = true := by simp [isPlain, hu]
   rw [fits_one hp fx] at hx
   rw [fits_one hp fy] at hy
   exact eqInt_run h hx hy (m + k) hu
  ·rename_i hu
   have hp : isPlain P t = true := by simp [isPlain, hu]
   rw [fits_one hp fx] at hx
   rw [fits_one hp fy] at hy
   exact eqBool_run h hx hy (m + k) hu
  ·rename_i hu
   have hp : isPlain P t = true := by simp [isPlain, hu]
   rw [fits_one hp fx] at hx
   rw [fits_one hp fy] at hy
   exact eqStr_run h hx hy (m + k) hu
  ·cases h
theorem eqFs_run : ∀ (m : Nat) {fs : List Field} {l r : List SC} {b : Bool}, eqFs P m fs l r = some b → ∀ (k : Nat) {L : LS} {ρ : Val} {xs ys : List Value}, Oks L ρ l xs → Oks L ρ r ys →
  (Op.eqFields (m + k) xs.toArray ys.toArray fs).run P w = .ok b w
 | m, [], _, _, b, h => fun k L ρ xs ys hx hy => by
  have : b = true := by cases m <;> simpa [eqFs] using h.symm
  subst this
  rfl
 | 0, _ :: _, _, _, _, h => by simp [eqFs] at h
 | m + 1, f :: fs, l, r, b, h => fun k L ρ xs ys hx hy => by
  simp only [eqFs] at h
  split at h
  ·rename_i n hname hs
   split at h
   ·rename_i b1 h1
    have hne : f.name ≠ "_" := by simpa using hname
    have hxl := hx.length
    have hyl := hy.length
    have ox := (hx.drop f.offset).take n
    have oy := (hy.drop f.offset).take n
    have hk := eqT_kind h1
    -- the field's cells are all there
    have key : (∃ va, (part f.type xs.toArray f.offset).run P w = .ok va w ∧ Fits P f.type ((xs.drop f.offset).take n) va) ∧ (∃ vb, (part f.type ys.toArray f.offset).run P w = .ok vb w ∧ Fits P f.type ((ys.drop f.offset).take n) vb) := by
     rcases hk with ⟨gs, hu⟩ | ⟨hp, hl1, hr1⟩
     ·constructor
      ·obtain ⟨i, hi, rfl⟩ := sizeOfT_out hs
       have h2 := run_isAgg_struct (w := w) hu
       have h3 := run_sizeOf' (w := w) hi
       refine ⟨.agg ((xs.drop f.offset).take i.size).toArray, ?_, by unfold Fits; rw [hu]⟩
       unfold part
       simp only [Sem.run_bind, h2, Result.andThen_ok, if_true, h3, Sem.run_pure]
       congr 2
       rw [List.extract_toArray, List.extract_eq_take_drop]
       congr 2
       omega
      ·obtain ⟨i, hi, rfl⟩ := sizeOfT_out hs
       have h2 := run_isAgg_struct (w := w) hu
       have h3 := run_sizeOf' (w := w) hi
       refine ⟨.agg ((ys.drop f.offset).take i.size).toArray, ?_, by unfold Fits; rw [hu]⟩
       unfold part
       simp only [Sem.run_bind, h2, Result.andThen_ok, if_true, h3, Sem.run_pure]
       congr 2
       rw [List.extract_toArray, List.extract_eq_take_drop]
       congr 2
       omega
     ·have h2 := run_isAgg_plain (w := w) hp
      obtain ⟨d, hu, hd, _⟩ := isPlain_out hp
      have one : ∀ (zs : List Value), ((zs.drop f.offset).take n).length = 1 → ∃ va, (part f.type zs.toArray f.offset).run P w = .ok va w ∧ Fits P f.type ((zs.drop f.offset).take n) va := by
       intro zs hz
       have hlt : f.offset < zs.length := by
        rw [List.length_take, List.length_drop] at hz
        omega
       have hc : (zs.drop f.offset).take n = [zs[f.offset]] := by
        have h4 := hz
        rw [List.drop_eq_getElem_cons hlt] at h4 ⊢
        cases n with
        | zero => simp at h4
        | succ n =>
         simp only [List.take_succ_cons, List.length_cons] at h4 ⊢
         rw [List.eq_nil_of_length_eq_zero (by omega : (List.take n (List.drop (f.offset + 1) zs)).length = 0)]
       refine ⟨zs[f.offset], ?_, ?_⟩
       ·unfold part
        simp only [Sem.run_bind, h2, Result.andThen_ok, Bool.false_eq_true, if_false, List.getElem?_toArray, List.getElem?_eq_getElem hlt, Sem.run_pure]
       ·rw [hc]
        unfold Fits
        rw [hu]
        cases d <;> first | rfl | exact (hd _ rfl).elim
      exact ⟨one xs (by rw [ox.length]; exact hl1), one ys (by rw [oy.length]; exact hr1)⟩
    obtain ⟨⟨va, hva, fa⟩, vb, hvb, fb⟩ := key
    have h2 := eqT_run m h1 (k + 1) ox oy fa fb
    have e : m + (k + 1) = m + 1 + k := by omega
    rw [e] at h2
    simp only [Op.eqFields, hne, ne_eq, not_false_eq_true, if_true, Sem.run_bind, hva, Result.andThen_ok, hvb, h2]
    split at h
    ·obtain rfl := Option.some.inj h
     cases b1 <;> simp [Op.eqFields]
    ·rename_i fs' hfs
     split at h
     ·rename_i c hc
      obtain rfl := Option.some.inj h
      have h3 := eqFs_run m hc (k + 1) hx hy
      rw [e] at h3
      cases b1
      ·simp
      ·simpa using h3
     ·cases h
   ·cases h
  ·cases h
end

theorem run_bin_eq_agg {t : TypeId} {x y : Operand} (hg : P.eqGuardType P.depth t = false) {l r : List SC} {b : Bool} (h : eqT P 100 t l r = some b) {L : LS} {ρ : Val} {xs ys : List Value} (hx : Oks L ρ l xs) (hy : Oks L ρ r ys) (hu : ∃ fs, P.underlying t = some (.struct fs)) :
  (do eqGuard .eql t x y (.agg xs.toArray) (.agg ys.toArray); binOp .eql t (.agg xs.toArray) (.agg ys.toArray) : Sem Value).run P w = .ok (.bool b) w := by
 obtain ⟨fs, hu⟩ := hu
 have h1 := eqT_run (w := w) 100 h 9900 hx hy (vx := .agg xs.toArray) (vy := .agg ys.toArray) (by unfold Fits; rw [hu]) (by unfold Fits; rw [hu])
 rw [Sem.run_bind, run_eqGuard_agg w .eql t x y _ _ hg, Result.andThen_ok, run_eql_struct, h1]
 rfl

theorem run_bin_ne_agg {t : TypeId} {x y : Operand} (hg : P.eqGuardType P.depth t = false) {l r : List SC} {b : Bool} (h : eqT P 100 t l r = some b) {L : LS} {ρ : Val} {xs ys : List Value} (hx : Oks L ρ l xs) (hy : Oks L ρ r ys) (hu : ∃ fs, P.underlying t = some (.struct fs)) :
  (do eqGuard .neq t x y (.agg xs.toArray) (.agg ys.toArray); binOp .neq t (.agg xs.toArray) (.agg ys.toArray) : Sem Value).run P w = .ok (.bool (!b)) w := by
 obtain ⟨fs, hu⟩ := hu
 have h1 := eqT_run (w := w) 100 h 9900 hx hy (vx := .agg xs.toArray) (vy := .agg ys.toArray) (by unfold Fits; rw [hu]) (by unfold Fits; rw [hu])
 rw [Sem.run_bind, run_eqGuard_agg w .neq t x y _ _ hg, Result.andThen_ok, run_neq_struct, h1]
 rfl


theorem run_storeBlk {t : TypeId} {n : Nat} (hs : sizeOfT P t = some n) {g off : Nat} {cur : Array Value} {bt : TypeId} (hg : w.heap[g]? = some (.cells cur bt (0, 0))) {v : Value} (hv : v.cells.size = n) (hl : off + n ≤ cur.size)
  (h1 : ∀ u ∈ v.cells.toList, u.oneCell' = true) :
  (Instr.storeAt t (.pointer (some ⟨g, off, none⟩)) v).run P w = .ok () (w.setRow g (cur.toList.take off ++ v.cells.toList ++ cur.toList.drop (off + n)).toArray) := by
 obtain ⟨i, hi, rfl⟩ := sizeOfT_out hs
 have h2 := run_sizeOf' (w := w) hi
 have hst : ∀ (vs : List Value) (k : Nat) (w : World) (cur : Array Value), w.heap[g]? = some (.cells cur bt (0, 0)) → off + k + vs.length ≤ cur.size → (∀ u ∈ vs, u.oneCell' = true) →
   (storeCells ⟨g, off, none⟩ vs k).run P w = .ok () (w.setRow g (cur.toList.take (off + k) ++ vs ++ cur.toList.drop (off + k + vs.length)).toArray) :=
  fun vs k w cur hg hl h1 => run_storeCells_at P g off bt vs k cur w hg hl h1
 have h3 := hst v.cells.toList 0 w cur hg (by simp; omega) h1
 unfold Instr.storeAt
 simp only [Sem.run_bind, Instr.sureAddr, Sem.run_pure, Result.andThen_ok, storeVar, h2, hv, ne_eq, not_true_eq_false, if_false, h3]
 simp [hv]

theorem run_bytesString {ad : Addr} {ns : List Int} {c : Nat} (hc : ∀ j u, (cells .u8 ns)[j]? = some u → w.cell? (ad.add j) = some u) :
  (Conv.bytesToString (.slice (some ad) ns.length c)).run P w = .ok (.string ⟨(ns.map fun n => UInt8.ofNat n.toNat).toArray⟩) w := by
 have hlen : (cells .u8 ns).length = ns.length := by rw [cells_length]; show ns.length * 1 = _; omega
 have h1 := run_loadCells_list (P := P) w ad (cells .u8 ns) hc
 rw [hlen] at h1
 have hcs : cells .u8 ns = ns.map fun n => Value.int .u8 n := by
  clear hc h1 hlen
  induction ns with
  | nil => rfl
  | cons n ns ih => rw [cells_cons, ih]; rfl
 rw [hcs] at h1
 unfold Conv.bytesToString
 simp only [Sem.run_bind, h1, Result.andThen_ok]
 rw [← Array.forIn_toList]
 have key : ∀ (m : String) (l : List Int) (s : ByteArray), Sem.run P (do
   let r ← forIn (l.map fun n => Value.int .u8 n) s fun c r => (match c with
    | .int .u8 n => do pure (ForInStep.yield (r.push (UInt8.ofNat n.toNat)))
    | _ => stuck m : Sem (ForInStep ByteArray))
   pure (Value.string r)) w = .ok (.string ⟨s.data ++ (l.map fun n => UInt8.ofNat n.toNat).toArray⟩) w := by
  intro m l
  induction l with
  | nil => intro s; simp
  | cons n l ih =>
   intro s
   have h2 := ih (s.push (UInt8.ofNat n.toNat))
   rw [List.map_cons, List.forIn_cons]
   simp only [Sem.run_bind, Sem.run_pure, Result.andThen_ok] at h2 ⊢
   rw [h2]
   simp [ByteArray.push]
 have h3 := key (toString 0) ns .empty

 simpa using h3
end
end Go.Eng

namespace Go.Eng
open Go.RowKit

def Arg (vs : List SV) (g : Option Bool) (A : Sides) (o : Operand) (x : SA) : Prop :=
 ∀ (L : LS) (ρ : Val) (a : Act), a.tmps.size = vs.length → (∀ t, o = .tmp t → L.v t = vs.getD t .any) → (∀ (i : Nat) (v : Value), a.tmps[i]? = some v → SV.ok L ρ (L.v i) v) → Sd A → GT g → SA.ok L ρ x (a.eval o)

theorem Arg.mono {vs : List SV} {g : Option Bool} {A A' : Sides} {o : Operand} {x : SA} (h : Arg vs g A o x) (hs : ∀ p ∈ A, p ∈ A') : Arg vs g A' o x :=
 fun L ρ a h1 h2 h3 h4 h5 => h L ρ a h1 h2 h3 (h4.mono hs) h5

def Argv (vs : List SV) (o : Operand) (x : SV) : Prop :=
 ∀ (L : LS) (ρ : Val) (a : Act), a.tmps.size = vs.length → (∀ t, o = .tmp t → L.v t = vs.getD t .any) → (∀ (i : Nat) (v : Value), a.tmps[i]? = some v → SV.ok L ρ (L.v i) v) → SV.ok L ρ x (a.eval o)

theorem opK_out {vs : List SV} {o : Operand} {K : SV → Prop} (h : opK vs o K) : ∃ x, K x ∧ Argv vs o x := by
 unfold opK at h
 split at h
 ·rename_i t
  obtain ⟨x, hx, hK⟩ := getK_out h
  refine ⟨x, hK, fun L ρ a hs hL hv => ?_⟩
  have hlt : t < vs.length := (List.getElem?_eq_some_iff.1 hx).1
  have hlt' : t < a.tmps.size := by rw [hs]; exact hlt
  have e : L.v t = x := by rw [hL t rfl]; simp [List.getD, hx]
  have := hv t _ (Array.getElem?_eq_getElem hlt')
  rw [e] at this
  show SV.ok L ρ x (a.tmps.getD t undef)
  rw [Array.getD_eq_getD_getElem?, Array.getElem?_eq_getElem hlt']
  exact this
 ·rename_i v
  split at h
  ·rename_i x hx
   exact ⟨.a x, h, fun L ρ a _ _ _ => valOf_ok hx L ρ⟩
  ·exact ⟨.any, h, fun _ _ _ _ _ _ => trivial⟩
 ·exact h.elim

theorem unG_out {g : Option Bool} {A : Sides} {v : SV} {K : SA → Sides → Prop} (h : unG g A v K) :
  ∃ x A', K x A' ∧ (∀ p ∈ A, p ∈ A') ∧ ∀ L ρ u, SV.ok L ρ v u → Sd A' → GT g → SA.ok L ρ x u := by
 unfold unG at h
 split at h
 ·exact ⟨_, _, h, fun p hp => hp, fun L ρ u hu _ _ => hu⟩
 ·split at h
  ·refine ⟨_, _, h, fun p hp => List.mem_cons_of_mem _ hp, fun L ρ u hu hs _ => hu.1 hs.head⟩
  ·rename_i p
   refine ⟨_, _, h, fun p hp => List.mem_cons_of_mem _ hp, fun L ρ u hu hs hg => hu.1 (hs.head (hg p rfl))⟩
 ·exact h.elim

theorem argK_out {vs : List SV} {g : Option Bool} {A : Sides} {o : Operand} {K : SA → Sides → Prop} (h : argK vs g A o K) :
  ∃ x A', K x A' ∧ (∀ p ∈ A, p ∈ A') ∧ Arg vs g A' o x := by
 obtain ⟨v, hv, ha⟩ := opK_out h
 obtain ⟨x, A', hK, hs, hx⟩ := unG_out hv
 exact ⟨x, A', hK, hs, fun L ρ a h1 h2 h3 h4 h5 => hx L ρ _ (ha L ρ a h1 h2 h3) h4 h5⟩

inductive ArgsR (vs : List SV) (g : Option Bool) (A : Sides) : List Operand → List SA → Prop where
 | nil : ArgsR vs g A [] []
 | cons {o : Operand} {x : SA} {os : List Operand} {xs : List SA} : Arg vs g A o x → ArgsR vs g A os xs → ArgsR vs g A (o :: os) (x :: xs)

theorem ArgsR.mono {vs : List SV} {g : Option Bool} {A A' : Sides} {os : List Operand} {xs : List SA} (h : ArgsR vs g A os xs) (hs : ∀ p ∈ A, p ∈ A') : ArgsR vs g A' os xs := by
 induction h with
 | nil => exact .nil
 | cons h _ ih => exact .cons (h.mono hs) ih

theorem ArgsR.free {vs : List SV} {g : Option Bool} {A : Sides} {os : List Operand} {xs : List SA} (hg : GT g) (h : ArgsR vs g A os xs) : ArgsR vs none A os xs := by
 induction h with
 | nil => exact .nil
 | cons h _ ih => exact .cons (fun L ρ a h1 h2 h3 h4 _ => h L ρ a h1 h2 h3 h4 hg) ih

theorem argsK_out {vs : List SV} {g : Option Bool} {os : List Operand} {A : Sides} {K : List SA → Sides → Prop} (h : argsK vs g os A K) :
  ∃ xs A', K xs A' ∧ (∀ p ∈ A, p ∈ A') ∧ ArgsR vs g A' os xs := by
 induction os generalizing A K with
 | nil => exact ⟨[], A, h, fun p hp => hp, .nil⟩
 | cons o os ih =>
  obtain ⟨x, A1, h1, s1, a1⟩ := argK_out h
  obtain ⟨xs, A2, h2, s2, a2⟩ := ih h1
  exact ⟨x :: xs, A2, h2, fun p hp => s2 p (s1 p hp), .cons (a1.mono s2) a2⟩

theorem ArgsR.ok {vs : List SV} {g : Option Bool} {A : Sides} {os : List Operand} {xs : List SA} (h : ArgsR vs g A os xs) {L : LS} {ρ : Val} {a : Act} (h1 : a.tmps.size = vs.length)
  (h2 : ∀ t, Operand.tmp t ∈ os → L.v t = vs.getD t .any) (h3 : ∀ (i : Nat) (v : Value), a.tmps[i]? = some v → SV.ok L ρ (L.v i) v) (h4 : Sd A) (h5 : GT g) : OkAs L ρ xs (os.map a.eval) := by
 induction h with
 | nil => exact .nil
 | cons h _ ih => exact .cons (h L ρ a h1 (fun t e => h2 t (e ▸ List.mem_cons_self)) h3 h4 h5) (ih fun t ht => h2 t (List.mem_cons_of_mem _ ht))

theorem rowK_out {rs : List (Nat × Option Row)} {g : Option Bool} {A : Sides} {r : Nat} {K : Row → Sides → Prop} (h : rowK rs g A r K) :
  ∃ x A', K x A' ∧ (∀ p ∈ A, p ∈ A') ∧ find rs r = some (some x) ∧ (Sd A' → GT g → x.live) := by
 obtain ⟨y, hf, hK⟩ := lookK_out h
 split at hK
 ·exact hK.elim
 ·exact ⟨_, A, hK, fun p hp => hp, hf, fun _ _ => Row.live_none⟩
 ·rename_i q
  split at hK
  ·exact ⟨_, _, hK, fun p hp => List.mem_cons_of_mem _ hp, hf, fun hs _ q' hq => by
    obtain rfl : q = q' := Option.some.inj hq
    exact hs.head⟩
  ·rename_i p
   exact ⟨_, _, hK, fun p hp => List.mem_cons_of_mem _ hp, hf, fun hs hg q' hq => by
    obtain rfl : q = q' := Option.some.inj hq
    exact hs.head (hg p rfl)⟩

structure Quiet (p : Bool) (e : Eff) : Prop where
 nb : e.nb = none
 kill : e.kill = []
 upd : e.upd = []
 sb : e.sb = []
 v : ∃ x, e.v = .grd p x
 nr : ∀ k x, find e.nr k = some x → x.g = some p

def EffOk (E : Env) (vs : List SV) (bs : List (Nat × Blk)) (rs : List (Nat × Option Row)) (o : Oper) (g : Option Bool) (A : Sides) (e : Eff) : Prop :=
 (∀ p, g = some p → p = false → Quiet p e) ∧ ∀ (w0 : World) (C : List Nat) (L : LS) (ρ : Val) (a : Act) (w : World) (next : Act → World → Prop) (Q : Exit → Act → World → Prop),
  (∀ t, Operand.tmp t ∈ o.op.operands.toList → L.v t = vs.getD t .any) → (∀ r ∈ e.rd, L.r r = find rs r) → (∀ k ∈ e.bd, L.b k = find bs k) →
  Sd A → GT g → Den E w0 C vs.length L ρ a w → Fresh L o.dst e →
  (∀ ρ' v w', Den E w0 C vs.length (L.app o.dst e) ρ' (a.put o.dst v) w' → next (a.put o.dst v) w') → o.wp E.P a w next Q

section
variable {E : Env} {vs : List SV} {bs : List (Nat × Blk)} {rs : List (Nat × Option Row)} {o : Oper} {g : Option Bool} {A : Sides}

theorem EffOk.val {V : SV} {rd bd : List Nat}
  (h : ∀ (w0 : World) (C : List Nat) (L : LS) (ρ : Val) (a : Act) (w : World), (∀ t, Operand.tmp t ∈ o.op.operands.toList → L.v t = vs.getD t .any) → (∀ r ∈ rd, L.r r = find rs r) → (∀ k ∈ bd, L.b k = find bs k) →
   Sd A → GT g → Den E w0 C vs.length L ρ a w → ∃ v, (execOp a.eval o).run E.P w = .ok (.value v) w ∧ SV.ok L ρ V v)
  (hq : ∀ p, g = some p → ∃ x, V = .grd p x := by intro p hp; cases hp; try exact ⟨_, rfl⟩) : EffOk E vs bs rs o g A ⟨V, none, [], [], [], [], rd, bd⟩ := by
 refine ⟨fun p hp _ => ⟨rfl, rfl, rfl, rfl, hq p hp, fun k x hx => by cases hx⟩, ?_⟩
 intro w0 C L ρ a w next Q h1 h2 h3 h4 h5 hD _ hn
 obtain ⟨v, hr, hv⟩ := h w0 C L ρ a w h1 h2 h3 h4 h5 hD
 unfold Oper.wp
 rw [hr, Oper.upon_value]
 exact hn ρ v w (hD.val hv)

theorem wrapG_ok {L : LS} {ρ : Val} {x : SA} {v : Value} (hg : GT g) (h : SA.ok L ρ x v) : SV.ok L ρ (wrapG g x) v := by
 cases g with
 | none => exact h
 | some p =>
  refine ⟨fun _ => h, fun hf => ?_⟩
  have := hg p rfl
  rw [hf] at this
  cases this

theorem leafK_out {rd bd : List Nat} {A : Sides} {x : SA} {K : Eff → Sides → Prop} (h : leafK g rd bd A x K) : K ⟨wrapG g x, none, [], [], [], [], rd, bd⟩ A := h

theorem dstK_out {d : Option Nat} {K : Nat → Prop} (h : dstK d K) : ∃ k, d = some k ∧ K k := by
 unfold dstK at h
 split at h
 ·exact ⟨_, rfl, h⟩
 ·exact h.elim

theorem run_value {P : Program} {w : World} {s : Sem Value} {v : Value} (h : s.run P w = .ok v w) : (do pure (Next.value (← s)) : Sem Next).run P w = .ok (.value v) w := by
 rw [Sem.run_bind, h]; rfl

theorem Den.args {w0 : World} {C : List Nat} {L : LS} {ρ : Val} {a : Act} {w : World} (hD : Den E w0 C vs.length L ρ a w) {x : Operand} {y : SA} (h : Arg vs g A x y) (hx : ∀ t, x = .tmp t → L.v t = vs.getD t .any) (hs : Sd A) (hg : GT g) : SA.ok L ρ y (a.eval x) :=
 h L ρ a hD.size hx hD.slots hs hg

theorem ok_int {L : LS} {ρ : Val} {x : SA} {n : Int} {v : Value} (h : intArg x = some n) (hv : SA.ok L ρ x v) : v = .int .i64 n := by
 unfold intArg at h
 split at h
 ·obtain rfl := Option.some.inj h; exact hv
 ·cases h

theorem ok_bool {L : LS} {ρ : Val} {x : SA} {b : Bool} {v : Value} (h : boolArg x = some b) (hv : SA.ok L ρ x v) : v = .bool b := by
 unfold boolArg at h
 split at h
 ·obtain rfl := Option.some.inj h; exact hv
 ·cases h

theorem eff_move {x : Operand} (ho : o.op = .move x ∨ o.op = .assign x) {K : Eff → Sides → Prop}
  (h : opK vs x fun v => match g, v with
   | none, v => K ⟨v, none, [], [], [], [], [], []⟩ A
   | some p, .a x => K ⟨.grd p x, none, [], [], [], [], [], []⟩ A
   | some p, .grd q x => K ⟨.grd p x, none, [], [], [], [], [], []⟩ ((p = true → q = true) :: A)
   | _, _ => False) : ∃ e A', K e A' ∧ (∀ p ∈ A, p ∈ A') ∧ EffOk E vs bs rs o g A' e := by
 have hr : ∀ (a : Act) (w : World), (execOp a.eval o).run E.P w = .ok (.value (a.eval x)) w := fun a w => by
  rcases ho with ho | ho <;> simp only [execOp, ho] <;> rfl
 have hx : ∀ t, x = .tmp t → Operand.tmp t ∈ o.op.operands.toList := fun t e => by
  subst e
  rcases ho with ho | ho <;> simp [ho, Op.operands]
 obtain ⟨v, hv, ha⟩ := opK_out h
 split at hv
 ·exact ⟨_, _, hv, fun p hp => hp, .val fun w0 C L ρ a w h1 _ _ _ _ hD => ⟨_, hr a w, ha L ρ a hD.size (fun t e => h1 t (hx t e)) hD.slots⟩⟩
 ·exact ⟨_, _, hv, fun p hp => hp, .val fun w0 C L ρ a w h1 _ _ _ hg hD => ⟨_, hr a w, wrapG_ok hg (ha L ρ a hD.size (fun t e => h1 t (hx t e)) hD.slots)⟩⟩
 ·rename_i p q y
  exact ⟨_, _, hv, fun p hp => List.mem_cons_of_mem _ hp, .val fun w0 C L ρ a w h1 _ _ hs hg hD => ⟨_, hr a w, wrapG_ok hg ((ha L ρ a hD.size (fun t e => h1 t (hx t e)) hD.slots).1 (hs.head (hg p rfl)))⟩⟩
 ·exact hv.elim
end
end Go.Eng

namespace Go.Eng
open Go.RowKit

theorem add_lit (g off j : Nat) : (⟨g, off, none⟩ : Addr).add j = ⟨g, off + j, none⟩ := by
 unfold Addr.add
 split
 ·rename_i h; subst h; rfl
 ·rfl

section
variable {E : Env} {vs : List SV} {bs : List (Nat × Blk)} {rs : List (Nat × Option Row)} {o : Oper} {g : Option Bool} {A : Sides}

theorem Den.blkCell {w0 : World} {C : List Nat} {n : Nat} {L : LS} {ρ : Val} {a : Act} {w : World} (hD : Den E w0 C n L ρ a w) {k : Nat} {b : Blk} (hb : L.b k = some b) :
  ∃ us, Oks L ρ b.cs us ∧ ∀ i u, us[i]? = some u → w.cell? ⟨ρ.bl k, i, none⟩ = some u := by
 obtain ⟨us, hg, hs⟩ := hD.blks k b hb
 exact ⟨us.toList, hs, fun i u hu => by rw [cell_of_row w _ i us b.t (0, 0) hg]; simpa using hu⟩

theorem oks_leaves {L : LS} {ρ : Val} (ls : List Leaf) : Oks L ρ (ls.map .leaf) (ls.map Leaf.val) := by
 induction ls with
 | nil => exact .nil
 | cons l ls ih => exact .cons rfl ih

theorem eff_load {t : TypeId} {x : Operand} (ho : o.op = .load t x) {K : Eff → Sides → Prop} (h : argK vs g A x fun v A => loadK E t bs rs g A v K) :
  ∃ e A', K e A' ∧ (∀ p ∈ A, p ∈ A') ∧ EffOk E vs bs rs o g A' e := by
 have hr : ∀ (a : Act) (w : World) (u : Value), (Instr.loadAt t (a.eval x)).run E.P w = .ok u w → (execOp a.eval o).run E.P w = .ok (.value u) w := fun a w u h => by
  simp only [execOp, ho]
  exact run_value h
 have hx : ∀ t, x = .tmp t → Operand.tmp t ∈ o.op.operands.toList := fun t e => by simp [ho, Op.operands, e]
 obtain ⟨v, A1, h1, s1, a1⟩ := argK_out h
 unfold loadK at h1
 split at h1
 ·rename_i k off
  obtain ⟨b, hb, h2⟩ := lookK_out h1
  obtain ⟨bt, bcs⟩ := b
  simp only at h2
  split at h2
  ·rename_i n hn
   obtain ⟨hlen, h3⟩ := subK_out h2
   refine ⟨_, A1, leafK_out h3, s1, .val fun w0 C L ρ a w hL _ hB hs hg hD => ?_⟩
   have hv := hD.args a1 (fun t e => hL t (hx t e)) hs hg
   obtain ⟨_, hv⟩ : (∃ b, L.b k = some b) ∧ a.eval x = .pointer (some ⟨ρ.bl k, off, none⟩) := hv
   obtain ⟨us, hus, hc⟩ := hD.blkCell (k := k) (b := ⟨bt, bcs⟩) (by rw [hB k List.mem_cons_self]; exact hb)
   have hl := hus.length
   refine ⟨.agg ((us.drop off).take n).toArray, hr a w _ ?_, wrapG_ok hg ⟨_, rfl, (hus.drop off).take n⟩⟩
   rw [hv]
   refine run_loadAgg hn (by rw [List.length_take, List.length_drop, hl]; simp only; omega) fun j u hu => ?_
   rw [add_lit]
   refine hc _ _ ?_
   rw [List.getElem?_take] at hu
   split at hu
   ·rw [List.getElem?_drop] at hu; exact hu
   ·cases hu
  ·split at h2
   ·rename_i hp
    obtain ⟨c, hc0, h3⟩ := getK_out h2
    refine ⟨_, A1, leafK_out h3, s1, .val fun w0 C L ρ a w hL _ hB hs hg hD => ?_⟩
    have hv := hD.args a1 (fun t e => hL t (hx t e)) hs hg
    obtain ⟨_, hv⟩ : (∃ b, L.b k = some b) ∧ a.eval x = .pointer (some ⟨ρ.bl k, off, none⟩) := hv
    obtain ⟨us, hus, hc⟩ := hD.blkCell (k := k) (b := ⟨bt, bcs⟩) (by rw [hB k List.mem_cons_self]; exact hb)
    obtain ⟨u, hu, hok⟩ := hus.get hc0
    refine ⟨u, hr a w _ ?_, wrapG_ok hg hok⟩
    rw [hv]
    exact run_loadOne hp (hc _ _ hu)
   ·exact h2.elim
 ·rename_i r i off
  obtain ⟨row, A2, h2, s2, hf, hlive⟩ := rowK_out h1
  obtain ⟨ty, xs, own, rg⟩ := row
  simp only at h2
  have cellAt : ∀ (w0 : World) (C : List Nat) (L : LS) (ρ : Val) (a : Act) (w : World), (∀ t, Operand.tmp t ∈ o.op.operands.toList → L.v t = vs.getD t .any) → (∀ q ∈ [r], L.r q = find rs q) → Sd A2 → GT g → Den E w0 C vs.length L ρ a w →
    ∃ ad, a.eval x = .pointer (some ad) ∧ ∀ j l, (ty.lv (xs.getD i ty.zero))[off + j]? = some l → w.cell? (ad.add j) = some l.val := by
   intro w0 C L ρ a w hL hR hs hg hD
   have hv := hD.args (a1.mono s2) (fun t e => hL t (hx t e)) hs hg
   obtain ⟨_, e, he, hv⟩ : (∃ a', a.eval x = .pointer a') ∧ ∃ e, L.r r = some e ∧ ∀ x', e = some x' → x'.live → i < x'.xs.length ∧ ∃ ad, ρ.ra r = some ad ∧ a.eval x = .pointer (some (ad.add (i * x'.t.n + off))) := hv
   have hLr : L.r r = some (some ⟨ty, xs, own, rg⟩) := by rw [hR r List.mem_cons_self]; exact hf
   obtain rfl : e = some ⟨ty, xs, own, rg⟩ := Option.some.inj (he.symm.trans hLr)
   have hl := hlive hs hg
   obtain ⟨hi, ad, had, hv⟩ := hv _ rfl hl
   have hrd := (hD.rows r _ hLr).rd hl
   refine ⟨_, hv, fun j l hl' => ?_⟩
   simp only at hi hrd
   have hjn : off + j < ty.n := by
    have := (List.getElem?_eq_some_iff.1 hl').1
    rwa [ETy.lv_length] at this
   have hcell := cells_get ty xs ty.zero i hi (off + j) hjn
   rw [hl', Option.map_some] at hcell
   obtain ⟨ad', had', hc⟩ := hrd.cell _ _ hcell
   obtain rfl : ad = ad' := Option.some.inj (had.symm.trans had')
   rw [add_of_add, Nat.add_assoc]
   exact hc
  split at h2
  ·rename_i n hn
   obtain ⟨hlen, h3⟩ := subK_out h2
   refine ⟨_, A2, leafK_out h3, fun p hp => s2 p (s1 p hp), .val fun w0 C L ρ a w hL hR hB hs hg hD => ?_⟩
   obtain ⟨ad, hv, hc⟩ := cellAt w0 C L ρ a w hL hR hs hg hD
   have hok := oks_leaves (L := L) (ρ := ρ) (((ty.lv (xs.getD i ty.zero)).drop off).take n)
   refine ⟨.agg ((((ty.lv (xs.getD i ty.zero)).drop off).take n).map Leaf.val).toArray, hr a w _ ?_, wrapG_ok hg ⟨_, rfl, hok⟩⟩
   rw [hv]
   refine run_loadAgg hn (by rw [List.length_map, List.length_take, List.length_drop]; omega) fun j u hu => ?_
   rw [List.getElem?_map, List.getElem?_take] at hu
   split at hu
   ·rw [List.getElem?_drop, Option.map_eq_some_iff] at hu
    obtain ⟨l, hl, rfl⟩ := hu
    exact hc j l hl
   ·cases hu
  ·split at h2
   ·rename_i hp
    obtain ⟨l, hl, h3⟩ := getK_out h2
    refine ⟨_, A2, leafK_out h3, fun p hp => s2 p (s1 p hp), .val fun w0 C L ρ a w hL hR hB hs hg hD => ?_⟩
    obtain ⟨ad, hv, hc⟩ := cellAt w0 C L ρ a w hL hR hs hg hD
    refine ⟨l.val, hr a w _ ?_, wrapG_ok hg (show SC.ok L ρ (.leaf l) l.val from rfl)⟩
    rw [hv]
    have := hc 0 l hl
    exact run_loadOne hp (by simpa [Addr.add] using this)
   ·exact h2.elim
 ·exact h1.elim

theorem eff_nilCheck {x : Operand} (ho : o.op = .nilCheck x) {K : Eff → Sides → Prop}
  (h : argK vs g A x fun v A => match v with
   | .c (.ptr k off) => leafK g [] [] A (.c (.ptr k off)) K
   | .c (.ep r i off) => rowK rs g A r fun _ A => leafK g [r] [] A (.c (.ep r i off)) K
   | _ => False) : ∃ e A', K e A' ∧ (∀ p ∈ A, p ∈ A') ∧ EffOk E vs bs rs o g A' e := by
 have hx : ∀ t, x = .tmp t → Operand.tmp t ∈ o.op.operands.toList := fun t e => by simp [ho, Op.operands, e]
 obtain ⟨v, A1, h1, s1, a1⟩ := argK_out h
 split at h1
 ·rename_i k off
  refine ⟨_, A1, leafK_out h1, s1, .val fun w0 C L ρ a w hL _ hB hs hg hD => ?_⟩
  have hv := hD.args a1 (fun t e => hL t (hx t e)) hs hg
  have hv' := hv
  obtain ⟨_, hv'⟩ : (∃ b, L.b k = some b) ∧ a.eval x = .pointer (some ⟨ρ.bl k, off, none⟩) := hv'
  refine ⟨a.eval x, ?_, wrapG_ok hg hv⟩
  simp only [execOp, ho, hv']
  rfl
 ·rename_i r i off
  obtain ⟨row, A2, h2, s2, hf, hlive⟩ := rowK_out h1
  refine ⟨_, A2, leafK_out h2, fun p hp => s2 p (s1 p hp), .val fun w0 C L ρ a w hL hR hB hs hg hD => ?_⟩
  have hv := hD.args (a1.mono s2) (fun t e => hL t (hx t e)) hs hg
  have hv' := hv
  obtain ⟨_, e, he, hv'⟩ : (∃ a', a.eval x = .pointer a') ∧ ∃ e, L.r r = some e ∧ ∀ x', e = some x' → x'.live → i < x'.xs.length ∧ ∃ ad, ρ.ra r = some ad ∧ a.eval x = .pointer (some (ad.add (i * x'.t.n + off))) := hv'
  have hLr : L.r r = some (some row) := by rw [hR r List.mem_cons_self]; exact hf
  obtain rfl : e = some row := Option.some.inj (he.symm.trans hLr)
  obtain ⟨_, ad, _, hv'⟩ := hv' _ rfl (hlive hs hg)
  refine ⟨a.eval x, ?_, wrapG_ok hg hv⟩
  simp only [execOp, ho, hv']
  rfl
 ·exact h1.elim

theorem eff_field {t : TypeId} {x : Operand} {f : Nat} (ho : o.op = .fieldAddr t x f) {K : Eff → Sides → Prop}
  (h : argK vs g A x fun v A => match v, fieldOff E.P t f with
   | .c (.ptr k off), some n => leafK g [] [] A (.c (.ptr k (Nat.add off n))) K
   | .c (.ep r i off), some n => rowK rs g A r fun _ A => leafK g [r] [] A (.c (.ep r i (Nat.add off n))) K
   | _, _ => False) : ∃ e A', K e A' ∧ (∀ p ∈ A, p ∈ A') ∧ EffOk E vs bs rs o g A' e := by
 have hx : ∀ t, x = .tmp t → Operand.tmp t ∈ o.op.operands.toList := fun t e => by simp [ho, Op.operands, e]
 obtain ⟨v, A1, h1, s1, a1⟩ := argK_out h
 split at h1
 ·rename_i k off n hn
  refine ⟨_, A1, leafK_out h1, s1, .val fun w0 C L ρ a w hL _ hB hs hg hD => ?_⟩
  have hv := hD.args a1 (fun t e => hL t (hx t e)) hs hg
  obtain ⟨hb, hv⟩ : (∃ b, L.b k = some b) ∧ a.eval x = .pointer (some ⟨ρ.bl k, off, none⟩) := hv
  refine ⟨.pointer (some ⟨ρ.bl k, off + n, none⟩), ?_, wrapG_ok hg ⟨hb, rfl⟩⟩
  simp only [execOp, ho, hv]
  rw [← add_lit]
  exact run_value (run_field hn)
 ·rename_i r i off n hn
  obtain ⟨row, A2, h2, s2, hf, hlive⟩ := rowK_out h1
  refine ⟨_, A2, leafK_out h2, fun p hp => s2 p (s1 p hp), .val fun w0 C L ρ a w hL hR hB hs hg hD => ?_⟩
  have hv := hD.args (a1.mono s2) (fun t e => hL t (hx t e)) hs hg
  obtain ⟨_, e, he, hv⟩ : (∃ a', a.eval x = .pointer a') ∧ ∃ e, L.r r = some e ∧ ∀ x', e = some x' → x'.live → i < x'.xs.length ∧ ∃ ad, ρ.ra r = some ad ∧ a.eval x = .pointer (some (ad.add (i * x'.t.n + off))) := hv
  have hLr : L.r r = some (some row) := by rw [hR r List.mem_cons_self]; exact hf
  obtain rfl : e = some row := Option.some.inj (he.symm.trans hLr)
  have hl := hlive hs hg
  obtain ⟨hi, ad, had, hv⟩ := hv _ rfl hl
  refine ⟨.pointer (some (ad.add (i * row.t.n + (off + n)))), ?_, wrapG_ok hg ⟨⟨_, rfl⟩, some row, hLr, fun x' hx' _ => by
   obtain rfl : row = x' := Option.some.inj hx'
   exact ⟨hi, ad, had, rfl⟩⟩⟩
  simp only [execOp, ho, hv]
  have e2 : (ad.add (i * row.t.n + off)).add n = ad.add (i * row.t.n + (off + n)) := by rw [add_of_add, Nat.add_assoc]
  rw [← e2]
  exact run_value (run_field hn)
 ·exact h1.elim

theorem eff_index {t : TypeId} {x i : Operand} (ho : o.op = .indexAddr t x i) {K : Eff → Sides → Prop}
  (h : argK vs g A x fun v A => argK vs g A i fun y A => match v, intArg y with
   | .c (.row r), some n => match elemOfT E.P t with
    | some e => match sizeOfT E.P e with
     | some sz => rowK rs g A r fun row A => match row with
      | ⟨ty, xs, _, _⟩ => match Nat.beq sz ty.n with
       | true => leafK g [r] [] (side g (0 ≤ n ∧ n < xs.length) A) (.c (.ep r n.toNat 0)) K
       | false => False
     | none => False
    | none => False
   | .c .nil, some _ => match elemOfT E.P t with
    | some _ => leafK g [] [] (side g False A) (.c .nil) K
    | none => False
   | _, _ => False) : ∃ e A', K e A' ∧ (∀ p ∈ A, p ∈ A') ∧ EffOk E vs bs rs o g A' e := by
 have hx : ∀ t, x = .tmp t → Operand.tmp t ∈ o.op.operands.toList := fun t e => by simp [ho, Op.operands, e]
 have hi : ∀ t, i = .tmp t → Operand.tmp t ∈ o.op.operands.toList := fun t e => by simp [ho, Op.operands, e]
 obtain ⟨v, A1, h1, s1, a1⟩ := argK_out h
 obtain ⟨y, A2, h2, s2, a2⟩ := argK_out h1
 split at h2
 ·rename_i r n hn
  split at h2
  ·rename_i e he
   split at h2
   ·rename_i sz hsz
    obtain ⟨row, A3, h3, s3, hf, hlive⟩ := rowK_out h2
    obtain ⟨ty, xs, own, rg⟩ := row
    simp only at h3
    split at h3
    ·rename_i hb
     obtain rfl := beq_true hb
     refine ⟨_, _, leafK_out h3, fun p hp => side_mem (s3 p (s2 p (s1 p hp))), .val fun w0 C L ρ a w hL hR hB hs hg hD => ?_⟩
     have hs3 : Sd A3 := hs.mono fun p hp => side_mem hp
     have hv := hD.args (a1.mono fun p hp => s3 p (s2 p hp)) (fun t e => hL t (hx t e)) hs3 hg
     have hw := ok_int hn (hD.args (a2.mono s3) (fun t e => hL t (hi t e)) hs3 hg)
     obtain ⟨h0, hlt⟩ := side_out hs hg
     obtain ⟨_, e', he', hv⟩ : (∃ a' n' c', a.eval x = .slice a' n' c') ∧ ∃ e, L.r r = some e ∧ ∀ x', e = some x' → x'.live → a.eval x = .slice (ρ.ra r) x'.xs.length (ρ.rc r) := hv
     have hLr : L.r r = some (some ⟨ty, xs, own, rg⟩) := by rw [hR r List.mem_cons_self]; exact hf
     obtain rfl : e' = some ⟨ty, xs, own, rg⟩ := Option.some.inj (he'.symm.trans hLr)
     have hl := hlive hs3 hg
     have hv := hv _ rfl hl
     have hrd := (hD.rows r _ hLr).rd hl
     simp only at hv hrd
     have h0' : 0 < (cells ty xs).length := by rw [cells_length]; exact Nat.mul_pos (by omega) ty.n_pos
     obtain ⟨ad, had, _⟩ := hrd.cell 0 _ (List.getElem?_eq_getElem h0')
     refine ⟨.pointer (some (ad.add (n.toNat * ty.n))), ?_, wrapG_ok hg ⟨⟨_, rfl⟩, some ⟨ty, xs, own, rg⟩, hLr, fun x' hx' _ => by
      obtain rfl : Row.mk ty xs own rg = x' := Option.some.inj hx'
      exact ⟨by simp only; omega, ad, had, by simp⟩⟩⟩
     simp only [execOp, ho, hv, hw, had]
     exact run_value (run_index he hsz h0 hlt)
    ·exact h3.elim
   ·exact h2.elim
  ·exact h2.elim
 ·split at h2
  ·refine ⟨_, _, leafK_out h2, fun p hp => side_mem (s2 p (s1 p hp)), .val fun w0 C L ρ a w hL hR hB hs hg hD => ?_⟩
   exact (side_out hs hg).elim
  ·exact h2.elim
 ·exact h2.elim

theorem eff_extract {x : Operand} {i : Nat} (ho : o.op = .extract x i) {K : Eff → Sides → Prop}
  (h : opK vs x fun v => match v, g with
   | .tup l, none => getK l i fun x => leafK none [] [] A x K
   | _, _ => False) : ∃ e A', K e A' ∧ (∀ p ∈ A, p ∈ A') ∧ EffOk E vs bs rs o g A' e := by
 have hx : ∀ t, x = .tmp t → Operand.tmp t ∈ o.op.operands.toList := fun t e => by simp [ho, Op.operands, e]
 obtain ⟨v, h1, a1⟩ := opK_out h
 split at h1
 ·rename_i l
  obtain ⟨y, hy, h2⟩ := getK_out h1
  refine ⟨_, A, leafK_out h2, fun p hp => hp, .val fun w0 C L ρ a w hL hR hB hs hg hD => ?_⟩
  obtain ⟨us, hv, hus⟩ := a1 L ρ a hD.size (fun t e => hL t (hx t e)) hD.slots
  have key : ∀ {l : List SA} {us : List Value} {i : Nat}, OkAs L ρ l us → l[i]? = some y → ∃ u, us[i]? = some u ∧ SA.ok L ρ y u := by
   intro l us i h
   induction h generalizing i with
   | nil => intro h; simp at h
   | cons h0 _ ih =>
    intro hy
    cases i with
    | zero => simp at hy; subst hy; exact ⟨_, rfl, h0⟩
    | succ i => simpa using ih (by simpa using hy)
  obtain ⟨u, hu, hok⟩ := key hus hy
  refine ⟨u, ?_, hok⟩
  simp only [execOp, ho, hv, Instr.extract]
  rw [List.getElem?_toArray, hu]
  rfl
 ·exact h1.elim

theorem eff_pick {c x y : Operand} (ho : o.op = .pick c x y) {K : Eff → Sides → Prop}
  (h : argK vs g A c fun vc A => match boolArg vc with
   | some b =>
    match g with
    | none => argK vs (some b) A x fun vx A => argK vs (some (!b)) A y fun vy A => match boolArg vx, boolArg vy with
     | some p, some q => leafK g [] [] A (.c (.leaf (.bool (cond b p q)))) K
     | _, _ => False
    | some h => argK vs (some (h && b)) A x fun vx A => argK vs (some (h && !b)) A y fun vy A => match boolArg vx, boolArg vy with
     | some p, some q => leafK (some h) [] [] A (.c (.leaf (.bool (cond b p q)))) K
     | _, _ => False
   | none => False) : ∃ e A', K e A' ∧ (∀ p ∈ A, p ∈ A') ∧ EffOk E vs bs rs o g A' e := by
 have hxc : ∀ t, c = .tmp t → Operand.tmp t ∈ o.op.operands.toList := fun t e => by simp [ho, Op.operands, e]
 have hxx : ∀ t, x = .tmp t → Operand.tmp t ∈ o.op.operands.toList := fun t e => by simp [ho, Op.operands, e]
 have hxy : ∀ t, y = .tmp t → Operand.tmp t ∈ o.op.operands.toList := fun t e => by simp [ho, Op.operands, e]
 obtain ⟨vc, A1, h1, s1, a1⟩ := argK_out h
 split at h1
 ·rename_i b hb
  have fin : ∀ (g1 g2 : Option Bool) (vx vy : SA) (A2 A3 : Sides) (p q : Bool), (GT g → b = true → GT g1) → (GT g → b = false → GT g2) → (∀ r ∈ A1, r ∈ A2) → (∀ r ∈ A2, r ∈ A3) → Arg vs g1 A2 x vx → Arg vs g2 A3 y vy → boolArg vx = some p → boolArg vy = some q →
    EffOk E vs bs rs o g A3 ⟨wrapG g (.c (.leaf (.bool (cond b p q)))), none, [], [], [], [], [], []⟩ := by
   intro g1 g2 vx vy A2 A3 p q hg1 hg2 s2 s3 ax ay hp hq
   refine .val fun w0 C L ρ a w hL hR hB hs hg hD => ?_
   have hvc := ok_bool hb (hD.args (a1.mono fun r hr => s3 r (s2 r hr)) (fun t e => hL t (hxc t e)) hs hg)
   refine ⟨.bool (cond b p q), ?_, wrapG_ok hg (show SC.ok L ρ (.leaf (.bool (cond b p q))) _ from rfl)⟩
   simp only [execOp, ho, hvc]
   cases b with
   | true =>
    have hv := ok_bool hp (hD.args (ax.mono s3) (fun t e => hL t (hxx t e)) hs (hg1 hg rfl))
    rw [hv]; rfl
   | false =>
    have hv := ok_bool hq (hD.args ay (fun t e => hL t (hxy t e)) hs (hg2 hg rfl))
    rw [hv]; rfl
  split at h1
  ·obtain ⟨vx, A2, h2, s2, a2⟩ := argK_out h1
   obtain ⟨vy, A3, h3, s3, a3⟩ := argK_out h2
   split at h3
   ·rename_i p q hp hq
    exact ⟨_, A3, leafK_out h3, fun r hr => s3 r (s2 r (s1 r hr)), fin _ _ vx vy A2 A3 p q (fun _ hb r hr => by rw [← Option.some.inj hr]; exact hb) (fun _ hb r hr => by rw [← Option.some.inj hr, hb]; rfl) s2 s3 a2 a3 hp hq⟩
   ·exact h3.elim
  ·rename_i hh
   obtain ⟨vx, A2, h2, s2, a2⟩ := argK_out h1
   obtain ⟨vy, A3, h3, s3, a3⟩ := argK_out h2
   split at h3
   ·rename_i p q hp hq
    exact ⟨_, A3, leafK_out h3, fun r hr => s3 r (s2 r (s1 r hr)), fin _ _ vx vy A2 A3 p q (fun hg hb r hr => by rw [← Option.some.inj hr, hg hh rfl, hb]; rfl) (fun hg hb r hr => by rw [← Option.some.inj hr, hg hh rfl, hb]; rfl) s2 s3 a2 a3 hp hq⟩
   ·exact h3.elim
 ·exact h1.elim
end
end Go.Eng

namespace Go.Eng
open Go.RowKit

section
variable {E : Env} {vs : List SV} {bs : List (Nat × Blk)} {rs : List (Nat × Option Row)} {o : Oper} {g : Option Bool} {A : Sides}

theorem binK_out {op : BinOp} {t : TypeId} {x y : SA} {K : Leaf → Sides → Prop} (h : binK E op t x y g A K) (ox oy : Operand) :
  ∃ l A', K l A' ∧ (∀ p ∈ A, p ∈ A') ∧ ∀ (L : LS) (ρ : Val) (w : World) (u v : Value), SA.ok L ρ x u → SA.ok L ρ y v → Sd A' → GT g → (do eqGuard op t ox oy u v; binOp op t u v : Sem Value).run E.P w = .ok l.val w := by
 unfold binK at h
 split at h
 ·rename_i a b
  -- two ints
  have h' := h
  obtain ⟨l, A', hK, hs, _⟩ := run_bin_int (P := E.P) (w := default) (t := t) (x := ox) (y := oy) h'
  cases op <;> simp only [intOpK] at h <;> first | exact h.elim | skip
  case quo =>
   refine ⟨_, _, h, fun p hp => side_mem hp, fun L ρ w u v hu hv hs hg => ?_⟩
   obtain rfl : u = .int .i64 a := hu
   obtain rfl : v = .int .i64 b := hv
   have hb := side_out hs hg
   simp [eqGuard, binOp, Op.intDiv, hb, Leaf.val, w64]
  case rem =>
   refine ⟨_, _, h, fun p hp => side_mem hp, fun L ρ w u v hu hv hs hg => ?_⟩
   obtain rfl : u = .int .i64 a := hu
   obtain rfl : v = .int .i64 b := hv
   have hb := side_out hs hg
   simp [eqGuard, binOp, Op.intDiv, hb, Leaf.val]
  case and =>
   refine ⟨_, _, h, fun p hp => hp, fun L ρ w u v hu hv _ _ => ?_⟩
   obtain rfl : u = .int .i64 a := hu
   obtain rfl : v = .int .i64 b := hv
   rfl
  case xor =>
   refine ⟨_, _, h, fun p hp => hp, fun L ρ w u v hu hv _ _ => ?_⟩
   obtain rfl : u = .int .i64 a := hu
   obtain rfl : v = .int .i64 b := hv
   rfl
  all_goals
   refine ⟨_, _, h, fun p hp => hp, fun L ρ w u v hu hv _ _ => ?_⟩
   obtain rfl : u = .int .i64 a := hu
   obtain rfl : v = .int .i64 b := hv
   simp [eqGuard, binOp, Op.intArith, Op.intCmp, Leaf.val, w64]
 ·rename_i a b
  cases op <;> simp only [u8OpK] at h <;> first | exact h.elim | skip
  all_goals
   refine ⟨_, _, h, fun p hp => hp, fun L ρ w u v hu hv _ _ => ?_⟩
   obtain rfl : u = .int .u8 a := hu
   obtain rfl : v = .int .u8 b := hv
   simp [eqGuard, binOp, Op.intArith, Op.intCmp, Leaf.val]
 ·rename_i a b
  split at h
  ·refine ⟨_, _, h, fun p hp => side_mem hp, fun L ρ w u v hu hv hs hg => ?_⟩
   obtain rfl : u = .string ⟨a.toArray⟩ := hu
   obtain rfl : v = .string ⟨b.toArray⟩ := hv
   exact run_bin_add_str (side_out hs hg)
  ·refine ⟨_, _, h, fun p hp => hp, fun L ρ w u v hu hv hs hg => ?_⟩
   obtain rfl : u = .string ⟨a.toArray⟩ := hu
   obtain rfl : v = .string ⟨b.toArray⟩ := hv
   exact run_bin_eq_str
  ·refine ⟨_, _, h, fun p hp => hp, fun L ρ w u v hu hv hs hg => ?_⟩
   obtain rfl : u = .string ⟨a.toArray⟩ := hu
   obtain rfl : v = .string ⟨b.toArray⟩ := hv
   exact run_bin_ne_str
  ·exact h.elim
 ·rename_i a b
  split at h
  ·rename_i hu'
   split at h
   ·refine ⟨_, _, h, fun p hp => hp, fun L ρ w u v hu hv hs hg => ?_⟩
    obtain rfl : u = .bool a := hu
    obtain rfl : v = .bool b := hv
    exact run_bin_eq_bool hu'
   ·refine ⟨_, _, h, fun p hp => hp, fun L ρ w u v hu hv hs hg => ?_⟩
    obtain rfl : u = .bool a := hu
    obtain rfl : v = .bool b := hv
    exact run_bin_ne_bool hu'
   ·exact h.elim
  ·exact h.elim
 ·rename_i l r
  split at h
  ·rename_i m b hm hg hb
   obtain ⟨hst, _⟩ := structSize_out hm
   split at h
   ·refine ⟨_, _, h, fun p hp => hp, fun L ρ w u v hu hv _ _ => ?_⟩
    obtain ⟨us, rfl, hus⟩ := hu
    obtain ⟨ws, rfl, hws⟩ := hv
    exact run_bin_eq_agg (by rw [guardT_eq]; exact hg) hb hus hws hst
   ·refine ⟨_, _, h, fun p hp => hp, fun L ρ w u v hu hv _ _ => ?_⟩
    obtain ⟨us, rfl, hus⟩ := hu
    obtain ⟨ws, rfl, hws⟩ := hv
    exact run_bin_ne_agg (by rw [guardT_eq]; exact hg) hb hus hws hst
   ·exact h.elim
  ·exact h.elim
 ·exact h.elim

theorem eff_bin {op : BinOp} {t yt : TypeId} {x y : Operand} (ho : o.op = .binOp op t x y yt) {K : Eff → Sides → Prop}
  (h : match (generalizing := false) op, y with
   | .shr, .const (.int _ (.ofNat n)) => argK vs g A x fun v A => shrK g n A v K
   | op, y => argK vs g A x fun vx A => argK vs g A y fun vy A => binK E op t vx vy g A fun l A => leafK g [] [] A (.c (.leaf l)) K) : ∃ e A', K e A' ∧ (∀ p ∈ A, p ∈ A') ∧ EffOk E vs bs rs o g A' e := by
 have hx : ∀ t, x = .tmp t → Operand.tmp t ∈ o.op.operands.toList := fun t e => by simp [ho, Op.operands, e]
 have hy : ∀ t, y = .tmp t → Operand.tmp t ∈ o.op.operands.toList := fun t e => by simp [ho, Op.operands, e]
 split at h
 ·rename_i n
  obtain ⟨v, A1, h1, s1, a1⟩ := argK_out h
  unfold shrK at h1
  split at h1
  ·rename_i a0
   refine ⟨_, A1, leafK_out h1, s1, .val fun w0 C L ρ a w hL _ hB hs hg hD => ?_⟩
   have hv : a.eval x = .int .i64 a0 := hD.args a1 (fun t e => hL t (hx t e)) hs hg
   refine ⟨.int .i64 (shrI a0 n), ?_, wrapG_ok hg (show SC.ok L ρ (.leaf (.int (shrI a0 n))) _ from rfl)⟩
   simp only [execOp, ho, hv]
   rfl
  ·exact h1.elim
 obtain ⟨vx, A1, h1, s1, a1⟩ := argK_out h
 obtain ⟨vy, A2, h2, s2, a2⟩ := argK_out h1
 obtain ⟨l, A3, h3, s3, hr⟩ := binK_out h2 x y
 refine ⟨_, A3, leafK_out h3, fun p hp => s3 p (s2 p (s1 p hp)), .val fun w0 C L ρ a w hL _ hB hs hg hD => ?_⟩
 have ux := hD.args (a1.mono fun p hp => s3 p (s2 p hp)) (fun t e => hL t (hx t e)) hs hg
 have uy := hD.args (a2.mono s3) (fun t e => hL t (hy t e)) hs hg
 refine ⟨l.val, ?_, wrapG_ok hg (show SC.ok L ρ (.leaf l) _ from rfl)⟩
 simp only [execOp, ho]
 exact run_value (hr L ρ w _ _ ux uy hs hg)

theorem eff_un {op : UnOp} {t : TypeId} {x : Operand} (ho : o.op = .unOp op t x) {K : Eff → Sides → Prop}
  (h : argK vs g A x fun v A => match (generalizing := false) op, v with
   | .not, .c (.leaf (.bool b)) => leafK g [] [] A (.c (.leaf (.bool (!b)))) K
   | .neg, .c (.leaf (.int n)) => leafK g [] [] A (.c (.leaf (.int (w64 (0 - n))))) K
   | _, _ => False) : ∃ e A', K e A' ∧ (∀ p ∈ A, p ∈ A') ∧ EffOk E vs bs rs o g A' e := by
 have hx : ∀ t, x = .tmp t → Operand.tmp t ∈ o.op.operands.toList := fun t e => by simp [ho, Op.operands, e]
 obtain ⟨v, A1, h1, s1, a1⟩ := argK_out h
 split at h1
 ·rename_i b
  refine ⟨_, A1, leafK_out h1, s1, .val fun w0 C L ρ a w hL _ hB hs hg hD => ?_⟩
  have hv : a.eval x = .bool b := hD.args a1 (fun t e => hL t (hx t e)) hs hg
  refine ⟨.bool (!b), ?_, wrapG_ok hg (show SC.ok L ρ (.leaf (.bool (!b))) _ from rfl)⟩
  simp only [execOp, ho, hv]
  rfl
 ·rename_i n
  refine ⟨_, A1, leafK_out h1, s1, .val fun w0 C L ρ a w hL _ hB hs hg hD => ?_⟩
  have hv : a.eval x = .int .i64 n := hD.args a1 (fun t e => hL t (hx t e)) hs hg
  refine ⟨.int .i64 (w64 (0 - n)), ?_, wrapG_ok hg (show SC.ok L ρ (.leaf (.int (w64 (0 - n)))) _ from rfl)⟩
  simp only [execOp, ho, hv]
  rfl
 ·exact h1.elim

theorem intKindOf_out {P : Program} {t : TypeId} {k : IntKind} (h : intKindOf P t = some k) : P.underlying t = some (.int k) := by
 unfold intKindOf at h
 split at h
 ·rename_i hu; rw [hu, Option.some.inj h]
 ·cases h

theorem run_conv_int {P : Program} {w : World} {s t : TypeId} {k j : IntKind} (hs : ∃ d, P.underlying s = some d) (h : P.underlying t = some (.int k)) (n : Int) : (convert s t (.int j n)).run P w = .ok (.int k (k.wrap n)) w := by
 obtain ⟨d, hd⟩ := hs
 unfold convert
 simp only [Sem.run_bind, run_underlying hd, run_underlying h, Result.andThen_ok]
 rfl

theorem eff_conv {s t : TypeId} {x : Operand} (ho : o.op = .convert s t x) {K : Eff → Sides → Prop} (h : argK vs g A x fun v A => convK E s t rs g A v K) : ∃ e A', K e A' ∧ (∀ p ∈ A, p ∈ A') ∧ EffOk E vs bs rs o g A' e := by
 have hx : ∀ t, x = .tmp t → Operand.tmp t ∈ o.op.operands.toList := fun t e => by simp [ho, Op.operands, e]
 obtain ⟨v, A1, h1, s1, a1⟩ := argK_out h
 unfold convK at h1
 split at h1
 ·rename_i n
  split at h1
  ·rename_i hd
   split at h1
   ·rename_i hk
    refine ⟨_, A1, leafK_out h1, s1, .val fun w0 C L ρ a w hL _ hB hs hg hD => ?_⟩
    have hv : a.eval x = .int .i64 n := hD.args a1 (fun t e => hL t (hx t e)) hs hg
    refine ⟨_, ?_, wrapG_ok hg (show SC.ok L ρ (.leaf (.u8 (IntKind.u8.wrap n))) (.int .u8 (IntKind.u8.wrap n)) from rfl)⟩
    simp only [execOp, ho, hv]
    exact run_value (run_conv_int ⟨_, hd⟩ (intKindOf_out hk) n)
   ·rename_i hk
    refine ⟨_, A1, leafK_out h1, s1, .val fun w0 C L ρ a w hL _ hB hs hg hD => ?_⟩
    have hv : a.eval x = .int .i64 n := hD.args a1 (fun t e => hL t (hx t e)) hs hg
    refine ⟨_, ?_, wrapG_ok hg (show SC.ok L ρ (.leaf (.int (w64 n))) (.int .i64 (w64 n)) from rfl)⟩
    simp only [execOp, ho, hv]
    exact run_value (run_conv_int ⟨_, hd⟩ (intKindOf_out hk) n)
   ·exact h1.elim
  ·exact h1.elim
 ·rename_i n
  split at h1
  ·rename_i hd
   split at h1
   ·rename_i hk
    refine ⟨_, A1, leafK_out h1, s1, .val fun w0 C L ρ a w hL _ hB hs hg hD => ?_⟩
    have hv : a.eval x = .int .u8 n := hD.args a1 (fun t e => hL t (hx t e)) hs hg
    refine ⟨_, ?_, wrapG_ok hg (show SC.ok L ρ (.leaf (.u8 (IntKind.u8.wrap n))) (.int .u8 (IntKind.u8.wrap n)) from rfl)⟩
    simp only [execOp, ho, hv]
    exact run_value (run_conv_int ⟨_, hd⟩ (intKindOf_out hk) n)
   ·rename_i hk
    refine ⟨_, A1, leafK_out h1, s1, .val fun w0 C L ρ a w hL _ hB hs hg hD => ?_⟩
    have hv : a.eval x = .int .u8 n := hD.args a1 (fun t e => hL t (hx t e)) hs hg
    refine ⟨_, ?_, wrapG_ok hg (show SC.ok L ρ (.leaf (.int (w64 n))) (.int .i64 (w64 n)) from rfl)⟩
    simp only [execOp, ho, hv]
    exact run_value (run_conv_int ⟨_, hd⟩ (intKindOf_out hk) n)
   ·exact h1.elim
  ·exact h1.elim
 ·rename_i r
  split at h1
  ·rename_i e hel hst
   split at h1
   ·rename_i hk
    obtain ⟨row, A2, h2, s2, hf, hlive⟩ := rowK_out h1
    obtain ⟨ty, xs, own, rg⟩ := row
    split at h2
    ·rename_i xs' own' rg' hrow
     simp only [Row.mk.injEq] at hrow
     obtain ⟨rfl, hxs, rfl, rfl⟩ := hrow
     obtain rfl := eq_of_heq hxs
     refine ⟨_, _, leafK_out h2, fun p hp => side_mem (s2 p (s1 p hp)), .val fun w0 C L ρ a w hL hR hB hs hg hD => ?_⟩
     have hs2 : Sd A2 := hs.mono fun p hp => side_mem hp
     have hv := hD.args (a1.mono s2) (fun t e => hL t (hx t e)) hs2 hg
     obtain ⟨_, e', he', hv⟩ : (∃ a' n' c', a.eval x = .slice a' n' c') ∧ ∃ e, L.r r = some e ∧ ∀ x', e = some x' → x'.live → a.eval x = .slice (ρ.ra r) x'.xs.length (ρ.rc r) := hv
     have hLr : L.r r = some (some ⟨.u8, xs, own, rg⟩) := by rw [hR r List.mem_cons_self]; exact hf
     obtain rfl : e' = some ⟨.u8, xs, own, rg⟩ := Option.some.inj (he'.symm.trans hLr)
     have hl := hlive hs2 hg
     have hv := hv _ rfl hl
     have hrd := (hD.rows r _ hLr).rd hl
     simp only at hv hrd
     refine ⟨_, ?_, wrapG_ok hg (show SC.ok L ρ (.leaf (.str (xs.map fun n => UInt8.ofNat n.toNat))) (.string ⟨(xs.map fun n => UInt8.ofNat n.toNat).toArray⟩) from rfl)⟩
     have hue := elemOfT_out hel
     have hut := isString_out hst
     have huk := intKindOf_out hk
     simp only [execOp, ho, hv]
     refine run_value ?_
     unfold convert
     simp only [Sem.run_bind, run_underlying hue, run_underlying hut, Result.andThen_ok]
     cases hra : ρ.ra r with
     | none =>
      have hxs0 : xs = [] := by
       cases xs with
       | nil => rfl
       | cons y ys =>
        obtain ⟨ad, hh, _⟩ := hrd.cell 0 (.int .u8 y) rfl
        rw [hra] at hh
        cases hh
      subst hxs0
      simp only [run_underlying huk, Result.andThen_ok]
      rfl
     | some ad =>
      simp only [run_underlying huk, Result.andThen_ok]
      refine run_bytesString fun j u hu => ?_
      obtain ⟨ad', hh, hc⟩ := hrd.cell j u hu
      rw [hra] at hh
      obtain rfl := Option.some.inj hh
      exact hc
    ·exact h2.elim
   ·exact h1.elim
  ·exact h1.elim
 ·exact h1.elim
end
end Go.Eng

