/- The symbolic executor over the model of Go, with its proof; part 6. It speaks of no law by itself. -/
import Derived.Test.YtnpeomhpbakgnaaGreatEng5
import GoSem.ClaimChange
import GoSem.ClaimWide
import Derived.Carry
import Derived.ChangeSame
import Derived.Below
import Derived.JoinedOf
import Derived.KernelRfl
set_option linter.unusedVariables false
set_option linter.unusedSimpArgs false
namespace Go.Eng
open Go.RowKit

theorem stepS_out {E : Env} (hE : EnvOk E) {Γ : List (Nat × Ctr)} (hΓ : ∀ f c, find Γ f = some c → c.holds E f) {ops : Array Oper} {i : Nat} {o : Oper} (hi : ops[i]? = some o) {vs : List SV} {bs : List (Nat × Blk)} {rs : List (Nat × Option Row)} {A : Sides} {K : Eff → Sides → Prop}
  (h : guardK ops.toList vs o.guard fun g => effS E Γ o g ⟨vs, bs, rs⟩ A K) : ∃ e A', K e A' ∧ (∀ p ∈ A, p ∈ A') ∧ (Sd A' → ∀ fb fr, StepOk E vs.length ops i o e (lk fb fr ⟨vs, bs, rs⟩)) := by
 by_cases hst : ∃ t x y, o.op = .store t x y
 ·obtain ⟨t, x, y, ho⟩ := hst
  obtain ⟨g, h1, _, hg⟩ := guardK_out h
  unfold effS at h1
  rw [ho] at h1
  dsimp only at h1
  split at h1
  ·rename_i hd hS
   cases hS
   obtain ⟨p, A1, h2, s1, a1⟩ := argK_out h1
   obtain ⟨v, A2, h3, s2, a2⟩ := argK_out h2
   obtain ⟨cs, h4, hcs⟩ := cellsK_out h3
   split at h4
   ·rename_i n hn
    split at h4
    ·rename_i hlen
     have hlen := beq_true hlen
     split at h4
     ·rename_i k off
      obtain ⟨b, hb, h5⟩ := lookK_out h4
      obtain ⟨bt, old⟩ := b
      obtain ⟨hle, h6⟩ := splK_out h5
      refine ⟨_, A2, h6, fun p hp => s2 p (s1 p hp), fun hs fb fr w0 C L ρ a w Q K' q1 q2 q3 hD hf hnx => ?_⟩
      obtain ⟨g1, _⟩ := hg L ρ a hD.size q1 hD.slots
      have hLb : L.b k = some ⟨bt, old⟩ := (q3 k (by simp)).trans hb
      have mem : ∀ t', Operand.tmp t' = x ∨ Operand.tmp t' = y → t' ∈ slotsOf ops.toList o := fun t' ht' => by
       unfold slotsOf
       refine List.mem_append_left _ (List.mem_filterMap.2 ⟨.tmp t', ?_, rfl⟩)
       rw [ho]
       rcases ht' with h | h <;> simp [Op.operands, ← h]
      have hvx : SA.ok L ρ _ (a.eval x) := (a1.mono s2) L ρ a hD.size (fun t' ht' => q1 t' (mem t' (.inl ht'.symm))) hD.slots hs GT_none
      have hvy : SA.ok L ρ _ (a.eval y) := a2 L ρ a hD.size (fun t' ht' => q1 t' (mem t' (.inr ht'.symm))) hD.slots hs GT_none
      have hoy := hcs _ _ _ hvy
      obtain ⟨_, hp⟩ := hvx
      obtain ⟨us, hgk, hok⟩ := hD.blks k ⟨bt, old⟩ hLb
      have hl1 := hok.length
      have hl2 := hoy.length
      simp only [Array.length_toList] at hl1 hl2
      have hl1 : us.size = old.length := hl1
      have hle : off + cs.length ≤ old.length := hle
      have hrun := run_storeBlk (P := E.P) (w := w) hn hgk (v := a.eval y) (off := off) (by omega) (by omega) (fun u hu => (hoy.one u hu).2)
      obtain ⟨ρ', hD'⟩ := hD.call (d := none) (nr := []) (kl := []) (up := []) (sb := [(k, old.take off ++ cs ++ old.drop (off + cs.length))]) (rd := []) (rf := []) (V := .any) (v := undef) (w' := w.setRow (ρ.bl k) (us.toList.take off ++ (a.eval y).cells.toList ++ us.toList.drop (off + n)).toArray) (fun _ => (none, 0)) [ρ.bl k]
       (fun r x hx => by cases hx) (fun r hr => by cases hr) (fun r y hy => by cases hy)
       (fun k' cs' hk => by
        obtain ⟨rfl, rfl⟩ := find_one_eq hk
        refine ⟨bt, old, _, hLb, setRow_heap w _ us _ bt (0, 0) hgk, ?_⟩
        rw [hlen]
        exact fun L' ρ' hle _ => Oks.mono hle (by simpa using ((hok.take off).append hoy).append (hok.drop (off + n))))
       (fun g hg' => by
        obtain rfl : g = ρ.bl k := by simpa using hg'
        exact .inr (.inr ⟨k, _, find_one _ _, rfl⟩))
       (kept_setRow _)
       (fun r x hx => by cases hx) (fun r x g hx => by cases hx) (fun r r' x x' hx => by cases hx) (fun _ _ _ _ => trivial)
      unfold wpOp
      simp only [hi]
      rw [g1 rfl]
      refine .inl ?_
      unfold Oper.wp
      have : (execOp a.eval o).run E.P w = .ok .skip (w.setRow (ρ.bl k) (us.toList.take off ++ (a.eval y).cells.toList ++ us.toList.drop (off + n)).toArray) := by
       simp only [execOp, ho]
       rw [Sem.run_bind, hp, hrun]
       rfl
      rw [this, Oper.upon_skip, hd]
      rw [hd] at hnx
      exact hnx ρ' _ _ hD'
     ·exact h4.elim
    ·exact h4.elim
   ·exact h4.elim
  ·exact h1.elim
 ·refine step_out hE hΓ hi (Γ := Γ) ?_
  have e : ∀ g, effS E Γ o g ⟨vs, bs, rs⟩ A K = effK E Γ o g ⟨vs, bs, rs⟩ A K := fun g => by
   unfold effS
   split
   ·rename_i t x y ho
    exact (hst ⟨t, x, y, ho⟩).elim
   ·rfl
  simpa only [e] using h

abbrev PE := Nat × Oper × Eff

def apps (L : LS) (l : List PE) : LS := l.foldl (fun L p => L.app p.2.1.dst p.2.2) L

theorem foldl_filter {α β : Type} (f : α → β → α) (t : β → Bool) (h : ∀ x p, t p = false → f x p = x) : ∀ (l : List β) (x : α), l.foldl f x = (l.filter t).foldl f x
 | [], x => rfl
 | p :: l, x => by
  cases ht : t p with
  | true => simp [ht, foldl_filter f t h l]
  | false => simp [ht, h x p ht, foldl_filter f t h l]

def tv (t : Nat) (p : PE) : Bool := decide (p.2.1.dst = some t)
def tb (k : Nat) (p : PE) : Bool := decide (p.2.1.dst = some k) || (find p.2.2.sb k).isSome
def tr (r : Nat) (p : PE) : Bool := (find p.2.2.nr r).isSome || decide (r ∈ p.2.2.kill)

def fv (t : Nat) (x : SV) (p : PE) : SV := if p.2.1.dst = some t then p.2.2.v else x
def fbk (k : Nat) (x : Option Blk) (p : PE) : Option Blk :=
 match (if p.2.1.dst = some k then p.2.2.nb else none) with
 | some b => some b
 | none => match find p.2.2.sb k with
  | some cs => x.map fun b => ⟨b.t, cs⟩
  | none => x
def frw (r : Nat) (x : Option (Option Row)) (p : PE) : Option (Option Row) :=
 match find p.2.2.nr r with
 | some y => some (some y)
 | none => if r ∈ p.2.2.kill then some none else x

def Still (p : PE) : Prop := p.2.2.upd = []

theorem apps_fold : ∀ (l : List PE) (L : LS), (∀ p ∈ l, Still p) → (∀ t, (apps L l).v t = l.foldl (fv t) (L.v t)) ∧ (∀ k, (apps L l).b k = l.foldl (fbk k) (L.b k)) ∧ (∀ r, (apps L l).r r = l.foldl (frw r) (L.r r)) ∧ (apps L l).fb = L.fb ∧ (apps L l).fr = L.fr
 | [], L, _ => ⟨fun _ => rfl, fun _ => rfl, fun _ => rfl, rfl, rfl⟩
 | p :: l, L, h => by
  have h1 : p.2.2.upd = [] := h p List.mem_cons_self
  obtain ⟨i1, i2, i3, i4, i5⟩ := apps_fold l (L.app p.2.1.dst p.2.2) fun q hq => h q (List.mem_cons_of_mem _ hq)
  refine ⟨fun t => (i1 t).trans ?_, fun k => (i2 k).trans ?_, fun r => (i3 r).trans ?_, i4, i5⟩
  ·rfl
  ·show l.foldl (fbk k) _ = l.foldl (fbk k) (fbk k (L.b k) p)
   rfl
  ·show l.foldl (frw r) _ = l.foldl (frw r) (frw r (L.r r) p)
   congr 1
   simp only [LS.app, h1, find]
   rfl

theorem fold_v (t : Nat) (l : List PE) (x : SV) : l.foldl (fv t) x = (l.filter (tv t)).foldl (fv t) x :=
 foldl_filter _ _ (fun x p h => by simp only [fv, tv, decide_eq_false_iff_not] at *; rw [if_neg h]) l x
theorem fold_b (t : Nat) (l : List PE) (x : Option Blk) : l.foldl (fbk t) x = (l.filter (tb t)).foldl (fbk t) x :=
 foldl_filter _ _ (fun x p h => by
  simp only [fbk, tb, Bool.or_eq_false_iff, decide_eq_false_iff_not] at *
  obtain ⟨h1, h2⟩ := h
  rw [if_neg h1]
  cases hf : find p.2.2.sb t with
  | some y => rw [hf] at h2; cases h2
  | none => rfl) l x
theorem fold_r (r : Nat) (l : List PE) (x : Option (Option Row)) : l.foldl (frw r) x = (l.filter (tr r)).foldl (frw r) x :=
 foldl_filter _ _ (fun x p h => by
  simp only [frw, tr, Bool.or_eq_false_iff, decide_eq_false_iff_not] at *
  obtain ⟨h1, h2⟩ := h
  cases hf : find p.2.2.nr r with
  | some y => rw [hf] at h1; cases h1
  | none => simp only [if_neg h2]) l x

theorem apps_eq {L : LS} {l l' : List PE} (h : ∀ p ∈ l, Still p) (h' : ∀ p ∈ l', Still p) (hv : ∀ t, l.filter (tv t) = l'.filter (tv t)) (hb : ∀ t, l.filter (tb t) = l'.filter (tb t)) (hr : ∀ r, l.filter (tr r) = l'.filter (tr r)) : apps L l = apps L l' := by
 obtain ⟨a1, a2, a3, a4, a5⟩ := apps_fold l L h
 obtain ⟨b1, b2, b3, b4, b5⟩ := apps_fold l' L h'
 refine LS.same (fun t => ?_) (fun t => ?_) (fun t => ?_) (a4.trans b4.symm) (a5.trans b5.symm)
 ·rw [a1, b1, fold_v, hv, ← fold_v]
 ·rw [a2, b2, fold_b, hb, ← fold_b]
 ·rw [a3, b3, fold_r, hr, ← fold_r]

theorem apps_snoc (L : LS) (l : List PE) (p : PE) : apps L (l ++ [p]) = (apps L l).app p.2.1.dst p.2.2 := by simp [apps]

inductive Chain (E : Env) (n : Nat) (ops : Array Oper) : Nat → LS → List PE → LS → Prop where
 | nil {i : Nat} {L : LS} : Chain E n ops i L [] L
 | cons {i : Nat} {o : Oper} {e : Eff} {L L' : LS} {l : List PE} : ops[i]? = some o → StepOk E n ops i o e L → Fresh L o.dst e → Chain E n ops (i + 1) (L.app o.dst e) l L' → Chain E n ops i L ((i, o, e) :: l) L'

theorem Chain.apps {E : Env} {n : Nat} {ops : Array Oper} {i : Nat} {L L' : LS} {l : List PE} (h : Chain E n ops i L l L') : L' = apps L l := by
 induction h with
 | nil => rfl
 | cons _ _ _ _ ih => exact ih

theorem Chain.idx {E : Env} {n : Nat} {ops : Array Oper} {i : Nat} {L L' : LS} {l : List PE} (h : Chain E n ops i L l L') : l.map (·.1) = List.range' i l.length := by
 induction h with
 | nil => rfl
 | cons _ _ _ _ ih => rw [List.map_cons, List.length_cons, range'_cons, ih]

theorem Chain.get {E : Env} {n : Nat} {ops : Array Oper} {i : Nat} {L L' : LS} {l : List PE} (h : Chain E n ops i L l L') : ∀ l1 p l2, l = l1 ++ p :: l2 → p.1 = i + l1.length ∧ ops[p.1]? = some p.2.1 ∧ StepOk E n ops p.1 p.2.1 p.2.2 (Eng.apps L l1) ∧ Fresh (Eng.apps L l1) p.2.1.dst p.2.2 := by
 induction h with
 | nil => intro l1 p l2 e; cases l1 <;> simp at e
 | cons h1 h2 h3 h4 ih =>
  intro l1 p l2 e
  cases l1 with
  | nil =>
   simp only [List.nil_append, List.cons.injEq] at e
   obtain ⟨rfl, rfl⟩ := e
   exact ⟨rfl, h1, h2, h3⟩
  | cons q l1 =>
   simp only [List.cons_append, List.cons.injEq] at e
   obtain ⟨rfl, rfl⟩ := e
   obtain ⟨k1, k2, k3, k4⟩ := ih l1 p l2 rfl
   exact ⟨by rw [k1, List.length_cons]; omega, k2, k3, k4⟩

theorem firstK_out {E : Env} (hE : EnvOk E) {Γ : List (Nat × Ctr)} (hΓ : ∀ f c, find Γ f = some c → c.holds E f) {ops : Array Oper} : ∀ (m i : Nat) (l : List Oper) {S : St} {A : Sides} {K : List Foot → List Oper → St → Sides → Prop}, ops.toList.drop i = l → firstK E Γ ops.toList m l S A K →
  ∃ (pl : List PE) (S' : St) (A' : Sides), K (pl.map fun p => p.2.2.foot) (ops.toList.drop (i + m)) S' A' ∧ (∀ p ∈ A, p ∈ A') ∧ pl.length = m ∧ S'.vs.length = S.vs.length ∧ (Sd A' → ∀ fb fr, Chain E S.vs.length ops i (lk fb fr S) pl (lk fb fr S'))
 | 0, i, l, S, A, K, hl, h => by
  refine ⟨[], S, A, ?_, fun p hp => hp, rfl, rfl, fun _ fb fr => .nil⟩
  rw [Nat.add_zero, hl]
  cases l <;> exact h
 | m + 1, i, [], S, A, K, hl, h => h.elim
 | m + 1, i, o :: l, ⟨vs, bs, rs⟩, A, K, hl, h => by
  have hi : ops[i]? = some o := by
   have := congrArg List.head? hl
   rw [List.head?_drop] at this
   simpa using this
  have hl' : ops.toList.drop (i + 1) = l := by
   have := congrArg List.tail hl
   rw [List.tail_drop] at this
   simpa using this
  obtain ⟨e, A1, h1, s1, hst⟩ := stepS_out hE hΓ hi h
  obtain ⟨S1, h2, hlen1, hlk, hfr⟩ := applyK_out (fb := fun _ => none) (fr := fun _ => none) h1
  obtain ⟨pl, S', A', hK, s2, hlen, hn, hch⟩ := firstK_out hE hΓ m (i + 1) l hl' h2
  refine ⟨(i, o, e) :: pl, S', A', ?_, fun p hp => s2 p (s1 p hp), by simp [hlen], hn.trans hlen1, fun hs fb fr => ?_⟩
  ·rw [show i + (m + 1) = i + 1 + m by omega]
   exact hK
  ·have e1 : lk fb fr S1 = (lk fb fr ⟨vs, bs, rs⟩).app o.dst e := by
    have h1 := congrArg LS.v hlk
    have h2 := congrArg LS.b hlk
    have h3 := congrArg LS.r hlk
    exact LS.same (fun i => congrFun h1 i) (fun i => congrFun h2 i) (fun i => congrFun h3 i) rfl rfl
   have := hch hs fb fr
   rw [e1, hlen1] at this
   exact .cons hi (hst (hs.mono s2) fb fr) ⟨hfr.b, hfr.r⟩ this

theorem filt_lt {p q : Nat → Bool} : ∀ (l : List Nat), (∀ x, q x = true → p x = true) → (l.filter q).length ≤ (l.filter p).length ∧ ((∃ x ∈ l, p x = true ∧ q x = false) → (l.filter q).length < (l.filter p).length)
 | [], _ => ⟨Nat.le_refl _, fun ⟨x, hx, _⟩ => by cases hx⟩
 | y :: l, h => by
  obtain ⟨h1, h2⟩ := filt_lt l h
  cases hq : q y with
  | true =>
   have hp := h y hq
   simp only [List.filter_cons, hq, hp, if_true, List.length_cons]
   refine ⟨by omega, fun ⟨x, hx, hpx, hqx⟩ => ?_⟩
   rcases List.mem_cons.1 hx with rfl | hx
   ·rw [hq] at hqx; cases hqx
   ·have := h2 ⟨x, hx, hpx, hqx⟩; omega
  | false =>
   cases hp : p y with
   | true =>
    simp only [List.filter_cons, hq, hp, if_true, List.length_cons, Bool.false_eq_true, if_false]
    exact ⟨by omega, fun _ => by omega⟩
   | false =>
    simp only [List.filter_cons, hq, hp, Bool.false_eq_true, if_false]
    refine ⟨h1, fun ⟨x, hx, hpx, hqx⟩ => ?_⟩
    rcases List.mem_cons.1 hx with rfl | hx
    ·rw [hp] at hpx; cases hpx
    ·exact h2 ⟨x, hx, hpx, hqx⟩

theorem closures_ok {ops : List Oper} (T : Nat → Prop) (hT : ∀ (k : Nat) (o : Oper), ops[k]? = some o → T k → ∀ j ∈ afters o, T j) (i : Nat) (o : Oper) (ho : ops[i]? = some o) (hi : ∀ j ∈ afters o, T j) : ∀ x ∈ (closures ops).getD i [], T x := by
 have key : ∀ (l pre : List Oper) (acc : List (List Nat)), ops = pre ++ l → acc.length = pre.length → (∀ (i : Nat) (o : Oper), pre[i]? = some o → (∀ j ∈ afters o, T j) → ∀ x ∈ acc.getD i [], T x) →
   ∀ (i : Nat) (o : Oper), ops[i]? = some o → (∀ j ∈ afters o, T j) → ∀ x ∈ (l.foldl (fun acc o => acc ++ [(afters o).flatMap fun j => j :: acc.getD j []]) acc).getD i [], T x := by
  intro l
  induction l with
  | nil =>
   intro pre acc e hl hinv i o ho hi x hx
   rw [List.append_nil] at e
   exact hinv i o (e ▸ ho) hi x hx
  | cons q l ih =>
   intro pre acc e hl hinv
   refine ih (pre ++ [q]) (acc ++ [_]) (by rw [e]; simp) (by simp [hl]) fun i o ho hi x hx => ?_
   rcases Nat.lt_or_ge i pre.length with hlt | hge
   ·rw [List.getElem?_append_left hlt] at ho
    refine hinv i o ho hi x ?_
    rwa [List.getD, List.getElem?_append_left (by omega), ← List.getD] at hx
   ·rw [List.getElem?_append_right hge] at ho
    have h0 : i - pre.length = 0 := by
     have := (List.getElem?_eq_some_iff.1 ho).1
     simp at this
     omega
    rw [h0] at ho
    obtain rfl : q = o := by simpa using ho
    rw [List.getD, List.getElem?_append_right (by omega), show i - acc.length = 0 by omega] at hx
    simp only [List.getElem?_cons_zero, Option.getD_some, List.mem_flatMap] at hx
    obtain ⟨j, hj, hx⟩ := hx
    rcases List.mem_cons.1 hx with rfl | hx
    ·exact hi x hj
    ·rcases Nat.lt_or_ge j pre.length with hlt | hge
     ·have hpj : pre[j]? = some pre[j] := List.getElem?_eq_getElem hlt
      refine hinv j _ hpj (hT j pre[j] ?_ (hi j hj)) x hx
      rw [e, List.getElem?_append_left hlt]
      exact hpj
     ·rw [List.getD, List.getElem?_eq_none (by omega)] at hx
      cases hx
 exact key ops [] [] rfl rfl (fun i o h => by simp at h) i o ho hi
end Go.Eng

namespace Go.Eng
open Go.RowKit

structure DrawP (ops : List Oper) (m : Nat) (pl : List PE) : Prop where
 aft : ∀ (i : Nat) (o : Oper), ops[i]? = some o → ∀ j ∈ afters o, j < i
 tail : ∀ (i : Nat) (o : Oper), m ≤ i → ops[i]? = some o → (∀ j, j < i → j ∈ afters o) ∨ (m < i ∧ i - 1 ∈ afters o)
 still : ∀ p ∈ pl, Still p
 dst : ∀ p ∈ pl, ∀ q ∈ pl, p.1 ≠ q.1 → ∀ d, q.2.1.dst = some d → p.2.1.dst ≠ some d ∧ (d ∈ slotsOf ops p.2.1 → q.1 < p.1 ∧ q.1 ∈ afters p.2.1) ∧ (d ∈ p.2.2.bd → q.1 < p.1 ∧ q.1 ∈ (closures ops).getD p.1 [])
 mkr : ∀ p ∈ pl, ∀ q ∈ pl, p.1 ≠ q.1 → ∀ r ∈ keysOf q.2.2.nr, r ∈ p.2.2.rd → q.1 < p.1 ∧ q.1 ∈ (closures ops).getD p.1 []
 kill : ∀ p ∈ pl, ∀ q ∈ pl, p.1 ≠ q.1 → ∀ r ∈ q.2.2.kill, r ∈ p.2.2.rd → p.1 < q.1 ∧ p.1 ∈ (closures ops).getD q.1 []
 nr : ∀ p ∈ pl, ∀ q ∈ pl, p.1 ≠ q.1 → ∀ r ∈ keysOf q.2.2.nr, r ∉ keysOf p.2.2.nr
 rd : ∀ p ∈ pl, ∀ q ∈ pl, p.1 ≠ q.1 → ∀ r ∈ p.2.2.kill, r ∈ p.2.2.rd
 wrb : ∀ p ∈ pl, ∀ k ∈ keysOf p.2.2.sb, k ∈ p.2.2.bd
 wr : ∀ p ∈ pl, ∀ q ∈ pl, p.1 ≠ q.1 → ∀ k ∈ keysOf q.2.2.sb, k ∈ p.2.2.bd → (q.1 < p.1 ∧ q.1 ∈ (closures ops).getD p.1 []) ∨ (p.1 < q.1 ∧ p.1 ∈ (closures ops).getD q.1 [])

theorem mem_idx {pl : List PE} (hidx : pl.map (·.1) = List.range' 0 pl.length) {p : PE} (hp : p ∈ pl) : pl[p.1]? = some p := by
 obtain ⟨i, hi, e⟩ := List.mem_iff_getElem.1 hp
 have h1 : (pl.map (·.1))[i]? = some p.1 := by rw [List.getElem?_map, List.getElem?_eq_getElem hi, e]; rfl
 rw [hidx, List.getElem?_range' (by simpa using hi)] at h1
 have : i = p.1 := by simpa using h1
 rw [← this, List.getElem?_eq_getElem hi, e]

theorem drawOk_out {ops : List Oper} {m : Nat} {pl : List PE} (hidx : pl.map (·.1) = List.range' 0 pl.length) (hlen : pl.length = m) (hops : ∀ p ∈ pl, ops[p.1]? = some p.2.1) (h : drawOk ops m (pl.map fun p => p.2.2.foot) = true) : DrawP ops m pl := by
 unfold drawOk at h
 simp only [Bool.and_eq_true] at h
 obtain ⟨⟨⟨_, h1⟩, h2⟩, h3⟩ := h
 rw [List.all_eq_true] at h2 h3
 have hlt : ∀ p ∈ pl, p.1 < m := fun p hp => by rw [← hlen]; exact (List.getElem?_eq_some_iff.1 (mem_idx hidx hp)).1
 have hfs : ∀ p ∈ pl, (pl.map fun p => p.2.2.foot)[p.1]? = some p.2.2.foot := fun p hp => by rw [List.getElem?_map, mem_idx hidx hp]; rfl
 have one : ∀ p ∈ pl, (p.2.2.foot.upd = false ∧ ∀ k ∈ keysOf p.2.2.sb, k ∈ p.2.2.bd) ∧ ∀ q ∈ pl, p.1 ≠ q.1 →
   (∀ d, q.2.1.dst = some d → p.2.1.dst ≠ some d ∧ (d ∈ slotsOf ops p.2.1 → q.1 < p.1 ∧ q.1 ∈ afters p.2.1) ∧ (d ∈ p.2.2.bd → q.1 < p.1 ∧ q.1 ∈ (closures ops).getD p.1 [])) ∧
   (∀ r ∈ keysOf q.2.2.nr, r ∈ p.2.2.rd → q.1 < p.1 ∧ q.1 ∈ (closures ops).getD p.1 []) ∧
   (∀ r ∈ q.2.2.kill, r ∈ p.2.2.rd → p.1 < q.1 ∧ p.1 ∈ (closures ops).getD q.1 []) ∧
   (∀ r ∈ keysOf q.2.2.nr, r ∉ keysOf p.2.2.nr) ∧ (∀ r ∈ p.2.2.kill, r ∈ p.2.2.rd) ∧
   (∀ k ∈ keysOf q.2.2.sb, k ∈ p.2.2.bd → (q.1 < p.1 ∧ q.1 ∈ (closures ops).getD p.1 []) ∨ (p.1 < q.1 ∧ p.1 ∈ (closures ops).getD q.1 [])) := by
  intro p hp
  have hp1 := h3 p.1 (List.mem_range.2 (hlt p hp))
  rw [hops p hp, hfs p hp] at hp1
  simp only [Bool.and_eq_true] at hp1
  obtain ⟨⟨⟨hwb, hu⟩, _⟩, hq⟩ := hp1
  refine ⟨⟨by simpa using hu, fun k hk => ?_⟩, fun q hq' hne => ?_⟩
  ·have := List.all_eq_true.1 hwb k hk
   rw [List.contains_eq_mem] at this
   exact of_decide_eq_true this
  rw [List.all_eq_true] at hq
  have hq1 := hq q.1 (List.mem_range.2 (hlt q hq'))
  rw [hops q hq', hfs q hq'] at hq1
  simp only [Bool.or_eq_true, Bool.and_eq_true] at hq1
  rcases hq1 with he | hq1
  ·exact (hne (by simpa using he)).elim
  ·obtain ⟨⟨⟨⟨⟨g1, g2⟩, g3⟩, g4⟩, g5⟩, g6⟩ := hq1
   rw [List.all_eq_true] at g2 g3 g4 g5 g6
   refine ⟨fun d hd => ?_, fun r hr hrd => ?_, fun r hr hrd => ?_, fun r hr hrd => ?_, fun r hr => ?_, fun k hk hkb => ?_⟩
   ·rw [hd] at g1
    simp only [Bool.and_eq_true, Bool.or_eq_true, Bool.not_eq_true', bne_iff_ne, decide_eq_true_eq, List.contains_iff_mem, List.contains_eq_mem, decide_eq_false_iff_not] at g1
    obtain ⟨⟨a1, a2⟩, a3⟩ := g1
    exact ⟨a1, fun h => a2.resolve_left (fun h' => h' h), fun h => a3.resolve_left (fun h' => h' h)⟩
   ·have := g2 r hr
    simp only [Bool.and_eq_true, Bool.or_eq_true, Bool.not_eq_true', decide_eq_true_eq, List.contains_eq_mem, decide_eq_false_iff_not] at this
    exact this.resolve_left (fun h' => h' hrd)
   ·have := g3 r hr
    simp only [Bool.and_eq_true, Bool.or_eq_true, Bool.not_eq_true', decide_eq_true_eq, List.contains_eq_mem, decide_eq_false_iff_not] at this
    exact this.resolve_left (fun h' => h' hrd)
   ·have := g4 r hr
    simp only [Bool.not_eq_true', List.contains_eq_mem, decide_eq_false_iff_not] at this
    exact this hrd
   ·have := g5 r hr
    rw [List.contains_eq_mem] at this
    exact of_decide_eq_true this
   ·have := g6 k hk
    simp only [Bool.and_eq_true, Bool.or_eq_true, Bool.not_eq_true', decide_eq_true_eq, List.contains_eq_mem, decide_eq_false_iff_not] at this
    rcases this with (h | h) | h
    ·exact (h hkb).elim
    ·exact .inl h
    ·exact .inr h
 have gen : ∀ (i : Nat) (o : Oper), ops[i]? = some o → (∀ j ∈ afters o, j < i) ∧ (i < m ∨ waitsAll i o = true ∨ (m < i ∧ i - 1 ∈ afters o)) := fun i o ho => by
  have hi : i < ops.length := (List.getElem?_eq_some_iff.1 ho).1
  have := h2 i (List.mem_range.2 hi)
  rw [ho] at this
  simp only [Bool.and_eq_true, Bool.or_eq_true, List.all_eq_true] at this
  refine ⟨fun j hj => Nat.le_of_ble_eq_true (this.1 j hj), ?_⟩
  rcases this.2 with (h | h) | ⟨h, h'⟩
  ·exact .inl (Nat.le_of_ble_eq_true h)
  ·exact .inr (.inl h)
  ·exact .inr (.inr ⟨Nat.le_of_ble_eq_true h, by simpa using h'⟩)
 refine ⟨fun i o ho => (gen i o ho).1, fun i o hm ho => ((gen i o ho).2.resolve_left (by omega)).imp (fun hw j hj => ?_) id, fun p hp => ?_, fun p hp q hq hne => ((one p hp).2 q hq hne).1, fun p hp q hq hne => ((one p hp).2 q hq hne).2.1, fun p hp q hq hne => ((one p hp).2 q hq hne).2.2.1, fun p hp q hq hne => ((one p hp).2 q hq hne).2.2.2.1, fun p hp q hq hne => ((one p hp).2 q hq hne).2.2.2.2.1, fun p hp => (one p hp).1.2, fun p hp q hq hne => ((one p hp).2 q hq hne).2.2.2.2.2⟩
 ·unfold waitsAll at hw
  have := List.all_eq_true.1 hw j (List.mem_range.2 hj)
  simpa using this
 ·have hu := (one p hp).1.1
  obtain ⟨i, o, e⟩ := p
  obtain ⟨V, nb, nr, kill, upd, sb, rd, bd⟩ := e
  unfold Eff.foot at hu
  dsimp only at hu
  split at hu
  ·rfl
  ·cases hu

theorem filt_agree {T t : PE → Bool} {l1 l2 : List PE} {p : PE} (hp : T p = false) (h1 : ∀ q ∈ l1, t q = true → T q = true) (h2 : ∀ q ∈ l2, t q = true → T q = true → False) : ((l1 ++ p :: l2).filter T).filter t = l1.filter t := by
 rw [List.filter_append, List.filter_append, List.filter_cons, hp]
 simp only [Bool.false_eq_true, if_false]
 have e2 : (l2.filter T).filter t = [] := List.filter_eq_nil_iff.2 fun q hq ht => h2 q (List.mem_filter.1 hq).1 ht (List.mem_filter.1 hq).2
 have e1 : (l1.filter T).filter t = l1.filter t := by
  rw [List.filter_filter]
  refine List.filter_congr fun q hq => ?_
  cases ht : t q with
  | true => simp [h1 q hq ht]
  | false => rfl
 rw [e1, e2, List.append_nil]

theorem filt_ins {T T' t : PE → Bool} {l1 l2 : List PE} {p : PE} (hp : T p = false) (hp' : T' p = true) (h1 : ∀ q ∈ l1, T' q = T q) (h2 : ∀ q ∈ l2, T' q = T q) (hlast : t p = true → ∀ q ∈ l2, T q = true → t q = true → False) :
  ((l1 ++ p :: l2).filter T').filter t = ((l1 ++ p :: l2).filter T ++ [p]).filter t := by
 have e1 : l1.filter T' = l1.filter T := List.filter_congr h1
 have e2 : l2.filter T' = l2.filter T := List.filter_congr h2
 have a1 : (l1 ++ p :: l2).filter T' = l1.filter T ++ p :: l2.filter T := by rw [List.filter_append, List.filter_cons, hp', e1, e2]; simp
 have a2 : (l1 ++ p :: l2).filter T = l1.filter T ++ l2.filter T := by rw [List.filter_append, List.filter_cons, hp]; simp
 rw [a1, a2]
 cases ht : t p with
 | true =>
  have e3 : (l2.filter T).filter t = [] := List.filter_eq_nil_iff.2 fun q hq ht' => hlast ht q (List.mem_filter.1 hq).1 (List.mem_filter.1 hq).2 ht'
  simp [List.filter_append, List.filter_cons, ht, e3]
 | false => simp [List.filter_append, List.filter_cons, ht]

theorem Den.drew {E : Env} {w0 : World} {C : List Nat} {n : Nat} {L : LS} {ρ : Val} {a : Act} {w : World} (h : Den E w0 C n L ρ a w) : Den E w0 C n L ρ a { w with drawn := w.drawn + 1 } :=
 ⟨h.size, h.defers, h.slots, fun k b hb => (h.blks k b hb).keep (LE.refl L ρ) rfl, fun r x hx => (h.rows r x hx).keep (Nat.le_refl _) (fun _ _ _ => rfl), h.apart, h.bound, ⟨h.kept.os, h.kept.tape, h.kept.output, h.kept.size, h.kept.block⟩, h.fixb, h.fixr⟩

theorem tail_any {P : Program} {ops : Array Oper} {Q : Exit → Act → World → Prop} (haft : ∀ (i : Nat) (o : Oper), ops[i]? = some o → ∀ j ∈ afters o, j < i) (m : Nat) (htail : ∀ (i : Nat) (o : Oper), m ≤ i → ops[i]? = some o → (∀ j, j < i → j ∈ afters o) ∨ (m < i ∧ i - 1 ∈ afters o)) :
  ∀ (k i fuel : Nat) (listed : Array Bool) (a : Act) (w : World), m ≤ i → i + k = ops.size → listed.size = ops.size → (∀ j, j < ops.size → (listed.getD j false = true ↔ j < i)) → k ≤ fuel → wpOps P ops Q (List.range' i k) a w → wpAny P .any ops Q fuel listed a w
 | 0, i, fuel, listed, a, w, hm, hik, hsz, hl, hf, h => by
  have hr : Region.ready .any ops listed = [] := by
   cases hrr : Region.ready .any ops listed with
   | nil => rfl
   | cons j l =>
    have hj : j ∈ Region.ready .any ops listed := by rw [hrr]; exact List.mem_cons_self
    obtain ⟨h1, o, ho, _⟩ := mem_ready.1 hj
    have hlt : j < ops.size := (Array.getElem?_eq_some_iff.1 ho).1
    have := (hl j hlt).2 (by omega)
    rw [Array.getD_eq_getD_getElem?] at h1 this
    rw [Array.getElem?_eq_getElem (by omega)] at h1 this
    simp at h1 this
    rw [h1] at this
    cases this
  cases fuel with
  | zero => exact ⟨hr, h⟩
  | succ f => exact ⟨fun _ => h, fun j hj => (by rw [hr] at hj; cases hj)⟩
 | k + 1, i, 0, listed, a, w, hm, hik, hsz, hl, hf, h => by omega
 | k + 1, i, f + 1, listed, a, w, hm, hik, hsz, hl, hf, h => by
  have hi : i < ops.size := by omega
  have hoi : ops[i]? = some ops[i] := Array.getElem?_eq_getElem hi
  have isr : i ∈ Region.ready .any ops listed := by
   refine mem_ready.2 ⟨?_, ops[i], hoi, fun e he hb => ?_⟩
   ·have h1 : ¬ listed.getD i false = true := fun h => by have := (hl i hi).1 h; omega
    rw [Array.getD_eq_getD_getElem?, Array.getElem?_eq_getElem (by omega)] at h1 ⊢
    simpa using h1
   ·have : e.on ∈ afters ops[i] := List.mem_map.2 ⟨e, List.mem_filter.2 ⟨by simpa using he, hb⟩, rfl⟩
    have hlt := haft i _ hoi _ this
    exact (hl e.on (by omega)).2 hlt
  refine ⟨fun hr => (by rw [hr] at isr; cases isr), fun j hj => ?_⟩
  obtain ⟨h1, o, ho, hw⟩ := mem_ready.1 hj
  have hjs : j < ops.size := (Array.getElem?_eq_some_iff.1 ho).1
  have hji : j = i := by
   rcases Nat.lt_trichotomy j i with hlt | he | hgt
   ·have := (hl j hjs).2 hlt
    rw [Array.getD_eq_getD_getElem?, Array.getElem?_eq_getElem (by omega)] at h1 this
    simp at h1 this
    rw [h1] at this
    cases this
   ·exact he
   ·obtain ⟨q, hq, hmem⟩ : ∃ q, i ≤ q ∧ q ∈ afters o := (htail j o (by omega) ho).elim (fun h => ⟨i, Nat.le_refl _, h i hgt⟩) fun h => ⟨j - 1, by omega, h.2⟩
    obtain ⟨e, he, heq⟩ := List.mem_map.1 hmem
    obtain ⟨he1, he2⟩ := List.mem_filter.1 he
    have := hw e (by simpa using he1) he2
    rw [heq] at this
    have := (hl q (by have := haft j o ho q hmem; omega)).1 this
    omega
  subst hji
  rw [range'_cons, wpOps_cons] at h
  refine wpOp_mono (fun a w h => ?_) h
  refine tail_any haft m htail k (j + 1) f _ a w (by omega) (by omega) (by simp [hsz]) (fun q hq => ?_) (by omega) h
  by_cases e : j = q
  ·subst e
   have : (listed.setIfInBounds j true).getD j false = true := by simp [hsz, hq]
   simp [this]
  ·rw [getD_set_ne false e, hl q hq]
   omega
end Go.Eng

namespace Go.Eng
open Go.RowKit

theorem keys_find {α : Type} : ∀ {l : List (Nat × α)} {r : Nat}, (∃ x, find l r = some x) ↔ r ∈ keysOf l
 | [], r => by simp [find, keysOf]
 | (k, y) :: l, r => by
  have ih := keys_find (l := l) (r := r)
  by_cases e : k = r
  ·subst e; simp [find, keysOf]
  ·have e' : ¬ r = k := fun h => e h.symm
   simp only [find, e, if_false, keysOf, List.mem_cons, e', false_or]
   exact ih

theorem tr_iff {r : Nat} {p : PE} : tr r p = true ↔ r ∈ keysOf p.2.2.nr ∨ r ∈ p.2.2.kill := by
 simp only [tr, Bool.or_eq_true, Option.isSome_iff_exists, decide_eq_true_eq]
 rw [keys_find]

theorem tb_iff {t : Nat} {p : PE} : tb t p = true ↔ p.2.1.dst = some t ∨ t ∈ keysOf p.2.2.sb := by
 simp only [tb, Bool.or_eq_true, Option.isSome_iff_exists, decide_eq_true_eq]
 rw [keys_find]

theorem tv_iff {t : Nat} {p : PE} : tv t p = true ↔ p.2.1.dst = some t := by simp [tv]

def inT (listed : Array Bool) (p : PE) : Bool := listed.getD p.1 false

section
variable {E : Env} {n : Nat} {ops : Array Oper} {m : Nat} {pl : List PE} {L0 L1 : LS}

theorem draw_step (hP : DrawP ops.toList m pl) (hch : Chain E n ops 0 L0 pl L1) {listed : Array Bool} (hcl : ∀ (k : Nat) (o : Oper), ops.toList[k]? = some o → listed.getD k false = true → ∀ j ∈ afters o, listed.getD j false = true)
  {l1 l2 : List PE} {p : PE} (he : pl = l1 ++ p :: l2) (hp : listed.getD p.1 false = false) (haf : ∀ j ∈ afters p.2.1, listed.getD j false = true) (hsz : p.1 < listed.size) :
  StepOk E n ops p.1 p.2.1 p.2.2 (apps L0 (pl.filter (inT listed))) ∧ Fresh (apps L0 (pl.filter (inT listed))) p.2.1.dst p.2.2 ∧
   (apps L0 (pl.filter (inT listed))).app p.2.1.dst p.2.2 = apps L0 (pl.filter (inT (listed.setIfInBounds p.1 true))) := by
 obtain ⟨hidx, hop, hst, hfr⟩ := hch.get l1 p l2 he
 rw [Nat.zero_add] at hidx
 have hpm : p ∈ pl := by rw [he]; simp
 have hids := hch.idx
 have hop' : ops.toList[p.1]? = some p.2.1 := by simpa using hop
 have m1 : ∀ q ∈ l1, q ∈ pl ∧ q.1 < p.1 := fun q hq => by
  refine ⟨by rw [he]; exact List.mem_append_left _ hq, ?_⟩
  obtain ⟨a, b, e⟩ := List.append_of_mem hq
  have := (hch.get a q (b ++ p :: l2) (by rw [he, e]; simp)).1
  rw [hidx, this, e]
  simp only [List.length_append, List.length_cons]
  omega
 have m2 : ∀ q ∈ l2, q ∈ pl ∧ p.1 < q.1 := fun q hq => by
  refine ⟨by rw [he]; exact List.mem_append_right _ (List.mem_cons_of_mem _ hq), ?_⟩
  obtain ⟨a, b, e⟩ := List.append_of_mem hq
  have := (hch.get (l1 ++ p :: a) q b (by rw [he, e]; simp)).1
  rw [hidx, this]
  simp only [List.length_append, List.length_cons]
  omega
 have clP : ∀ x ∈ (closures ops.toList).getD p.1 [], listed.getD x false = true := closures_ok (fun x => listed.getD x false = true) hcl p.1 p.2.1 hop' haf
 have opq : ∀ q ∈ pl, ops.toList[q.1]? = some q.2.1 := fun q hq => by
  obtain ⟨a, b, e⟩ := List.append_of_mem hq
  have := (hch.get a q b e).2.1
  simpa using this
 have clQ : ∀ q ∈ pl, inT listed q = true → p.1 ∈ (closures ops.toList).getD q.1 [] → False := fun q hq hT hm => by
  have := closures_ok (fun x => listed.getD x false = true) hcl q.1 q.2.1 (opq q hq) (hcl q.1 q.2.1 (opq q hq) hT) p.1 hm
  rw [hp] at this
  cases this
 have hpT : inT listed p = false := hp
 have st1 : ∀ q ∈ pl.filter (inT listed), Still q := fun q hq => hP.still q (List.mem_filter.1 hq).1
 have st2 : ∀ q ∈ l1, Still q := fun q hq => hP.still q (m1 q hq).1
 obtain ⟨f1, f2, f3, _, _⟩ := apps_fold (pl.filter (inT listed)) L0 st1
 obtain ⟨g1, g2, g3, _, _⟩ := apps_fold l1 L0 st2
 -- the parts of the state that p looks at
 have agV : ∀ t, (∀ q ∈ l1, tv t q = true → inT listed q = true) → (∀ q ∈ l2, tv t q = true → inT listed q = true → False) → (apps L0 (pl.filter (inT listed))).v t = (apps L0 l1).v t := fun t a b => by
  rw [f1, g1, fold_v, fold_v t l1, he, filt_agree hpT a b]
 have agB : ∀ t, (∀ q ∈ l1, tb t q = true → inT listed q = true) → (∀ q ∈ l2, tb t q = true → inT listed q = true → False) → (apps L0 (pl.filter (inT listed))).b t = (apps L0 l1).b t := fun t a b => by
  rw [f2, g2, fold_b, fold_b t l1, he, filt_agree hpT a b]
 have agR : ∀ t, (∀ q ∈ l1, tr t q = true → inT listed q = true) → (∀ q ∈ l2, tr t q = true → inT listed q = true → False) → (apps L0 (pl.filter (inT listed))).r t = (apps L0 l1).r t := fun t a b => by
  rw [f3, g3, fold_r, fold_r t l1, he, filt_agree hpT a b]
 have ne1 : ∀ q ∈ l1, p.1 ≠ q.1 := fun q hq => by have := (m1 q hq).2; omega
 have ne2 : ∀ q ∈ l2, p.1 ≠ q.1 := fun q hq => by have := (m2 q hq).2; omega
 have lookV : ∀ t ∈ slotsOf ops.toList p.2.1, (apps L0 (pl.filter (inT listed))).v t = (apps L0 l1).v t := fun t ht => by
  refine agV t (fun q hq htq => ?_) (fun q hq htq _ => ?_)
  ·exact haf _ (((hP.dst p hpm q (m1 q hq).1 (ne1 q hq) t (tv_iff.1 htq)).2.1 ht).2)
  ·have := ((hP.dst p hpm q (m2 q hq).1 (ne2 q hq) t (tv_iff.1 htq)).2.1 ht).1
   have := (m2 q hq).2
   omega
 have lookB : ∀ t ∈ p.2.2.bd, (apps L0 (pl.filter (inT listed))).b t = (apps L0 l1).b t := fun t ht => by
  refine agB t (fun q hq htq => ?_) (fun q hq htq hT => ?_)
  ·rcases tb_iff.1 htq with h | h
   ·exact clP _ (((hP.dst p hpm q (m1 q hq).1 (ne1 q hq) t h).2.2 ht).2)
   ·rcases hP.wr p hpm q (m1 q hq).1 (ne1 q hq) t h ht with ⟨_, h⟩ | ⟨h, _⟩
    ·exact clP _ h
    ·have := (m1 q hq).2
     omega
  ·rcases tb_iff.1 htq with h | h
   ·have := ((hP.dst p hpm q (m2 q hq).1 (ne2 q hq) t h).2.2 ht).1
    have := (m2 q hq).2
    omega
   ·rcases hP.wr p hpm q (m2 q hq).1 (ne2 q hq) t h ht with ⟨h, _⟩ | ⟨_, h⟩
    ·have := (m2 q hq).2
     omega
    ·exact clQ q (m2 q hq).1 hT h
 have lookR : ∀ t ∈ p.2.2.rd, (apps L0 (pl.filter (inT listed))).r t = (apps L0 l1).r t := fun t ht => by
  refine agR t (fun q hq htq => ?_) (fun q hq htq hT => ?_)
  ·rcases tr_iff.1 htq with h | h
   ·exact clP _ (hP.mkr p hpm q (m1 q hq).1 (ne1 q hq) t h ht).2
   ·have := (hP.kill p hpm q (m1 q hq).1 (ne1 q hq) t h ht).1
    have := (m1 q hq).2
    omega
  ·rcases tr_iff.1 htq with h | h
   ·have := (hP.mkr p hpm q (m2 q hq).1 (ne2 q hq) t h ht).1
    have := (m2 q hq).2
    omega
   ·exact clQ q (m2 q hq).1 hT (hP.kill p hpm q (m2 q hq).1 (ne2 q hq) t h ht).2
 refine ⟨?_, ⟨fun b hb => ?_, fun k x hx => ?_⟩, ?_⟩
 ·intro w0 C L ρ a w Q K h1 h2 h3 hD hf hn
  exact hst w0 C L ρ a w Q K (fun t ht => (h1 t ht).trans (lookV t ht)) (fun r hr => (h2 r hr).trans (lookR r hr)) (fun k hk => (h3 k hk).trans (lookB k hk)) hD hf hn
 ·obtain ⟨k, hk, hn⟩ := hfr.b b hb
  refine ⟨k, hk, ?_⟩
  rw [agB k (fun q hq htq => ?_) (fun q hq htq hT => ?_)]
  ·exact hn
  ·rcases tb_iff.1 htq with h | h
   ·exact ((hP.dst p hpm q (m1 q hq).1 (ne1 q hq) k h).1 hk).elim
   ·have := ((hP.dst q (m1 q hq).1 p hpm (Ne.symm (ne1 q hq)) k hk).2.2 (hP.wrb q (m1 q hq).1 k h)).1
    have := (m1 q hq).2
    omega
  ·rcases tb_iff.1 htq with h | h
   ·exact (hP.dst p hpm q (m2 q hq).1 (ne2 q hq) k h).1 hk
   ·exact clQ q (m2 q hq).1 hT ((hP.dst q (m2 q hq).1 p hpm (Ne.symm (ne2 q hq)) k hk).2.2 (hP.wrb q (m2 q hq).1 k h)).2
 ·have hkk : k ∈ keysOf p.2.2.nr := keys_find.1 ⟨x, hx⟩
  rw [agR k (fun q hq htq => ?_) (fun q hq htq hT => ?_)]
  ·exact hfr.r k x hx
  ·rcases tr_iff.1 htq with h | h
   ·exact (hP.nr p hpm q (m1 q hq).1 (ne1 q hq) k h hkk).elim
   ·have hrd := hP.rd q (m1 q hq).1 p hpm (Ne.symm (ne1 q hq)) k h
    have := (hP.mkr q (m1 q hq).1 p hpm (Ne.symm (ne1 q hq)) k hkk hrd).1
    have := (m1 q hq).2
    omega
  ·rcases tr_iff.1 htq with h | h
   ·exact hP.nr p hpm q (m2 q hq).1 (ne2 q hq) k h hkk
   ·have hrd := hP.rd q (m2 q hq).1 p hpm (Ne.symm (ne2 q hq)) k h
    exact clQ q (m2 q hq).1 hT (hP.mkr q (m2 q hq).1 p hpm (Ne.symm (ne2 q hq)) k hkk hrd).2
 ·rw [← apps_snoc]
  have hp' : inT (listed.setIfInBounds p.1 true) p = true := by simp [inT, hsz]
  have same1 : ∀ q ∈ l1, inT (listed.setIfInBounds p.1 true) q = inT listed q := fun q hq => getD_set_ne false (ne1 q hq)
  have same2 : ∀ q ∈ l2, inT (listed.setIfInBounds p.1 true) q = inT listed q := fun q hq => getD_set_ne false (ne2 q hq)
  refine apps_eq (fun q hq => ?_) (fun q hq => hP.still q (List.mem_filter.1 hq).1) (fun t => ?_) (fun t => ?_) (fun r => ?_)
  ·rcases List.mem_append.1 hq with hq | hq
   ·exact st1 q hq
   ·obtain rfl : q = p := by simpa using hq
    exact hP.still q hpm
  ·rw [he]
   refine (filt_ins hpT hp' same1 same2 fun htp q hq _ htq => ?_).symm
   exact (hP.dst p hpm q (m2 q hq).1 (ne2 q hq) t (tv_iff.1 htq)).1 (tv_iff.1 htp)
  ·rw [he]
   refine (filt_ins hpT hp' same1 same2 fun htp q hq hT htq => ?_).symm
   rcases tb_iff.1 htp with hp1 | hp1
   ·rcases tb_iff.1 htq with h | h
    ·exact (hP.dst p hpm q (m2 q hq).1 (ne2 q hq) t h).1 hp1
    ·exact clQ q (m2 q hq).1 hT ((hP.dst q (m2 q hq).1 p hpm (Ne.symm (ne2 q hq)) t hp1).2.2 (hP.wrb q (m2 q hq).1 t h)).2
   ·rcases tb_iff.1 htq with h | h
    ·have := ((hP.dst p hpm q (m2 q hq).1 (ne2 q hq) t h).2.2 (hP.wrb p hpm t hp1)).1
     have := (m2 q hq).2
     omega
    ·rcases hP.wr p hpm q (m2 q hq).1 (ne2 q hq) t h (hP.wrb p hpm t hp1) with ⟨h1, _⟩ | ⟨_, h1⟩
     ·have := (m2 q hq).2
      omega
     ·exact clQ q (m2 q hq).1 hT h1
  ·rw [he]
   refine (filt_ins hpT hp' same1 same2 fun htp q hq hT htq => ?_).symm
   rcases tr_iff.1 htp with hp1 | hp1
   ·rcases tr_iff.1 htq with h | h
    ·exact hP.nr p hpm q (m2 q hq).1 (ne2 q hq) r h hp1
    ·have hrd := hP.rd q (m2 q hq).1 p hpm (Ne.symm (ne2 q hq)) r h
     exact clQ q (m2 q hq).1 hT (hP.mkr q (m2 q hq).1 p hpm (Ne.symm (ne2 q hq)) r hp1 hrd).2
   ·have hrd := hP.rd p hpm q (m2 q hq).1 (ne2 q hq) r hp1
    rcases tr_iff.1 htq with h | h
    ·have := (hP.mkr p hpm q (m2 q hq).1 (ne2 q hq) r h hrd).1
     have := (m2 q hq).2
     omega
    ·exact clQ q (m2 q hq).1 hT (hP.kill p hpm q (m2 q hq).1 (ne2 q hq) r h hrd).2

def cnt (listed : Array Bool) (n : Nat) : Nat := ((List.range n).filter fun j => !listed.getD j false).length

theorem draw_any (hP : DrawP ops.toList m pl) (hch : Chain E n ops 0 L0 pl L1) (hlen : pl.length = m) (hm : m ≤ ops.size) {w0 : World} {C : List Nat} {Q : Exit → Act → World → Prop}
  (hQ : ∀ ρ a w, Den E w0 C n L1 ρ a w → wpOps E.P ops Q (List.range' m (ops.size - m)) a w) : ∀ (fuel : Nat) (listed : Array Bool) (ρ : Val) (a : Act) (w : World), listed.size = ops.size → (∀ j, listed.getD j false = true → j < m) →
   (∀ (k : Nat) (o : Oper), ops.toList[k]? = some o → listed.getD k false = true → ∀ j ∈ afters o, listed.getD j false = true) → cnt listed ops.size ≤ fuel → Den E w0 C n (apps L0 (pl.filter (inT listed))) ρ a w → wpAny E.P .any ops Q fuel listed a w := by
 have haft : ∀ (i : Nat) (o : Oper), ops[i]? = some o → ∀ j ∈ afters o, j < i := fun i o ho => hP.aft i o (by simpa using ho)
 have htail : ∀ (i : Nat) (o : Oper), m ≤ i → ops[i]? = some o → (∀ j, j < i → j ∈ afters o) ∨ (m < i ∧ i - 1 ∈ afters o) := fun i o hi ho => hP.tail i o hi (by simpa using ho)
 have hids := hch.idx
 have full : ∀ (fuel : Nat) (listed : Array Bool) (ρ : Val) (a : Act) (w : World), listed.size = ops.size → (∀ j, listed.getD j false = true → j < m) → (∀ j, j < m → listed.getD j false = true) → cnt listed ops.size ≤ fuel → Den E w0 C n (apps L0 (pl.filter (inT listed))) ρ a w → wpAny E.P .any ops Q fuel listed a w := by
  intro fuel listed ρ a w hsz h1 h2 hc hD
  have e : pl.filter (inT listed) = pl := List.filter_eq_self.2 fun q hq => h2 q.1 (by
   have := mem_idx hids hq
   rw [← hlen]
   exact (List.getElem?_eq_some_iff.1 this).1)
  rw [e, ← hch.apps] at hD
  refine tail_any haft m htail (ops.size - m) m fuel listed a w (Nat.le_refl _) (by omega) hsz (fun j _ => ⟨h1 j, h2 j⟩) ?_ (hQ ρ a w hD)
  refine Nat.le_trans ?_ hc
  unfold cnt
  have : (List.range' m (ops.size - m)).length ≤ ((List.range ops.size).filter fun j => !listed.getD j false).length := by
   refine List.Sublist.length_le ?_
   have e1 : List.range ops.size = List.range' 0 m ++ List.range' m (ops.size - m) := by
    rw [List.range_eq_range']
    have := List.range'_append (s := 0) (m := m) (n := ops.size - m) (step := 1)
    simp only [Nat.one_mul, Nat.zero_add] at this
    rw [this]
    congr 1
    omega
   rw [e1, List.filter_append]
   have e2 : (List.range' m (ops.size - m)).filter (fun j => !listed.getD j false) = List.range' m (ops.size - m) := List.filter_eq_self.2 fun j hj => by
    obtain ⟨q, hq, rfl⟩ := List.mem_range'.1 hj
    have : ¬ listed.getD (m + 1 * q) false = true := fun h => by have := h1 _ h; omega
    simpa using this
   rw [e2]
   exact List.sublist_append_right _ _
  simpa using this
 intro fuel
 induction fuel with
 | zero =>
  intro listed ρ a w hsz h1 hcl hc hD
  refine full 0 listed ρ a w hsz h1 (fun j hj => ?_) hc hD
  cases hb : listed.getD j false with
  | true => rfl
  | false =>
   have : j ∈ (List.range ops.size).filter fun j => !listed.getD j false := List.mem_filter.2 ⟨List.mem_range.2 (by omega), by simp [hb]⟩
   have := List.length_pos_of_mem this
   unfold cnt at hc
   omega
 | succ f ih =>
  intro listed ρ a w hsz h1 hcl hc hD
  by_cases hall : ∀ j, j < m → listed.getD j false = true
  ·exact full (f + 1) listed ρ a w hsz h1 hall hc hD
  ·obtain ⟨j0, hj0, hmin⟩ := least (fun j => j < m ∧ ¬ listed.getD j false = true) (Classical.choose (Classical.not_forall.1 hall)) (by
    have := Classical.choose_spec (Classical.not_forall.1 hall)
    exact Classical.not_imp.1 this)
   have rd0 : ∀ i o, ops[i]? = some o → i < ops.size → (listed.getD i true = false ↔ listed.getD i false = false) := fun i o ho hi => by
    rw [Array.getD_eq_getD_getElem?, Array.getD_eq_getD_getElem?, Array.getElem?_eq_getElem (by omega)]
    simp
   have isr : j0 ∈ Region.ready .any ops listed := by
    have hjs : j0 < ops.size := by omega
    refine mem_ready.2 ⟨(rd0 j0 ops[j0] (Array.getElem?_eq_getElem hjs) hjs).2 (by simpa using hj0.2), ops[j0], Array.getElem?_eq_getElem hjs, fun e he hb => ?_⟩
    have hmem : e.on ∈ afters ops[j0] := List.mem_map.2 ⟨e, List.mem_filter.2 ⟨by simpa using he, hb⟩, rfl⟩
    have hlt := haft j0 _ (Array.getElem?_eq_getElem hjs) _ hmem
    cases hb2 : listed.getD e.on false with
    | true => rfl
    | false =>
     have := hmin e.on ⟨by omega, by simp [hb2]⟩
     omega
   refine ⟨fun hr => (by rw [hr] at isr; cases isr), fun i hi => ?_⟩
   obtain ⟨hi0, o, ho, hw⟩ := mem_ready.1 hi
   have his : i < ops.size := (Array.getElem?_eq_some_iff.1 ho).1
   have hi1 := (rd0 i o ho his).1 hi0
   have haf : ∀ j ∈ afters o, listed.getD j false = true := fun j hj => by
    obtain ⟨e, he, heq⟩ := List.mem_map.1 hj
    obtain ⟨he1, he2⟩ := List.mem_filter.1 he
    have := hw e (by simpa using he1) he2
    rwa [heq] at this
   have him : i < m := by
    rcases Nat.lt_or_ge i m with h | h
    ·exact h
    ·rcases htail i o h ho with ht | ⟨hmi, ht⟩
     ·exact (hj0.2 (haf j0 (ht j0 (by omega)))).elim
     ·have := h1 _ (haf _ ht)
      omega
   have hget : pl[i]? = some pl[i] := List.getElem?_eq_getElem (by omega)
   obtain ⟨l1, l2, he, hl1⟩ : ∃ l1 l2, pl = l1 ++ pl[i] :: l2 ∧ l1.length = i := ⟨pl.take i, pl.drop (i + 1), by rw [List.getElem_cons_drop, List.take_append_drop], by rw [List.length_take]; omega⟩
   obtain ⟨hidx, hop, _, _⟩ := hch.get l1 pl[i] l2 he
   rw [Nat.zero_add, hl1] at hidx
   rw [hidx, ho] at hop
   have hop := Option.some.inj hop
   obtain ⟨s1, s2, s3⟩ := draw_step hP hch hcl he (by rw [hidx]; exact hi1) (by rw [← hop]; exact haf) (by rw [hidx]; omega)
   rw [hidx] at s1 s3
   refine s1 w0 C _ ρ a w Q _ (fun _ _ => rfl) (fun _ _ => rfl) (fun _ _ => rfl) hD s2 fun ρ' a' w' hD' => ?_
   rw [s3] at hD'
   have hset : (listed.setIfInBounds i true).getD i false = true := by simp [hsz, his]
   refine ih (listed.setIfInBounds i true) ρ' a' w' (by simp [hsz]) (fun j hj => ?_) (fun k o' ho' hk j hj => ?_) ?_ hD'
   ·by_cases e : i = j
    ·omega
    ·rw [getD_set_ne false e] at hj; exact h1 j hj
   ·by_cases e : i = k
    ·subst e
     have ho2 : ops.toList[i]? = some o := by simpa using ho
     rw [ho2] at ho'
     cases ho'
     exact getD_set_true (haf j hj)
    ·rw [getD_set_ne false e] at hk
     exact getD_set_true (hcl k o' ho' hk j hj)
   ·have hl := (filt_lt (p := fun j => !listed.getD j false) (q := fun j => !(listed.setIfInBounds i true).getD j false) (List.range ops.size) (fun x hx => by
     by_cases e : i = x
     ·subst e; rw [hset] at hx; cases hx
     ·rwa [getD_set_ne false e] at hx)).2 ⟨i, List.mem_range.2 his, by simp [hi1], by rw [hset]; rfl⟩
    unfold cnt at hc ⊢
    omega

theorem tailFrom_le (ops : List Oper) : tailFrom ops ≤ ops.length := by
 have gen : ∀ k p, k ≤ ops.length → k + ((ops.zipIdx.drop k).takeWhile p).length ≤ ops.length := fun k p hk => by
  have := List.Sublist.length_le (List.takeWhile_sublist p (l := ops.zipIdx.drop k))
  rw [List.length_drop, List.length_zipIdx] at this
  omega
 exact gen _ _ (Nat.sub_le _ _)

theorem drawn_ok (hE : EnvOk E) {Γ : List (Nat × Ctr)} (hΓ : ∀ f c, find Γ f = some c → c.holds E f) (hmo : E.P.follows .mixedOrders = true) : DrawnOk E Γ := by
 intro id ops S K h
 obtain ⟨pl, S1, A1, hK, _, hlen, hn1, hch⟩ := firstK_out hE hΓ (tailFrom ops.toList) 0 ops.toList (by simp) h
 rw [Nat.zero_add] at hK
 obtain ⟨hd, hK⟩ := hK
 obtain ⟨S', A', hK, sA, hn2, hrun⟩ := runK_out hE hΓ (ops.toList.drop (tailFrom ops.toList)) (tailFrom ops.toList) rfl hK
 obtain ⟨hs, hK⟩ := sidesK_out hK
 refine ⟨S', hK, hn2.trans hn1, fun fb fr w0 C ρ a w Q hD hq => ?_⟩
 have hch := hch (hs.mono sA) fb fr
 have hm : tailFrom ops.toList ≤ ops.size := by
  have := tailFrom_le ops.toList
  simpa using this
 have hops : ∀ p ∈ pl, ops.toList[p.1]? = some p.2.1 := fun q hq => by
  obtain ⟨a, b, e⟩ := List.append_of_mem hq
  have := (hch.get a q b e).2.1
  simpa using this
 have hP := drawOk_out hch.idx hlen hops hd
 refine wp_region_any hmo ?_
 have hnone : ∀ j, (Array.replicate ops.size false).getD j false = false := fun j => by
  rw [Array.getD_eq_getD_getElem?, Array.getElem?_replicate]
  split <;> rfl
 refine draw_any (w0 := w0) (C := C) hP hch hlen hm (fun ρ' a' w' hD' => ?_) ops.size _ ρ a _ (by simp) (fun j hj => by rw [hnone] at hj; cases hj) (fun k o _ hk => by rw [hnone] at hk; cases hk) ?_ ?_
 ·have := hrun fb fr w0 C ρ' a' w' Q hs (by rw [hn1]; exact hD') (fun ρ2 a2 w2 h2 => hq ρ2 a2 w2 (by rw [hn1] at h2; exact h2))
  simpa using this
 ·unfold cnt
  refine Nat.le_trans (List.length_filter_le _ _) (by simp)
 ·have e : pl.filter (inT (Array.replicate ops.size false)) = [] := List.filter_eq_nil_iff.2 fun q _ => by simp only [inT, hnone]; simp
  rw [e]
  exact hD.drew
end
end Go.Eng

namespace Go.Eng
open Go.RowKit

def denApp : (a b : List CT) → denC a → denC b → denC (a ++ b)
 | [], _, _, e => e
 | _ :: a, b, (d, ds), e => (d, denApp a b ds e)

theorem HC.app {E : Env} {w : World} {own : Bool} : ∀ {a b : List CT} {d : denC a} {e : denC b} {us vs : List Value} {B C : List Nat}, HC E w own a d us B → HC E w own b e vs C → HC E w own (a ++ b) (denApp a b d e) (us ++ vs) (B ++ C)
 | [], b, d, e, us, vs, B, C, h, k => by obtain ⟨rfl, rfl⟩ := h; exact k
 | .leaf l :: a, b, (d, ds), e, us, vs, B, C, ⟨us', e1, h⟩, k => by subst e1; exact ⟨us' ++ vs, rfl, h.app k⟩
 | .row t :: a, b, (d, ds), e, us, vs, B, C, ⟨x, c, us', B', e1, ho, hB, h⟩, k => by
  subst e1 hB
  exact ⟨x, c, us' ++ vs, B' ++ C, rfl, ho, by rw [List.append_assoc], h.app k⟩

def wfL : Leaf → Prop
 | .int n => -9223372036854775808 ≤ n ∧ n ≤ 9223372036854775807
 | .u8 n => 0 ≤ n ∧ n ≤ 255
 | .bool _ => True
 | .str s => s.length ≤ maxLen

def wfC : (cts : List CT) → denC cts → Prop
 | [], _ => True
 | .leaf l :: cts, (d, ds) => wfL (l.leaf d) ∧ wfC cts ds
 | .row t :: cts, (d, ds) => (d.length ≤ maxLen ∧ ∀ y ∈ d, ∀ l ∈ t.lv y, wfL l) ∧ wfC cts ds

theorem wfC_app : ∀ {a b : List CT} {d : denC a} {e : denC b}, wfC a d → wfC b e → wfC (a ++ b) (denApp a b d e)
 | [], b, d, e, _, k => k
 | .leaf l :: a, b, (d, ds), e, h, k => ⟨h.1, wfC_app h.2 k⟩
 | .row t :: a, b, (d, ds), e, h, k => ⟨h.1, wfC_app h.2 k⟩

deriving instance DecidableEq for LT

def leafs : List CT → Option (List LT)
 | [] => some []
 | .leaf l :: r => match leafs r with
  | some ls => some (l :: ls)
  | none => none
 | .row _ :: _ => none

mutual
def layT (E : Env) : Nat → TypeId → Option (List CT)
 | 0, _ => none
 | k + 1, t => match E.P.underlying t with
  | some .bool => some [.leaf .bool]
  | some (.int .i64) => some [.leaf .int]
  | some (.int .u8) => some [.leaf .u8]
  | some .string => some [.leaf .str]
  | some (.slice e) => match E.rd e, layT E k e with
   | some ty, some cs => if leafs cs = some ty.lts ∧ E.P.cellsOf e = ty.n then some [.row ty] else none
   | _, _ => none
  | some (.struct fs) => match layFs E k fs.toList 0 with
   | some cs => if cs.length = E.P.cellsOf t then some cs else none
   | none => none
  | _ => none
def layFs (E : Env) : Nat → List Field → Nat → Option (List CT)
 | _, [], _ => some []
 | 0, _ :: _, _ => none
 | k + 1, f :: fs, off => match layT E k f.type with
  | some cs => if f.offset = off ∧ cs.length = E.P.cellsOf f.type then
    match layFs E k fs (off + cs.length) with
    | some r => some (cs ++ r)
    | none => none
   else none
  | none => none
end

section
variable {E : Env} {w : World} {H : Type} {enc : TypeId × Value → H} {sp : Nat → Bool} {held : Bool}

theorem HC.leafs_of : ∀ {cts : List CT} {lts : List LT} {d : denC cts} {us : List Value} {B : List Nat}, leafs cts = some lts → HC E w false cts d us B → wfC cts d → ∃ e : denL lts, us = (leavesOf lts e).map Leaf.val ∧ ∀ l ∈ leavesOf lts e, wfL l
 | [], lts, d, us, B, h, hc, _ => by
  obtain rfl : [] = lts := Option.some.inj h
  exact ⟨(), hc.1, fun l hl => by cases hl⟩
 | .leaf l :: cts, lts, (d, ds), us, B, h, hc, hw => by
  simp only [leafs] at h
  split at h
  ·rename_i ls hls
   obtain rfl := Option.some.inj h
   obtain ⟨us', rfl, hc⟩ := hc
   obtain ⟨e, rfl, he⟩ := HC.leafs_of hls hc hw.2
   refine ⟨(d, e), rfl, fun l' hl => ?_⟩
   rcases List.mem_cons.1 hl with rfl | hl
   ·exact hw.1
   ·exact he l' hl
  ·cases h
 | .row t :: cts, lts, d, us, B, h, _, _ => by cases h

theorem trod_bool {n : Nat} {t : TypeId} {cs : List Value} {x : DataW H × List MemPlace} (hu : E.P.underlying t = some .bool) (h : DataW.trod enc E.P w 0 sp held n t cs = some x) : ∃ b, cs = [.bool b] := by
 cases n with
 | zero => cases h
 | succ n =>
  unfold DataW.trod at h
  rw [hu] at h
  split at h <;> first | exact ⟨_, rfl⟩ | (simp_all; done) | skip

theorem trod_int' {n : Nat} {t : TypeId} {k : IntKind} {cs : List Value} {x : DataW H × List MemPlace} (hu : E.P.underlying t = some (.int k)) (h : DataW.trod enc E.P w 0 sp held n t cs = some x) : ∃ m, cs = [.int k m] ∧ (Lit.int k m).wf = true := by
 cases n with
 | zero => cases h
 | succ n =>
  unfold DataW.trod at h
  rw [hu] at h
  split at h
  case h_2 k' k'' m hk =>
   split at h
   ·rename_i hh
    obtain ⟨rfl, hw⟩ := hh
    injection hk with hk
    injection hk with hk
    subst hk
    exact ⟨m, rfl, hw⟩
   ·cases h
  all_goals simp_all

theorem trod_string {n : Nat} {t : TypeId} {cs : List Value} {x : DataW H × List MemPlace} (hu : E.P.underlying t = some .string) (h : DataW.trod enc E.P w 0 sp held n t cs = some x) : ∃ s : ByteArray, cs = [.string s] ∧ s.size ≤ maxLen := by
 cases n with
 | zero => cases h
 | succ n =>
  unfold DataW.trod at h
  rw [hu] at h
  split at h
  case h_4 s hk =>
   split at h
   ·rename_i hh
    exact ⟨s, rfl, hh⟩
   ·cases h
  all_goals simp_all

theorem trod_slice {n : Nat} {t e : TypeId} {cs : List Value} {x : DataW H × List MemPlace} (hu : E.P.underlying t = some (.slice e)) (h : DataW.trod enc E.P w 0 sp held n t cs = some x) :
  cs = [.slice none 0 0] ∨ ∃ m a len cap, n = m + 1 ∧ cs = [.slice (some a) len cap] ∧ len ≤ cap ∧ cap ≤ maxLen ∧ ∀ i, i < len → ∃ us y, w.cells? 0 (a.add (i * E.P.cellsOf e)) (E.P.cellsOf e) = some us ∧ DataW.trod enc E.P w 0 sp held m e us = some y := by
 cases n with
 | zero => cases h
 | succ n =>
  unfold DataW.trod at h
  rw [hu] at h
  split at h
  case h_7 e' hk => exact .inl rfl
  case h_8 e' a len cap hk =>
   injection hk with hk
   injection hk with hk
   subst hk
   dsimp only at h
   split at h
   ·rename_i hh
    refine .inr ⟨n, a, len, cap, rfl, rfl, hh.2.1, hh.2.2, fun i hi => ?_⟩
    obtain ⟨elems, he, _⟩ := Option.bind_eq_some_iff.1 h
    have hmem := List.mem_range.2 hi
    have : ∃ y, ((w.cells? 0 (a.add (i * E.P.cellsOf e)) (E.P.cellsOf e)).bind (DataW.trod enc E.P w 0 sp held n e)) = some y := by
     have key : ∀ (l : List Nat) (r : List (DataW H × List MemPlace)), l.mapM (fun i => (w.cells? 0 (a.add (i * E.P.cellsOf e)) (E.P.cellsOf e)).bind (DataW.trod enc E.P w 0 sp held n e)) = some r → ∀ i ∈ l, ∃ y, ((w.cells? 0 (a.add (i * E.P.cellsOf e)) (E.P.cellsOf e)).bind (DataW.trod enc E.P w 0 sp held n e)) = some y := by
      intro l
      induction l with
      | nil => intro r _ i hi; cases hi
      | cons j l ih =>
       intro r hr i hi
       rw [List.mapM_cons] at hr
       obtain ⟨y, hy, hr⟩ := Option.bind_eq_some_iff.1 hr
       obtain ⟨ys, hys, _⟩ := Option.bind_eq_some_iff.1 hr
       rcases List.mem_cons.1 hi with rfl | hi
       ·exact ⟨y, hy⟩
       ·exact ih ys hys i hi
     exact key _ _ he i hmem
    obtain ⟨y, hy⟩ := this
    obtain ⟨us, h1, h2⟩ := Option.bind_eq_some_iff.1 hy
    exact ⟨us, y, h1, h2⟩
   ·cases h
  all_goals simp_all

theorem trod_struct {n : Nat} {t : TypeId} {fs : Array Field} {cs : List Value} {x : DataW H × List MemPlace} (hu : E.P.underlying t = some (.struct fs)) (h : DataW.trod enc E.P w 0 sp held n t cs = some x) :
  ∃ m xs, n = m + 1 ∧ cs.length = E.P.cellsOf t ∧ (fs.toList.mapM fun f => DataW.trod enc E.P w 0 sp held m f.type ((cs.drop f.offset).take (E.P.cellsOf f.type))) = some xs := by
 cases n with
 | zero => cases h
 | succ n =>
  unfold DataW.trod at h
  rw [hu] at h
  split at h
  case h_9 fs' hk =>
   injection hk with hk
   injection hk with hk
   subst hk
   split at h
   ·rename_i hh
    obtain ⟨xs, hxs, _⟩ := Option.map_eq_some_iff.1 h
    exact ⟨n, xs, rfl, hh, hxs⟩
   ·cases h
  all_goals simp_all
end
end Go.Eng

namespace Go.Eng
open Go.RowKit

section
variable {E : Env} {w : World} {H : Type} {enc : TypeId × Value → H} {sp : Nat → Bool} {held : Bool}

def There (w : World) (cs : List Value) : Prop := ∀ v ∈ cs, ∀ a l c, v = .slice (some a) l c → a.block < w.heap.size

theorem cells?_get {b : Nat} {a : Addr} {n : Nat} {us : List Value} (h : w.cells? b a n = some us) : us.length = n ∧ ∀ j u, us[j]? = some u → w.cell? (a.add j) = some u := by
 unfold World.cells? at h
 split at h
 ·have key : ∀ (l : List Nat) (r : List Value), l.mapM (fun i => w.cell? (a.add i)) = some r → r.length = l.length ∧ ∀ (j i : Nat), l[j]? = some i → ∃ u, r[j]? = some u ∧ w.cell? (a.add i) = some u := by
   intro l
   induction l with
   | nil => intro r hr; rw [List.mapM_nil] at hr; cases hr; exact ⟨rfl, fun j i h => by simp at h⟩
   | cons i l ih =>
    intro r hr
    rw [List.mapM_cons] at hr
    obtain ⟨y, hy, hr⟩ := Option.bind_eq_some_iff.1 hr
    obtain ⟨ys, hys, hr⟩ := Option.bind_eq_some_iff.1 hr
    cases hr
    obtain ⟨h1, h2⟩ := ih ys hys
    refine ⟨by simp [h1], fun j i' hj => ?_⟩
    cases j with
    | zero =>
     obtain rfl : i = i' := by simpa using hj
     exact ⟨y, rfl, hy⟩
    | succ j => simpa using h2 j i' (by simpa using hj)
  obtain ⟨h1, h2⟩ := key _ _ h
  rw [List.length_range] at h1
  refine ⟨h1, fun j u hj => ?_⟩
  have hlt : j < n := by rw [← h1]; exact (List.getElem?_eq_some_iff.1 hj).1
  obtain ⟨u', hu', hc⟩ := h2 j j (by simp [hlt])
  rw [hj] at hu'
  cases hu'
  exact hc
 ·cases h

theorem leafs_app {a b : List CT} (h : leafs a = none ∨ leafs b = none) : leafs (a ++ b) = none := by
 induction a with
 | nil =>
  rcases h with h | h
  ·cases h
  ·exact h
 | cons c a ih =>
  cases c with
  | row t => rfl
  | leaf l =>
   have h' : leafs a = none ∨ leafs b = none := by
    rcases h with h | h
    ·simp only [leafs] at h
     split at h
     ·cases h
     ·rename_i hn; exact .inl hn
    ·exact .inr h
   show leafs (.leaf l :: (a ++ b)) = none
   simp only [leafs, ih h']

theorem layT_read : ∀ k, (∀ t cts, layT E k t = some cts → ∀ n cs x, DataW.trod enc E.P w 0 sp held n t cs = some x → (leafs cts = none → There w cs) → ∃ d B, HC E w false cts d cs B ∧ wfC cts d) ∧
  (∀ fs off cts, layFs E k fs off = some cts → ∀ n (whole : List Value) xs, (fs.mapM fun f => DataW.trod enc E.P w 0 sp held n f.type ((whole.drop f.offset).take (E.P.cellsOf f.type))) = some xs → (leafs cts = none → There w whole) →
   ∃ d B, HC E w false cts d ((whole.drop off).take cts.length) B ∧ wfC cts d) := by
 intro k
 induction k with
 | zero =>
  refine ⟨fun t cts h => by simp [layT] at h, fun fs off cts h n whole xs hx ht => ?_⟩
  cases fs with
  | nil =>
   obtain rfl : [] = cts := by simpa [layFs] using h
   exact ⟨(), [], ⟨by simp, rfl⟩, trivial⟩
  | cons f fs => simp [layFs] at h
 | succ k ih =>
  obtain ⟨ihT, ihF⟩ := ih
  refine ⟨fun t cts h n cs x hx ht => ?_, fun fs off cts h n whole xs hx ht => ?_⟩
  ·simp only [layT] at h
   split at h
   ·rename_i hu
    obtain rfl := Option.some.inj h
    obtain ⟨b, rfl⟩ := trod_bool hu hx
    exact ⟨(b, ()), [], ⟨[], rfl, rfl, rfl⟩, trivial, trivial⟩
   ·rename_i hu
    obtain rfl := Option.some.inj h
    obtain ⟨m, rfl, hw⟩ := trod_int' hu hx
    have hw' := hw
    simp [Lit.wf, IntKind.min, IntKind.max, IntKind.signed, IntKind.bits] at hw'
    exact ⟨(m, ()), [], ⟨[], rfl, rfl, rfl⟩, hw', trivial⟩
   ·rename_i hu
    obtain rfl := Option.some.inj h
    obtain ⟨m, rfl, hw⟩ := trod_int' hu hx
    have hw' := hw
    simp [Lit.wf, IntKind.min, IntKind.max, IntKind.signed, IntKind.bits] at hw'
    exact ⟨(m, ()), [], ⟨[], rfl, rfl, rfl⟩, hw', trivial⟩
   ·rename_i hu
    obtain rfl := Option.some.inj h
    obtain ⟨s, rfl, hw⟩ := trod_string hu hx
    refine ⟨(s.data.toList, ()), [], ⟨[], ?_, rfl, rfl⟩, ?_, trivial⟩
    ·simp [LT.leaf, Leaf.val]
    ·show s.data.toList.length ≤ maxLen
     simpa using hw
   ·rename_i e hu
    split at h
    ·rename_i ty ec hty hec
     split at h
     ·rename_i hle
      obtain ⟨hle, hn⟩ := hle
      obtain rfl := Option.some.inj h
      rcases trod_slice hu hx with rfl | ⟨m, a, len, cap, rfl, rfl, h1, h2, h3⟩
      ·exact ⟨([], ()), [], ⟨none, 0, [], [], rfl, ⟨Nat.le_refl _, fun _ h => (by cases h), fun j u hj => by simp [cells] at hj⟩, rfl, rfl, rfl⟩, ⟨Nat.zero_le _, fun y hy => by cases hy⟩, trivial⟩
      ·have hel : ∀ i, i < len → ∃ y : ty.T, w.cells? 0 (a.add (i * ty.n)) ty.n = some ((ty.lv y).map Leaf.val) ∧ ∀ l ∈ ty.lv y, wfL l := fun i hi => by
        obtain ⟨us, y, hc, hy⟩ := h3 i hi
        obtain ⟨d, B, hd, hw⟩ := ihT e ec hec m us y hy (fun hno => by rw [hle] at hno; cases hno)
        obtain ⟨z, rfl, hz⟩ := HC.leafs_of hle hd hw
        refine ⟨ty.frm z, ?_, ?_⟩
        ·rw [ETy.lv, ETy.to_frm, ← hn]; exact hc
        ·rw [ETy.lv, ETy.to_frm]; exact hz
       -- the list of the elements
       obtain ⟨ys, hl, hy⟩ : ∃ ys : List ty.T, ys.length = len ∧ ∀ i (hi : i < len), ∃ y, ys[i]? = some y ∧ w.cells? 0 (a.add (i * ty.n)) ty.n = some ((ty.lv y).map Leaf.val) ∧ ∀ l ∈ ty.lv y, wfL l := by
        refine ⟨(List.range len).map fun i => if h : i < len then Classical.choose (hel i h) else ty.zero, by simp, fun i hi => ⟨Classical.choose (hel i hi), ?_, Classical.choose_spec (hel i hi)⟩⟩
        rw [List.getElem?_map, List.getElem?_range hi]
        simp [hi]
       have hthere : a.block < w.heap.size := ht (by rfl) _ List.mem_cons_self a len cap rfl
       refine ⟨(ys, ()), [a.block], ⟨some a, cap, [], [], by rw [hl], ⟨by rw [hl]; exact h1, fun ad hd => (by cases hd; exact hthere), fun j u hj => ?_⟩, rfl, rfl, rfl⟩, ⟨by rw [hl]; omega, fun y hmem l hlm => ?_⟩, trivial⟩
       ·refine ⟨a, rfl, ?_⟩
        have hjl : j < ys.length * ty.n := by rw [← cells_length]; exact (List.getElem?_eq_some_iff.1 hj).1
        have hnp := ty.n_pos
        have hq : j / ty.n < len := by rw [← hl]; exact Nat.div_lt_of_lt_mul (by rw [Nat.mul_comm]; exact hjl)
        obtain ⟨y, hyi, hc, _⟩ := hy (j / ty.n) hq
        have hm : j % ty.n < ty.n := Nat.mod_lt _ hnp
        have hdm : j / ty.n * ty.n + j % ty.n = j := by rw [Nat.mul_comm]; exact Nat.div_add_mod j ty.n
        have hg := cells_get ty ys ty.zero (j / ty.n) (by rw [hl]; exact hq) (j % ty.n) hm
        rw [hdm, hj] at hg
        have hyd : ys.getD (j / ty.n) ty.zero = y := by simp [List.getD, hyi]
        rw [hyd, ← List.getElem?_map] at hg
        have := (cells?_get hc).2 (j % ty.n) u hg.symm
        rwa [add_of_add, hdm] at this
       ·obtain ⟨i, hi, rfl⟩ := List.mem_iff_getElem.1 hmem
        obtain ⟨y, hyi, _, hwf⟩ := hy i (by rw [← hl]; exact hi)
        rw [List.getElem?_eq_getElem hi] at hyi
        cases hyi
        exact hwf l hlm
     ·cases h
    ·cases h
   ·rename_i fs hu
    split at h
    ·rename_i cs' hcs
     split at h
     ·rename_i hl
      obtain rfl := Option.some.inj h
      obtain ⟨m, xs, rfl, hlen, hxs⟩ := trod_struct hu hx
      obtain ⟨d, B, hd, hw⟩ := ihF fs.toList 0 cs' hcs m cs xs hxs ht
      rw [List.drop_zero, List.take_of_length_le (by omega)] at hd
      exact ⟨d, B, hd, hw⟩
     ·cases h
    ·cases h
   ·cases h
  ·cases fs with
   | nil =>
    obtain rfl : [] = cts := by simpa [layFs] using h
    exact ⟨(), [], ⟨by simp, rfl⟩, trivial⟩
   | cons f fs =>
    simp only [layFs] at h
    split at h
    ·rename_i c1 hc1
     split at h
     ·rename_i hof
      obtain ⟨ho, hl⟩ := hof
      split at h
      ·rename_i r hr
       obtain rfl := Option.some.inj h
       rw [List.mapM_cons] at hx
       obtain ⟨y, hy, hx⟩ := Option.bind_eq_some_iff.1 hx
       obtain ⟨ys, hys, _⟩ := Option.bind_eq_some_iff.1 hx
       rw [ho, ← hl] at hy
       obtain ⟨d1, B1, hd1, hw1⟩ := ihT f.type c1 hc1 n _ y hy fun hno v hv => ht (leafs_app (.inl hno)) v (List.mem_of_mem_drop (List.mem_of_mem_take hv))
       obtain ⟨d2, B2, hd2, hw2⟩ := ihF fs (off + c1.length) r hr n whole ys hys fun hno => ht (leafs_app (.inr hno))
       have hd := hd1.app hd2
       rw [show (whole.drop off).take c1.length ++ (whole.drop (off + c1.length)).take r.length = (whole.drop off).take (c1 ++ r).length by
        rw [List.length_append, List.take_add, List.drop_drop]] at hd
       exact ⟨_, _, hd, wfC_app hw1 hw2⟩
      ·cases h
     ·cases h
    ·cases h
end
end Go.Eng

namespace Go.Eng
open Go.RowKit

section
variable {E : Env} {P : Program} {w : World}

theorem has_lt {r : Reach} {b : Nat} {a : Addr} {e : TypeId} {n : Nat} (h : w.has P r b a e n) : a.block < w.heap.size := by
 obtain ⟨_, _, row, cells, hs, _⟩ := h
 unfold World.shape? at hs
 cases hh : w.heap[a.block]? with
 | none => rw [hh] at hs; cases hs
 | some o => exact (Array.getElem?_eq_some_iff.1 hh).1

theorem cell_there {r : Reach} {b : Nat} {t : TypeId} {a : Addr} {l c : Nat} (h : Cell.okWide P w r b t (.slice (some a) l c)) : a.block < w.heap.size := by
 unfold Cell.okWide at h
 split at h <;> simp_all
 unfold Cell.ok at h
 split at h <;> simp_all
 exact has_lt h.2.2

theorem value_there {r : Reach} {b : Nat} {t : TypeId} {v : Value} (h : Value.okWide P w r b t v) : There w v.cells.toList := by
 unfold Value.okWide at h
 have agg : (∃ cs, v = .agg cs ∧ cs.size = P.cellsOf t ∧ Row.okWide P w r b t cs) → There w v.cells.toList := fun ⟨cs, e, _, ts, _, _, hc⟩ => by
  subst e
  intro u hu a l c e
  subst e
  obtain ⟨i, hi, hv⟩ := List.mem_iff_getElem.1 hu
  obtain ⟨ty, _, hok⟩ := hc i _ (by
   have : cs.toList[i]? = some (.slice (some a) l c) := by
    rw [List.getElem?_eq_some_iff]
    exact ⟨by simpa [Value.cells] using hi, by simpa [Value.cells] using hv⟩
   simpa using this)
  exact cell_there hok
 split at h
 ·exact agg h
 ·exact agg h
 ·intro u hu a l c e
  subst e
  cases v <;> simp [Value.cells] at hu
  ·obtain ⟨rfl, rfl, rfl⟩ := hu
   exact cell_there h
  ·exfalso
   unfold Cell.okWide at h
   split at h <;> first | (simp_all; done) | skip
   unfold Cell.ok at h
   split at h <;> simp_all

def wfA : (as : List ATy) → denA as → Prop
 | [], _ => True
 | a :: as, (d, ds) => wfC a.cts (a.to d) ∧ wfA as ds

def isAggT (P : Program) (t : TypeId) : Bool :=
 match P.underlying t with
 | some (.struct _) => true
 | some (.array _ _) => true
 | _ => false

def tysOk (E : Env) : List TypeId → List ATy → Prop
 | [], [] => True
 | t :: ts, a :: as => layT E 100 t = some a.cts ∧ isAggT E.P t = a.agg ∧ tysOk E ts as
 | _, _ => False

theorem args_read {H : Type} {enc : TypeId × Value → H} {sp : Nat → Bool} {r : Reach} {b : Nat} : ∀ {ts : List TypeId} {as : List ATy} {vs : List Value} {ds : List (DataW H)} {ps : List MemPlace}, tysOk E ts as → DataW.TrodAll enc E.P w 0 sp true ts vs ds ps →
  (∀ (j : Nat) (t : TypeId) (v : Value), ts[j]? = some t → vs[j]? = some v → Value.okWide E.P w r b t v) → ∃ (x : denA as) (ro : List Nat), HA E w as (as.map fun _ => .ro) x vs ro [] [] [] ∧ wfA as x
 | [], [], [], [], ps, _, _, _ => ⟨(), [], ⟨rfl, rfl, rfl, rfl, rfl⟩, trivial⟩
 | t :: ts, a :: as, v :: vs, d :: ds, ps, hT, ⟨p, q, ⟨fuel, h0⟩, h1, _⟩, hok => by
  obtain ⟨hl, hagg, hT⟩ := hT
  have hv := hok 0 t v rfl rfl
  obtain ⟨e, B, he, hw⟩ := (layT_read 100).1 t a.cts hl fuel _ _ h0 fun _ => value_there hv
  obtain ⟨x, ro, hx, hwx⟩ := args_read hT h1 fun j t v ht hv => hok (j + 1) t v (by simpa using ht) (by simpa using hv)
  refine ⟨(a.frm e, x), B ++ ro, ⟨v, vs, _, B, rfl, by rw [a.to_frm]; exact he, ?_, ro, rfl, hx⟩, by rw [a.to_frm]; exact hw, hwx⟩
  unfold Value.okWide at hv
  rw [← hagg]
  unfold isAggT
  split at hv
  ·rename_i hu
   obtain ⟨cs, rfl, _⟩ := hv
   rw [hu]
   simp [shapeV, Value.cells]
  ·rename_i hu
   obtain ⟨cs, rfl, _⟩ := hv
   rw [hu]
   simp [shapeV, Value.cells]
  ·rename_i n1 n2
   have hone : v.cells.toList = [v] := by
    cases v <;> first | rfl | (exfalso; unfold Cell.okWide at hv; split at hv <;> first | (simp_all; done) | skip; unfold Cell.ok at hv; split at hv <;> simp_all)
   split
   ·rename_i fs hu; exact (n1 fs hu).elim
   ·rename_i n e hu; exact (n2 n e hu).elim
   ·exact hone
 | [], _ :: _, _, _, _, h, _, _ => h.elim
 | _ :: _, [], _, _, _, h, _, _ => h.elim
 | [], [], _ :: _, _, _, _, h, _ => h.elim
 | [], [], [], _ :: _, _, _, h, _ => h.elim
 | _ :: _, _ :: _, [], _, _, _, h, _ => h.elim
 | _ :: _, _ :: _, _ :: _, [], _, _, h, _ => h.elim

def lawC (as : List ATy) : Ctr := ⟨as, as.map fun _ => .ro, [aBool], wfA as, fun _ => (true, ()), id, false, .ret⟩

theorem law_calls {f : Nat} {as : List ATy} (h : (lawC as).holds E f) {x : denA as} {args : List Value} {ro : List Nat} (ha : HA E w as (as.map fun _ => .ro) x args ro [] [] []) (hw : wfA as x) :
  Calls E.P f args.toArray w fun e w' => e = .returned (.bool true) ∧ Below w.heap.size w w' := by
 refine (h.call x w args ro [] [] [] hw ha List.nodup_nil (fun g hg => by cases hg)).mono fun e w' he => ?_
 cases e with
 | panicked _ => exact he.elim
 | outgrown => exact he.elim
 | returned v =>
  obtain ⟨hk, ⟨ys, US, B, hr, ho, _, _⟩, _⟩ := he
  refine ⟨?_, ⟨hk.os, hk.tape, hk.output, hk.size, fun k hlt => hk.block k hlt (by simp)⟩⟩
  obtain ⟨u, ys', us, US', B1, B2, rfl, _, _, hs, hc, hn⟩ := ho
  obtain ⟨rfl, _, _⟩ := hn
  obtain ⟨us', rfl, _⟩ := hc
  have hu : (LT.bool.leaf true).val :: us' = [u] := hs
  injection hu with h1 h2
  rw [show v = u from hr, ← h1]
  rfl

theorem below_same {w w' : World} (hb : Below w.heap.size w w') {p : MemPlace} (hp : p.block < w.heap.size) : w.sameAt w' p := by
 cases p with
 | cell b off => exact World.cell?_of_block (hb.block b hp)
 | map b => exact hb.block b hp

theorem trodAll_stays {H : Type} {enc : TypeId × Value → H} {w' : World} {sp : Nat → Bool} (hl : laidOutB E.P = true) (hb : Below w.heap.size w w') :
  ∀ {ts : List TypeId} {vs : List Value} {ds : List (DataW H)} {ps : List MemPlace}, (∀ t ∈ ts, E.P.readableRec t = true ∧ t < E.P.types.size) → DataW.TrodAll enc E.P w 0 (fun _ => true) true ts vs ds ps → (∀ p ∈ ps, sp p.block = true) →
   DataW.TrodAll enc E.P w' 0 sp true ts vs ds ps
 | [], [], [], ps, _, h, _ => h
 | t :: ts, v :: vs, d :: ds, ps, hT, h, hs => by
  have hlt := h.lt
  obtain ⟨p, q, ⟨fuel, h0⟩, h1, rfl⟩ := h
  obtain ⟨hr, ht⟩ := hT t List.mem_cons_self
  refine ⟨p, q, ⟨fuel, DataW.trod_stays (kids_book hl hr) (book_sized hr) (fun h => by cases h) ⟨ht, book_self t⟩ h0 (fun x hx => below_same hb (hlt x (List.mem_append_left _ hx))) (fun x hx => hs x (List.mem_append_left _ hx))⟩, ?_, rfl⟩
  exact trodAll_stays hl hb (fun t ht => hT t (List.mem_cons_of_mem _ ht)) h1 fun x hx => hs x (List.mem_append_right _ hx)
 | [], _ :: _, _, _, _, h, _ => h.elim
 | _ :: _, [], _, _, _, h, _ => h.elim
 | [], [], _ :: _, _, _, h, _ => h.elim
 | _ :: _, _ :: _, [], _, _, h, _ => h.elim

theorem law_post {H : Type} {enc : TypeId × Value → H} {s : ChangeSpec} {f : Func} {apart fresh handsOn again : Bool} {w' : World} {args : Array Value} {ds gs : List (DataW H)} {before : List MemPlace} {tb : TypeId}
  (hl : laidOutB E.P = true) (hT : ∀ t ∈ f.params.toList, E.P.readableRec t = true ∧ t < E.P.types.size) (hvars : s.vars = []) (hres : f.resultTypes = #[tb]) (htb : E.P.underlying tb = some .bool)
  (hfn : s.fn H (ds ++ gs) = { results := [.lit (.bool true)], args := ds }) (hW : DataW.Whole enc E.P f.params.toList s.vars apart w args.toList ds gs before) (hb : Below w.heap.size w w') :
  s.post enc E.P f apart fresh handsOn again w args (.bool true) w' := by
 have hlt : ∀ p ∈ before, p.block < w.heap.size := fun p hp => hW.lt p hp
 have hW0 := hW
 obtain ⟨pa, pv, hA, hV, rfl, hz, hn⟩ := hW
 rw [hvars] at hV
 obtain ⟨rfl, rfl⟩ : gs = [] ∧ pv = [] := by
  cases gs with
  | nil => exact ⟨rfl, hV⟩
  | cons g gs => exact hV.elim
 rw [List.append_nil] at hlt hW0
 have hr : ∀ (b : Nat) (sp : Nat → Bool) (hd : Bool), DataW.TrodAll enc E.P w' b sp hd [tb] [.bool true] [.lit (.bool true)] [] := fun b sp hd => ⟨[], [], ⟨1, by simp [DataW.trod, htb, Value.cells]⟩, rfl, rfl⟩
 have ha : ∀ sp : Nat → Bool, (∀ p ∈ pa, sp p.block = true) → DataW.TrodAll enc E.P w' 0 sp true f.params.toList args.toList ds pa := fun sp hs => trodAll_stays hl hb hT hA hs
 have hrl : (Value.bool true).resultList 1 = [.bool true] := rfl
 refine ⟨ds, [], pa, [], pa, [], by rw [hvars]; rw [hvars] at hW0; exact hW0, ?_, ?_, ?_, ?_, fun _ => ?_⟩
 ·rw [hres, hfn]; exact hr _ _ _
 ·rw [hfn]; exact ha _ fun p hp => by simpa using hlt p hp
 ·rw [hvars, hfn]; rfl
 ·exact hb.frame _
 ·refine ⟨fun j t r h1 h2 => ?_, [.lit (.bool true)] ++ ds, [], [] ++ pa, ⟨[] ++ pa, [], ?_, ?_, by simp, ?_, ?_⟩, fun p hp _ => by simpa using hp⟩
  ·rw [hres] at h1 h2
   cases j with
   | zero =>
    obtain rfl : tb = t := by simpa using h1
    obtain rfl : Value.bool true = r := by simpa [hrl] using h2
    simp [Value.okWide, htb, Cell.okWide, Cell.ok]
   | succ j => simp at h1
  ·rw [hres]
   exact Go.ChangeShapes.trodAll_append (ha _ fun _ _ => rfl) (hr _ _ _)
  ·rw [hvars]; rfl
  ·intro b off hp
   have hin : MemPlace.cell b off ∈ pa := by simpa using hp
   rw [hb.frozen (hlt _ hin)]
   exact hz b off (by simpa using hin)
  ·intro h
   have := hn h
   simpa using this
end
end Go.Eng

namespace Go.Eng

noncomputable def vcR (E : Env) (Γ : List (Nat × Ctr)) (Λ : List (Nat × LoopSpec)) (F B : List Nat) (c : Code) : St → (Ex → St → Prop) → Prop :=
 Code.rec (motive := fun _ => St → (Ex → St → Prop) → Prop)
  (fun S K => K .normal S)
  (fun _ ops draw S K => match draw with
   | false => runK E Γ ops.toList ops.toList S [] fun S A => sidesK A (K .normal S)
   | true => firstK E Γ ops.toList (tailFrom ops.toList) ops.toList S [] fun fs l S A =>
    drawOk ops.toList (tailFrom ops.toList) fs = true ∧ runK E Γ ops.toList l S A fun S A => sidesK A (K .normal S))
  (fun _ _ va vb S K => va S fun e S => match e with
   | .normal => vb S K
   | .exit id => K (.exit id) S
   | .ret => K .ret S)
  (fun c _ _ va vb S K => match S with
   | ⟨vs, bs, rs⟩ => opK vs c fun
    | .a (.c (.leaf (.bool t))) => (t = true → va ⟨vs, bs, rs⟩ K) ∧ (t = false → vb ⟨vs, bs, rs⟩ K)
    | _ => False)
  (fun id _ vc S K => vc S fun e S => match e with
   | .normal => K .normal S
   | .exit id' => match Nat.beq id' id with
    | true => K .normal S
    | false => K (.exit id') S
   | .ret => K .ret S)
  (fun c vc S K => match firstReg c with
   | none => False
   | some id => lookK Λ id fun L => dstsK c [] fun D => match L.un with
    | false => loopK E F B L D (fun S K => vc S K) S K
    | true => vc S fun e S => match e with
     | .normal => loopK E F B L D (fun S K => vc S K) S K
     | .exit id => K (.exit id) S
     | .ret => K .ret S)
  (fun _ _ _ _ _ _ _ _ => False)
  (fun id S K => K (.exit id) S)
  (fun _ _ _ _ => False)
  (fun _ _ _ => False)
  (fun _ _ _ => False)
  (fun S K => K .ret S)
  (fun _ _ _ => False)
  c

theorem vcR_eq (E : Env) (Γ : List (Nat × Ctr)) (Λ : List (Nat × LoopSpec)) (F B : List Nat) : ∀ c, vcR E Γ Λ F B c = vcK E Γ Λ F B c := by
 intro c
 induction c with
 | skip => rfl
 | ret => rfl
 | exit id => rfl
 | label l => funext S K; simp only [vcK]; rfl
 | goto l => funext S K; simp only [vcK]; rfl
 | refuse w => funext S K; simp only [vcK]; rfl
 | scope b _ => funext S K; simp only [vcK]; rfl
 | rangeFunc f p a b _ _ => funext S K; simp only [vcK]; rfl
 | region id ops draw => funext S K; cases draw <;> rfl
 | seq a b ha hb =>
  funext S K
  show vcR E Γ Λ F B a S (fun e S => match e with
   | .normal => vcR E Γ Λ F B b S K
   | .exit id => K (.exit id) S
   | .ret => K .ret S) = _
  rw [ha, hb]
  rfl
 | block id b hb =>
  funext S K
  show vcR E Γ Λ F B b S _ = _
  rw [hb]
  rfl
 | cond o a b ha hb =>
  funext S K
  obtain ⟨vs, bs, rs⟩ := S
  show opK vs o (fun
    | .a (.c (.leaf (.bool t))) => (t = true → vcR E Γ Λ F B a ⟨vs, bs, rs⟩ K) ∧ (t = false → vcR E Γ Λ F B b ⟨vs, bs, rs⟩ K)
    | _ => False) = _
  rw [ha, hb]
  rfl
 | loop c hc =>
  funext S K
  show (match firstReg c with
   | none => False
   | some id => lookK Λ id fun L => dstsK c [] fun D => match L.un with
    | false => loopK E F B L D (fun S K => vcR E Γ Λ F B c S K) S K
    | true => vcR E Γ Λ F B c S fun e S => match e with
     | .normal => loopK E F B L D (fun S K => vcR E Γ Λ F B c S K) S K
     | .exit id => K (.exit id) S
     | .ret => K .ret S) = _
  rw [hc]
  rfl

def fnR (E : Env) (Γ : List (Nat × Ctr)) (Λ : List (Nat × LoopSpec)) (c : Ctr) (fn : Func) (ty : Nat → TypeId) (x : denA c.ins) : Prop :=
 match fn.body with
 | none => False
 | some code => startK 0 c.ins c.modes ty x fun vs bs rs => anyK (fn.ntmps - vs.length) fun us => appK vs us fun vs =>
  vcR E Γ Λ (fixVia c.via ++ fixRows 0 c.ins c.modes) (fixBlks 0 c.modes) code ⟨vs, bs, rs⟩ fun e S => match e with
   | .exit _ => False
   | _ => retK E c ty x fn.results.toList S

theorem fnR_eq (E : Env) (Γ : List (Nat × Ctr)) (Λ : List (Nat × LoopSpec)) (c : Ctr) (fn : Func) (ty : Nat → TypeId) (x : denA c.ins) : fnR E Γ Λ c fn ty x = fnK E Γ Λ c fn ty x := by
 unfold fnR fnK
 cases fn.body with
 | none => rfl
 | some code =>
  simp only [vcR_eq]
  rfl
end Go.Eng

namespace Go.Eng
open Go.RowKit

theorem gnil {E : Env} : ∀ f c, find ([] : List (Nat × Ctr)) f = some c → c.holds E f := fun _ _ h => by cases h

theorem gcons {E : Env} {k : Nat} {c : Ctr} {Γ : List (Nat × Ctr)} (h : c.holds E k) (hΓ : ∀ f c, find Γ f = some c → c.holds E f) : ∀ f c', find ((k, c) :: Γ) f = some c' → c'.holds E f := fun f c' hf => by
 unfold find at hf
 by_cases hk : k = f
 ·subst hk
  simp at hf
  exact hf ▸ h
 ·simp [hk] at hf
  exact hΓ f c' hf

structure PrgOk (E : Env) : Prop where
 env : EnvOk E
 mixed : E.P.follows .mixedOrders = true

theorem fn_ok {E : Env} (hE : PrgOk E) {Γ : List (Nat × Ctr)} (hΓ : ∀ f c, find Γ f = some c → c.holds E f) {f : Nat} {c : Ctr} {fn : Func} {code : Code}
  (hf : E.P.funcs[f]? = some fn) (hb : fn.body = some code) (hname : (fn.name == "runtime.NumGoroutine") = false) (heid : (eidsB E c.ins && eidsB E c.outs && (c.ins.all fun t => Nat.ble t.cts.length 64) && viaB c.via c.ins) = true)
  (hw : writesB c.modes = false) (h : ∀ ty x, c.pre x → ∃ Λ, fnR E Γ Λ c fn ty x) : c.holds E f :=
 holds_of_fnK hE.env hΓ (drawn_ok hE.env hΓ hE.mixed) hf hb hname heid (fun _ _ => noWritesLen hw) fun ty x hx => match h ty x hx with | ⟨Λ, h⟩ => ⟨Λ, fnR_eq _ _ _ _ _ _ _ ▸ h⟩

theorem fn_okw {E : Env} {Γ : List (Nat × Ctr)} (hE : PrgOk E) (hΓ : ∀ f c, find Γ f = some c → c.holds E f) {f : Nat} {c : Ctr} {fn : Func} {code : Code}
  (hf : E.P.funcs[f]? = some fn) (hb : fn.body = some code) (hname : (fn.name == "runtime.NumGoroutine") = false) (heid : (eidsB E c.ins && eidsB E c.outs && (c.ins.all fun t => Nat.ble t.cts.length 64) && viaB c.via c.ins) = true)
  (hlen : ∀ x, c.pre x → LenSame c.ins c.modes x (c.upd x)) (h : ∀ ty x, c.pre x → ∃ Λ, fnR E Γ Λ c fn ty x) : c.holds E f :=
 holds_of_fnK hE.env hΓ (drawn_ok hE.env hΓ hE.mixed) hf hb hname heid hlen fun ty x hx => match h ty x hx with | ⟨Λ, h⟩ => ⟨Λ, fnR_eq _ _ _ _ _ _ _ ▸ h⟩

structure Ob2 (p : Prop) : Prop where
 out : p
theorem toY {α : Type} {a : α} {P : α → Prop} (h : P a) : ∀ y, y = a → P y := fun _ e => e ▸ h
theorem toOb2 {p : Prop} (h : Ob2 p) : Ob p := ⟨h.out⟩
structure Ex2 {α : Type} (p : α → Prop) : Prop where
 out : ∃ x, p x
theorem toEx2 {α : Type} {p : α → Prop} (h : Ex2 p) : Exists p := h.out
theorem Ex2.of {α : Type} {p q : α → Prop} (x : α) (h : p x) (h' : q x) : Ex2 fun x => Ob (p x) ∧ q x := ⟨x, ⟨h⟩, h'⟩

theorem w64_id {n : Int} (h1 : -9223372036854775808 ≤ n) (h2 : n ≤ 9223372036854775807) : w64 n = n := by
 unfold w64 IntKind.wrap
 simp [IntKind.signed, IntKind.bits]
 omega
theorem w64_succ {i m : Nat} (h : i < m) (hm : m ≤ 1073741824) : w64 ((i : Int) + 1) = ((i + 1 : Nat) : Int) := by
 rw [w64_id] <;> omega
theorem drop_step {α : Type} (l : List α) (i : Nat) (d : α) (h : i < l.length) : l.drop i = l.getD i d :: l.drop (i + 1) := by
 rw [List.drop_eq_getElem_cons h]
 simp [List.getD, h]
theorem at_step {α : Type} (l : List α) (i : Nat) (d : α) (h : i < l.length) : ∃ x, l.getD (i : Int).toNat d = x ∧ l[i]? = some x ∧ l.drop i = x :: l.drop (i + 1) := by
 refine ⟨l[i], ?_, ?_, ?_⟩
 ·simp [List.getD, h]
 ·simp [h]
 ·rw [List.drop_eq_getElem_cons h]
theorem fill_step {α : Type} (a : List α) (d : α) (i : Nat) (x : α) (h : a[i]? = some x) : (a.take i ++ List.replicate (a.length - i) d).set (i : Int).toNat x = a.take (i + 1) ++ List.replicate (a.length - (i + 1)) d := by
 obtain ⟨hi, rfl⟩ := List.getElem?_eq_some_iff.1 h
 have e : a.length - i = (a.length - (i + 1)) + 1 := by omega
 have hl : (a.take i).length = i := by simp; omega
 rw [e, List.replicate_succ, Int.toNat_natCast, List.set_append_right _ _ (by omega), hl, Nat.sub_self, List.set_cons_zero, List.take_succ_eq_append_getElem hi, List.append_assoc]
 rfl
theorem lt_of_dec {i n : Nat} (h : decide ((i : Int) < (n : Int)) = true) : i < n := by simpa using h
theorem ge_of_dec {i n : Nat} (h : decide ((i : Int) < (n : Int)) = false) : n ≤ i := by simpa using h

end Go.Eng

namespace Go.Eng

abbrev sp : Char := Char.ofNat 32

theorem words_word : ∀ (w r : List Char), (w.all fun c => c != sp) = true → wordsSigns (w ++ sp :: r) = w :: wordsSigns r
 | [], r, _ => rfl
 | c :: w, r, h => by
  rw [List.all_cons, Bool.and_eq_true] at h
  have hc : c ≠ sp := by simpa using h.1
  have ih := words_word w r h.2
  show wordsSigns (c :: (w ++ sp :: r)) = _
  rw [wordsSigns, ih]
  exact fun e => hc e

theorem behind_head {P : Program} {h s c r : List Char} (e : P.initOrder = String.ofList (h ++ sp :: (s ++ sp :: (c ++ sp :: r)))) (h1 : (h.all fun c => c != sp) = true) (h2 : (s.all fun c => c != sp) = true) (h3 : (c.all fun c => c != sp) = true)
  (h4 : behindMainWord (h :: s :: []) = []) (h5 : ∀ r, behindMainWord (h :: s :: []) = [] → behindMainWord (h :: s :: r) = r) : behindMainWord (wordsSigns P.initOrder.toList) = c :: wordsSigns r := by
 rw [e, String.toList_ofList, words_word h _ h1, words_word s _ h2, words_word c _ h3, h5 _ h4]

theorem behind_two (h s : List Char) (r : List (List Char)) (k : behindMainWord (h :: s :: []) = []) : behindMainWord (h :: s :: r) = r := by
 simp only [behindMainWord] at k ⊢
 split at k
 ·rename_i hc; rw [if_pos hc]
 ·cases k
def cutW : List Char := [Char.ofNat 99, Char.ofNat 117, Char.ofNat 116]

theorem strip_cut (ws : List (List Char)) : stripLifts liftWords (cutW :: ws) = ([], cutW :: ws) := by
 simp [liftWords, stripLifts, cutW]

section
variable {P : Program} {ws : List (List Char)} (h : behindMainWord (wordsSigns P.initOrder.toList) = cutW :: ws)
include h
theorem enter_of (hl : P.laysLater = false) (hb : P.bearsReflect = false) (hd : P.doorFits [] = true) : P.mayEnter = true := by
 unfold Program.mayEnter
 rw [h]
 simp only [strip_cut, hl, hb, hd]
 simp [cutW]
theorem headLifts_of : P.headLifts = [] := by
 unfold Program.headLifts
 rw [h]
 simp only [strip_cut]
 simp
theorem lift_of : P.liftsFinal = false := by
 unfold Program.liftsFinal
 rw [headLifts_of h, h]
 simp [cutW]
theorem make_of : P.make = some .cut := by
 unfold Program.make
 rw [h]
 simp [cutW]
end
end Go.Eng

