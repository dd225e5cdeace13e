/- Plain models of what the functions compute; part 3. No program in sight. -/
import Derived.Test.YtnpeomhpbakgnaaGreatMod2
set_option linter.unusedVariables false
set_option linter.unusedSimpArgs false
namespace Go.Eng

/-- What the second end holds of the numbers of a path. -/
def Rec (b : DEnd) (th g tk : Int) : Prop := (∃ s ∈ b.subs, s.theirs = th ∧ s.give = g ∧ s.take = tk) ∨ (∃ h ∈ b.halfs, h.theirs = th ∧ h.give = g ∧ h.take = tk)
structure PI (a b : DEnd) : Prop where
 aR : a.R
 bR : b.R
 aside : a.side = 1
 bside : b.side = 2
 many : a.policy.many ≤ 4
 keys : a.peer = b.key ∧ b.peer = a.key
 done : a.done = []
 own : ∀ x ∈ a.own, x.addr ≤ 14 ∧ x.id ≤ 3
 asubs : ∀ s ∈ a.subs, s.road.own ≤ 14 ∧ s.road.port ≤ 3 ∧ s.mine < a.draw
 ahalfs : a.halfs = []
 uniq : ∀ s ∈ a.subs, ∀ s' ∈ a.subs, s.mine = s'.mine → s.take = s'.take
 bsubs : ∀ s ∈ b.subs, (s.state = 3 ∨ s.state = 4) ∧ s.road.port ≤ 3
 bhalfs : ∀ h ∈ b.halfs, h.road.port ≤ 3
 recT : ∀ th g tk, Rec b th g tk → th < a.draw ∧ tk < b.draw
 recG : ∀ th g tk, Rec b th g tk → ∀ s ∈ a.subs, th = s.mine → g = s.take
 link : ∀ s ∈ a.subs, (s.state = 2 ∨ s.state = 3) → s.give < b.draw ∧ ∀ th g tk, Rec b th g tk → tk = s.give → th = s.mine
 recU : ∀ th g th' g' tk, Rec b th g tk → Rec b th' g' tk → th = th'
/-- A letter of the first end, of the second end. -/
def LA (a _b : DEnd) (x : DLetter) : Prop := x.port ≤ 3 ∧ (x.kind = 4 → ∃ s ∈ a.subs, x.nonce = s.mine ∧ x.give = s.take)
def LB (_a b : DEnd) (x : DLetter) : Prop := x.port ≤ 3 ∧ x.kind ≠ 4 ∧ (x.kind = 5 → x.give < b.draw ∧ ∀ th g tk, Rec b th g tk → tk = x.give → th = x.tag.b)

def SubRel (l l' : List DSub) : Prop :=
 (∀ s' ∈ l', ∃ s ∈ l, s'.road = s.road ∧ s'.mine = s.mine ∧ s'.take = s.take ∧ ((s'.state = 2 ∨ s'.state = 3) → (s.state = 2 ∨ s.state = 3) ∧ s'.give = s.give)) ∧
 (∀ s ∈ l, ∃ s' ∈ l', s'.mine = s.mine ∧ s'.take = s.take)
structure AKeep (a o : DEnd) : Prop where
 draw : o.draw = a.draw
 done : o.done = a.done
 halfs : a.halfs = [] → o.halfs = []
 own : ∀ x' ∈ o.own, ∃ x ∈ a.own, x'.addr = x.addr ∧ x'.id = x.id
 subs : SubRel a.subs o.subs
theorem SubRel.refl (l : List DSub) : SubRel l l := ⟨fun s hs => ⟨s, hs, rfl, rfl, rfl, fun h => ⟨h, rfl⟩⟩, fun s hs => ⟨s, hs, rfl, rfl⟩⟩
theorem SubRel_map (l : List DSub) (g : DSub → DSub) (h : ∀ s ∈ l, (g s).road = s.road ∧ (g s).mine = s.mine ∧ (g s).take = s.take ∧ (((g s).state = 2 ∨ (g s).state = 3) → (s.state = 2 ∨ s.state = 3) ∧ (g s).give = s.give)) : SubRel l (l.map g) :=
 ⟨fun s' hs' => by obtain ⟨s, hs, rfl⟩ := List.mem_map.1 hs'; exact ⟨s, hs, h s hs⟩, fun s hs => ⟨g s, List.mem_map.2 ⟨s, hs, rfl⟩, (h s hs).2.1, (h s hs).2.2.1⟩⟩
theorem SubRel_set (l : List DSub) {k : Nat} (hk : k < l.length) (s' : DSub) (h : s'.road = (gS l k).road ∧ s'.mine = (gS l k).mine ∧ s'.take = (gS l k).take ∧ ((s'.state = 2 ∨ s'.state = 3) → ((gS l k).state = 2 ∨ (gS l k).state = 3) ∧ s'.give = (gS l k).give)) : SubRel l (l.set k s') := by
 have hm : gS l k ∈ l := by simp only [gS, List.getD]; rw [List.getElem?_eq_getElem hk]; exact List.getElem_mem _
 refine ⟨fun x hx => ?_, fun s hs => ?_⟩
 ·rcases List.mem_or_eq_of_mem_set hx with h1 | h1
  ·exact ⟨x, h1, rfl, rfl, rfl, fun h => ⟨h, rfl⟩⟩
  ·subst h1; exact ⟨_, hm, h⟩
 ·obtain ⟨i, hi, rfl⟩ := List.getElem_of_mem hs
  have hi' : i < (l.set k s').length := by simpa using hi
  refine ⟨(l.set k s')[i], List.getElem_mem hi', ?_⟩
  rw [List.getElem_set]
  split
  ·rename_i hki; subst hki
   have : gS l k = l[k] := by simp [gS, List.getD, hi]
   rw [← this]; exact ⟨h.2.1, h.2.2.1⟩
  ·exact ⟨rfl, rfl⟩
theorem PI_a {a b o : DEnd} (h : PI a b) (hR : o.R) (hs : Same a o) (k : AKeep a o) : PI o b := by
 obtain ⟨k1, k2, k3, k4, k5, k6⟩ := k
 refine ⟨hR, h.bR, hs.1.trans h.aside, h.bside, by rw [hs.2.2.2.2]; exact h.many, ⟨hs.2.2.2.1.trans h.keys.1, h.keys.2.trans hs.2.2.1.symm⟩, k2.trans h.done, fun x' hx' => ?_, fun s' hs' => ?_, k3 h.ahalfs, fun s' hs' t' ht' hm => ?_, h.bsubs, h.bhalfs, fun th g tk hr => ?_, fun th g tk hr s' hs' ht => ?_, fun s' hs' h23 => ?_, h.recU⟩
 ·obtain ⟨x, hx, h1, h2⟩ := k4 x' hx'
  have := h.own x hx; omega
 ·obtain ⟨s, hs, h1, h2, h3, _⟩ := k5 s' hs'
  have := h.asubs s hs
  rw [h1, h2, k1]; exact this
 ·obtain ⟨s, hs, h1, h2, h3, _⟩ := k5 s' hs'
  obtain ⟨t, ht, g1, g2, g3, _⟩ := k5 t' ht'
  rw [h3, g3]; exact h.uniq s hs t ht (by omega)
 ·rw [k1]; exact h.recT th g tk hr
 ·obtain ⟨s, hs, h1, h2, h3, _⟩ := k5 s' hs'
  rw [h3]; exact h.recG th g tk hr s hs (by omega)
 ·obtain ⟨s, hs, h1, h2, h3, h4⟩ := k5 s' hs'
  obtain ⟨h5, h6⟩ := h4 h23
  have := h.link s hs h5
  rw [h6, h2]; exact this
theorem LA_a {a b o : DEnd} {m : DLetter} (k : AKeep a o) (h : LA a b m) : LA o b m := by
 refine ⟨h.1, fun h4 => ?_⟩
 obtain ⟨s, hs, h1, h2⟩ := h.2 h4
 obtain ⟨s', hs', g1, g2⟩ := k.subs.2 s hs
 exact ⟨s', hs', by omega, by omega⟩
structure BKeep (b o : DEnd) : Prop where
 draw : b.draw ≤ o.draw
 subs : ∀ s' ∈ o.subs, (s'.state = 3 ∨ s'.state = 4) ∧ s'.road.port ≤ 3
 halfs : ∀ h ∈ o.halfs, h.road.port ≤ 3
 recs : ∀ th g tk, Rec o th g tk → Rec b th g tk ∨ (b.draw ≤ tk ∧ tk < o.draw)
theorem PI_b {a b o : DEnd} (h : PI a b) (hR : o.R) (hs : Same b o) (k : BKeep b o) (hn : ∀ th g tk, Rec o th g tk → ¬ Rec b th g tk → th < a.draw ∧ ∀ s ∈ a.subs, th = s.mine → g = s.take)
  (hu : ∀ th g th' g' tk, Rec o th g tk → Rec o th' g' tk → b.draw ≤ tk → th = th') : PI a o := by
 obtain ⟨k1, k2, k3, k4⟩ := k
 refine ⟨h.aR, hR, h.aside, hs.1.trans h.bside, h.many, ⟨h.keys.1.trans hs.2.2.1.symm, hs.2.2.2.1.trans h.keys.2⟩, h.done, h.own, h.asubs, h.ahalfs, h.uniq, k2, k3, fun th g tk hr => ?_, fun th g tk hr => ?_, fun s hs h23 => ?_, fun th g th' g' tk h1 h2 => ?_⟩
 ·by_cases hb : Rec b th g tk
  ·have := h.recT th g tk hb; omega
  ·rcases k4 th g tk hr with h1 | h1
   ·exact absurd h1 hb
   ·exact ⟨(hn th g tk hr hb).1, h1.2⟩
 ·by_cases hb : Rec b th g tk
  ·exact h.recG th g tk hb
  ·exact (hn th g tk hr hb).2
 ·obtain ⟨h1, h2⟩ := h.link s hs h23
  refine ⟨by omega, fun th g tk hr ht => ?_⟩
  rcases k4 th g tk hr with h3 | h3
  ·exact h2 th g tk h3 ht
  ·omega
 ·by_cases hd : b.draw ≤ tk
  ·exact hu th g th' g' tk h1 h2 hd
  ·rcases k4 th g tk h1 with g1 | g1
   ·rcases k4 th' g' tk h2 with g2 | g2
    ·exact h.recU th g th' g' tk g1 g2
    ·omega
   ·omega
theorem LB_b {a b o : DEnd} {m : DLetter} (k : BKeep b o) (h : LB a b m) : LB a o m := by
 refine ⟨h.1, h.2.1, fun h5 => ?_⟩
 obtain ⟨h1, h2⟩ := h.2.2 h5
 have := k.draw
 refine ⟨by omega, fun th g tk hr ht => ?_⟩
 rcases k.recs th g tk hr with h3 | h3
 ·exact h2 th g tk h3 ht
 ·omega
theorem told_own {l : List DAddr} {k : Nat} : ∀ x' ∈ l.set k { l.getD k (ETy.zero .addr) with told := true }, ∃ x ∈ l, x'.addr = x.addr ∧ x'.id = x.id := fun x' hx' => by
 obtain ⟨a, ha, h1, h2⟩ := told_mem hx'
 exact ⟨a, ha, h2.symm, h1.symm⟩
theorem AKeep_q {a o : DEnd} (h1 : o.draw = a.draw) (h2 : o.done = a.done) (h3 : o.halfs = a.halfs) (h4 : o.own = a.own) (h5 : o.subs = a.subs) : AKeep a o :=
 ⟨h1, h2, fun h => h3.trans h, fun x hx => ⟨x, h4 ▸ hx, rfl, rfl⟩, h5 ▸ SubRel.refl _⟩
theorem AKeep.refl (a : DEnd) : AKeep a a := AKeep_q rfl rfl rfl rfl rfl
theorem AKeep_s {a o : DEnd} (h1 : o.draw = a.draw) (h2 : o.done = a.done) (h3 : o.halfs = a.halfs) (h4 : o.own = a.own) (h5 : SubRel a.subs o.subs) : AKeep a o :=
 ⟨h1, h2, fun h => h3.trans h, fun x hx => ⟨x, h4 ▸ hx, rfl, rfl⟩, h5⟩
theorem SubRel_goneIf (l : List DSub) (p : DSub → Bool) : SubRel l (goneIf p l) := by
 refine SubRel_map l _ fun s _ => ?_
 split
 ·exact ⟨rfl, rfl, rfl, fun h => by rcases h with h | h <;> simp at h⟩
 ·exact ⟨rfl, rfl, rfl, fun h => ⟨h, rfl⟩⟩
/-- Of a letter that is no road's asking, what the first end keeps. -/
theorem setSub_keep {a : DEnd} {k : Int} {j : Nat} (hk : k = (j : Int)) (hj : j < a.subs.length) (f : DSub → DSub) (h : (f (gS a.subs j)).road = (gS a.subs j).road ∧ (f (gS a.subs j)).mine = (gS a.subs j).mine ∧ (f (gS a.subs j)).take = (gS a.subs j).take ∧ (((f (gS a.subs j)).state = 2 ∨ (f (gS a.subs j)).state = 3) → ((gS a.subs j).state = 2 ∨ (gS a.subs j).state = 3) ∧ (f (gS a.subs j)).give = (gS a.subs j).give)) : AKeep a (setSub a k f) := by
 subst hk
 refine AKeep_s rfl rfl rfl rfl ?_
 exact SubRel_set a.subs hj (f (gS a.subs j)) h
theorem signed_at {e : DEnd} {x : DLetter} (h : 0 ≤ mSignedOn e x) : ∃ j : Nat, mSignedOn e x = (j : Int) ∧ j < e.subs.length ∧ mSubAt e (mRoadOf x) = (j : Int) ∧ (gS e.subs j).road = mRoadOf x ∧ (gS e.subs j).state = 3 ∧ (gS e.subs j).take = x.sign := by
 unfold mSignedOn at h ⊢
 split at h
 ·omega
 ·rename_i hc
  rw [if_neg hc]
  simp only [not_or, Decidable.not_not] at hc
  obtain ⟨j, hj, hl⟩ := subAt_nat (e := e) (r := mRoadOf x) (by omega)
  have hr := subAt_road hj
  rw [hj] at hc ⊢
  exact ⟨j, rfl, hl, rfl, hr.2.1, by simpa [gS] using hc.2.1, by simpa [gS] using hc.2.2⟩
def Small (x : DLetter) (ls : List DLetter) : Prop := ∀ m ∈ ls, m.port = x.port ∧ (m.kind = 7 ∨ m.kind = 9 ∨ m.kind = 12 ∨ m.kind = 6)
theorem Small_nil (x : DLetter) : Small x [] := fun m hm => by simp at hm
theorem Small_one {x m : DLetter} (h : m.port = x.port ∧ (m.kind = 7 ∨ m.kind = 9 ∨ m.kind = 12 ∨ m.kind = 6)) : Small x [m] := fun y hy => by rw [List.mem_singleton.1 hy]; exact h
theorem a_ack {a : DEnd} (x : DLetter) (h0 : a.halfs = []) : AKeep a (mHearJoinDone a x).1 ∧ Small x (mHearJoinDone a x).2 := by
 have hn : mHalfAt a.halfs (mRoadOf x) = -1 := by rw [h0]; rfl
 unfold mHearJoinDone
 split
 ·rw [if_neg (by rw [hn]; omega)]
  split
  ·exact ⟨AKeep.refl a, Small_one ⟨rfl, .inl rfl⟩⟩
  ·exact ⟨AKeep.refl a, Small_nil _⟩
 ·exact ⟨AKeep.refl a, Small_nil _⟩
theorem a_joinAck {a : DEnd} (x : DLetter) : AKeep a (mHearJoinAck a x).1 ∧ Small x (mHearJoinAck a x).2 := by
 unfold mHearJoinAck
 split
 ·rename_i hc
  obtain ⟨j, hj, hl⟩ := subAt_nat hc.2.2.1
  have h2 : (gS a.subs j).state = 2 := by have := hc.2.2.2.1; rw [hj] at this; simpa [gSub, gS] using this
  exact ⟨setSub_keep hj hl (fun s => { s with state := 3 }) ⟨rfl, rfl, rfl, fun _ => ⟨.inl h2, rfl⟩⟩, Small_nil _⟩
 ·exact ⟨AKeep.refl a, Small_nil _⟩
theorem a_addr {a : DEnd} (x : DLetter) : AKeep a (mHearAddr a x).1 ∧ Small x (mHearAddr a x).2 := by
 unfold mHearAddr
 split
 ·exact ⟨AKeep_q rfl rfl rfl rfl rfl, Small_one ⟨rfl, .inr (.inl rfl)⟩⟩
 ·exact ⟨AKeep.refl a, Small_nil _⟩
theorem a_echo {a : DEnd} (x : DLetter) : AKeep a (mHearEcho a x).1 ∧ Small x (mHearEcho a x).2 := by
 unfold mHearEcho
 split
 ·exact ⟨⟨rfl, rfl, fun h => h, told_own, SubRel.refl _⟩, Small_nil _⟩
 ·exact ⟨AKeep.refl a, Small_nil _⟩
theorem a_gone {a : DEnd} (x : DLetter) : AKeep a (mHearGone a x).1 ∧ Small x (mHearGone a x).2 := by
 unfold mHearGone
 split
 ·exact ⟨AKeep_s rfl rfl rfl rfl (SubRel_goneIf _ _), Small_nil _⟩
 ·exact ⟨AKeep.refl a, Small_nil _⟩
theorem a_data {a : DEnd} (x : DLetter) : AKeep a (mHearData a x).1 ∧ Small x (mHearData a x).2 := by
 unfold mHearData
 repeat' split
 ·exact ⟨AKeep.refl a, Small_nil _⟩
 ·exact ⟨AKeep_q rfl rfl rfl rfl rfl, Small_one ⟨rfl, .inr (.inr (.inl rfl))⟩⟩
 ·exact ⟨AKeep.refl a, Small_nil _⟩
theorem a_came {a : DEnd} (x : DLetter) : AKeep a (mHearCame a x).1 ∧ Small x (mHearCame a x).2 := by
 unfold mHearCame
 split
 ·exact ⟨AKeep_q rfl rfl rfl rfl rfl, Small_nil _⟩
 ·exact ⟨AKeep.refl a, Small_nil _⟩
theorem a_reset {a : DEnd} (x : DLetter) : AKeep a (mHearReset a x).1 ∧ Small x (mHearReset a x).2 := by
 unfold mHearReset
 split
 ·rename_i hc
  obtain ⟨j, hj, hl, _⟩ := signed_at hc.2.2
  exact ⟨setSub_keep hj hl (fun s => { s with state := 4 }) ⟨rfl, rfl, rfl, fun h => by rcases h with h | h <;> simp at h⟩, Small_nil _⟩
 ·exact ⟨AKeep.refl a, Small_nil _⟩
theorem Small_LA {a b : DEnd} {x : DLetter} {ls : List DLetter} (h : Small x ls) (hp : x.port ≤ 3) : ∀ m ∈ ls, LA a b m := fun m hm => by
 obtain ⟨h1, h2⟩ := h m hm
 exact ⟨by omega, fun h4 => by omega⟩
theorem Small_LB {a b : DEnd} {x : DLetter} {ls : List DLetter} (h : Small x ls) (hp : x.port ≤ 3) : ∀ m ∈ ls, LB a b m := fun m hm => by
 obtain ⟨h1, h2⟩ := h m hm
 exact ⟨by omega, by omega, fun h4 => by omega⟩
/-- The first end hears. -/
theorem hearA_back {a b : DEnd} (x : DLetter) (h : PI a b) (hl : LB a b x) (h5 : x.kind = 5) : PI (mHearJoinBack a x).1 b ∧ Small x (mHearJoinBack a x).2 ∧ (∀ m, LA a b m → LA (mHearJoinBack a x).1 b m) := by
 have hR : (mHearJoinBack a x).1.R := R_of h.aR (mHearJoinBack_G x h.aR.1) (mHearJoinBack_same a x)
 revert hR
 unfold mHearJoinBack
 split
 ·rename_i hc
  intro hR
  obtain ⟨_, c2, c3, c4, c5, c6⟩ := hc
  obtain ⟨j, hj, hjl⟩ := subAt_nat c4
  have hro := subAt_road hj
  have hgs : gSub a (mSubAt a (mRoadOf x)) = gS a.subs j := by rw [hj]; simp [gSub, gS]
  have hm : gS a.subs j ∈ a.subs := by simp only [gS, List.getD]; rw [List.getElem?_eq_getElem hjl]; exact List.getElem_mem _
  rw [hgs] at c5 c6
  have hset : ∀ s' ∈ (setSub a (mSubAt a (mRoadOf x)) (fun s => { s with state := 2, theirs := x.nonce, give := x.give, tries := 0 })).subs, s' ∈ a.subs ∨ s' = { gS a.subs j with state := 2, theirs := x.nonce, give := x.give, tries := 0 } := fun s' hs' => by
   simp only [setSub, hgs] at hs'
   exact List.mem_or_eq_of_mem_set hs'
  have hmem : ∀ s ∈ a.subs, ∃ s' ∈ (setSub a (mSubAt a (mRoadOf x)) (fun s => { s with state := 2, theirs := x.nonce, give := x.give, tries := 0 })).subs, s'.mine = s.mine ∧ s'.take = s.take := fun s hs => by
   obtain ⟨i, hi, rfl⟩ := List.getElem_of_mem hs
   have hi' : i < (a.subs.set (mSubAt a (mRoadOf x)).toNat { gS a.subs j with state := 2, theirs := x.nonce, give := x.give, tries := 0 }).length := by simpa using hi
   refine ⟨(a.subs.set (mSubAt a (mRoadOf x)).toNat { gS a.subs j with state := 2, theirs := x.nonce, give := x.give, tries := 0 })[i], ?_, ?_⟩
   ·simp only [setSub, hgs]; exact List.getElem_mem hi'
   ·rw [List.getElem_set]
    split
    ·rename_i hki
     rw [hj] at hki; simp at hki; subst hki
     have : gS a.subs j = a.subs[j] := by simp [gS, List.getD, hi]
     rw [← this]; exact ⟨rfl, rfl⟩
    ·exact ⟨rfl, rfl⟩
  have hj1 := h.asubs _ hm
  refine ⟨⟨hR, h.bR, h.aside, h.bside, h.many, h.keys, h.done, h.own, fun s' hs' => ?_, h.ahalfs, fun s' hs' t' ht' hmm => ?_, h.bsubs, h.bhalfs, h.recT, fun th g tk hr s' hs' ht => ?_, fun s' hs' h23 => ?_, h.recU⟩, Small_one ⟨?_, .inr (.inr (.inr rfl))⟩, fun m hma => ⟨hma.1, fun h4 => ?_⟩⟩
  ·rcases hset s' hs' with h1 | rfl
   ·exact h.asubs s' h1
   ·exact hj1
  ·rcases hset s' hs' with h1 | rfl
   ·rcases hset t' ht' with h2 | rfl
    ·exact h.uniq s' h1 t' h2 hmm
    ·exact h.uniq s' h1 (gS a.subs j) hm hmm
   ·rcases hset t' ht' with h2 | rfl
    ·exact h.uniq (gS a.subs j) hm t' h2 hmm
    ·rfl
  ·rcases hset s' hs' with h1 | rfl
   ·exact h.recG th g tk hr s' h1 ht
   ·exact h.recG th g tk hr (gS a.subs j) hm ht
  ·rcases hset s' hs' with h1 | rfl
   ·exact h.link s' h1 h23
   ·obtain ⟨l1, l2⟩ := hl.2.2 h5
    refine ⟨l1, fun th g tk hr ht => ?_⟩
    rw [l2 th g tk hr ht, c6]; rfl
  ·show (gSub a (mSubAt a (mRoadOf x))).road.port = x.port
   rw [hgs, hro.2.1]; rfl
  ·obtain ⟨s, hs, g1, g2⟩ := hma.2 h4
   obtain ⟨s', hs', g3, g4⟩ := hmem s hs
   exact ⟨s', hs', by omega, by omega⟩
 ·intro _
  exact ⟨h, Small_nil _, fun m hm => hm⟩
theorem hearA {a b : DEnd} (x : DLetter) (h : PI a b) (hl : LB a b x) : PI (mHear a x).1 b ∧ Small x (mHear a x).2 ∧ (∀ m, LA a b m → LA (mHear a x).1 b m) := by
 have P := @iteP (DEnd × List DLetter) (fun z => PI z.1 b ∧ Small x z.2 ∧ (∀ m, LA a b m → LA z.1 b m))
 have h0 : PI a b ∧ Small x [] ∧ (∀ m, LA a b m → LA a b m) := ⟨h, Small_nil _, fun m hm => hm⟩
 have q : ∀ {z : DEnd × List DLetter}, z.1.G → Same a z.1 → AKeep a z.1 ∧ Small x z.2 → PI z.1 b ∧ Small x z.2 ∧ (∀ m, LA a b m → LA z.1 b m) :=
  fun hg hs hk => ⟨PI_a h (R_of h.aR hg hs) hs hk.1, hk.2, fun m hm => LA_a hk.1 hm⟩
 have hG := h.aR.1
 unfold mHear
 by_cases h4 : x.kind = 4
 ·exact absurd h4 hl.2.1
 by_cases h5 : x.kind = 5
 ·rw [if_neg (by omega : ¬ x.kind = 1), if_neg (by omega : ¬ x.kind = 2), if_neg h4, if_pos h5]
  exact P (hearA_back x h hl h5) h0
 ·rw [if_neg h4, if_neg h5]
  refine P (P ?_ (P ?_ (P (q (mHearJoinDone_G x hG) (mHearJoinDone_same a x) (a_ack x h.ahalfs)) (P (q (mHearJoinAck_G x hG) (mHearJoinAck_same a x) (a_joinAck x)) (P (q (mHearAddr_G x hG) (mHearAddr_same a x) (a_addr x)) (P (q (mHearEcho_G x hG) (mHearEcho_same a x) (a_echo x)) (P (q (mHearGone_G x hG) (mHearGone_same a x) (a_gone x)) (P (q (mHearData_G x hG) (mHearData_same a x) (a_data x)) (P (q (mHearCame_G x hG) (mHearCame_same a x) (a_came x)) (P (q (mHearReset_G x hG) (mHearReset_same a x) (a_reset x)) h0)))))))))) h0
  ·rw [mHearHello_2 x h.aR.2]; exact h0
  ·rw [mHearBack_2 x h.aR.2]; exact h0
end Go.Eng

namespace Go.Eng

theorem BKeep_s {a b o : DEnd} (h : PI a b) (h1 : o.draw = b.draw) (h2 : ∀ s' ∈ o.subs, ∃ s ∈ b.subs, (s'.state = 3 ∨ s'.state = 4) ∧ s'.road = s.road ∧ s'.theirs = s.theirs ∧ s'.give = s.give ∧ s'.take = s.take) (h3 : ∀ x ∈ o.halfs, x ∈ b.halfs) : BKeep b o := by
 refine ⟨by omega, fun s' hs' => ?_, fun x hx => h.bhalfs x (h3 x hx), fun th g tk hr => .inl ?_⟩
 ·obtain ⟨s, hs, g1, g2, _⟩ := h2 s' hs'
  rw [g2]; exact ⟨g1, (h.bsubs s hs).2⟩
 ·rcases hr with ⟨s', hs', e1, e2, e3⟩ | ⟨x, hx, e⟩
  ·obtain ⟨s, hs, _, _, g1, g2, g3⟩ := h2 s' hs'
   exact .inl ⟨s, hs, by omega, by omega, by omega⟩
  ·exact .inr ⟨x, h3 x hx, e⟩
theorem BKeep_q {a b o : DEnd} (h : PI a b) (h1 : o.draw = b.draw) (h2 : o.subs = b.subs) (h3 : o.halfs = b.halfs) : BKeep b o :=
 BKeep_s h h1 (fun s' hs' => ⟨s', h2 ▸ hs', (h.bsubs s' (h2 ▸ hs')).1, rfl, rfl, rfl, rfl⟩) (fun x hx => h3 ▸ hx)
theorem PI_keep {a b o : DEnd} (h : PI a b) (hR : o.R) (hs : Same b o) (k : BKeep b o) (hq : o.draw = b.draw) : PI a o := by
 have hr : ∀ th g tk, Rec o th g tk → Rec b th g tk := fun th g tk hr => by
  rcases k.recs th g tk hr with h1 | h1
  ·exact h1
  ·omega
 exact PI_b h hR hs k (fun th g tk h1 h2 => absurd (hr th g tk h1) h2) (fun th g th' g' tk h1 h2 _ => h.recU th g th' g' tk (hr th g tk h1) (hr th' g' tk h2))
/-- What the second end answers is small, and it keeps what it holds. -/
def BOk (b : DEnd) (x : DLetter) (z : DEnd × List DLetter) : Prop := BKeep b z.1 ∧ z.1.draw = b.draw ∧ Small x z.2
theorem BOk_refl {a b : DEnd} (h : PI a b) (x : DLetter) : BOk b x (b, []) := ⟨BKeep_q h rfl rfl rfl, rfl, Small_nil _⟩
theorem b_back {a b : DEnd} (x : DLetter) (h : PI a b) : mHearJoinBack b x = (b, []) := by
 unfold mHearJoinBack
 rw [if_neg]
 rintro ⟨_, _, _, h4, h5, _⟩
 obtain ⟨j, hj, hl⟩ := subAt_nat h4
 rw [hj] at h5
 have hm : gS b.subs j ∈ b.subs := by simp only [gS, List.getD]; rw [List.getElem?_eq_getElem hl]; exact List.getElem_mem _
 have := (h.bsubs _ hm).1
 have h5 : (gS b.subs j).state = 1 := by simpa [gSub, gS] using h5
 omega
theorem b_ack {a b : DEnd} (x : DLetter) (h : PI a b) : mHearJoinAck b x = (b, []) := by
 unfold mHearJoinAck
 rw [if_neg]
 rintro ⟨_, _, h4, h5, _⟩
 obtain ⟨j, hj, hl⟩ := subAt_nat h4
 rw [hj] at h5
 have hm : gS b.subs j ∈ b.subs := by simp only [gS, List.getD]; rw [List.getElem?_eq_getElem hl]; exact List.getElem_mem _
 have := (h.bsubs _ hm).1
 have h5 : (gS b.subs j).state = 2 := by simpa [gSub, gS] using h5
 omega
theorem b_addr {a b : DEnd} (x : DLetter) (h : PI a b) : BOk b x (mHearAddr b x) := by
 unfold mHearAddr
 split
 ·exact ⟨BKeep_q h rfl rfl rfl, rfl, Small_one ⟨rfl, .inr (.inl rfl)⟩⟩
 ·exact BOk_refl h x
theorem b_echo {a b : DEnd} (x : DLetter) (h : PI a b) : BOk b x (mHearEcho b x) := by
 unfold mHearEcho
 split
 ·exact ⟨BKeep_q h rfl rfl rfl, rfl, Small_nil _⟩
 ·exact BOk_refl h x
theorem goneIf_b {a b : DEnd} (h : PI a b) (p : DSub → Bool) : ∀ s' ∈ goneIf p b.subs, ∃ s ∈ b.subs, (s'.state = 3 ∨ s'.state = 4) ∧ s'.road = s.road ∧ s'.theirs = s.theirs ∧ s'.give = s.give ∧ s'.take = s.take := fun s' hs' => by
 obtain ⟨s, hs, rfl⟩ := List.mem_map.1 hs'
 refine ⟨s, hs, ?_⟩
 split
 ·exact ⟨.inr rfl, rfl, rfl, rfl, rfl⟩
 ·exact ⟨(h.bsubs s hs).1, rfl, rfl, rfl, rfl⟩
theorem b_gone {a b : DEnd} (x : DLetter) (h : PI a b) : BOk b x (mHearGone b x) := by
 unfold mHearGone
 split
 ·exact ⟨BKeep_s h rfl (goneIf_b h _) (fun _ h => h), rfl, Small_nil _⟩
 ·exact BOk_refl h x
theorem b_data {a b : DEnd} (x : DLetter) (h : PI a b) : BOk b x (mHearData b x) := by
 unfold mHearData
 repeat' split
 ·exact BOk_refl h x
 ·exact ⟨BKeep_q h rfl rfl rfl, rfl, Small_one ⟨rfl, .inr (.inr (.inl rfl))⟩⟩
 ·exact BOk_refl h x
theorem b_came {a b : DEnd} (x : DLetter) (h : PI a b) : BOk b x (mHearCame b x) := by
 unfold mHearCame
 split
 ·exact ⟨BKeep_q h rfl rfl rfl, rfl, Small_nil _⟩
 ·exact BOk_refl h x
theorem goneAt_b {a b : DEnd} (h : PI a b) {k : Nat} (hk : k < b.subs.length) : ∀ s' ∈ b.subs.set k { b.subs.getD k (ETy.zero .sub) with state := 4 }, ∃ s ∈ b.subs, (s'.state = 3 ∨ s'.state = 4) ∧ s'.road = s.road ∧ s'.theirs = s.theirs ∧ s'.give = s.give ∧ s'.take = s.take := fun s' hs' => by
 have hm : gS b.subs k ∈ b.subs := by simp only [gS, List.getD]; rw [List.getElem?_eq_getElem hk]; exact List.getElem_mem _
 rcases List.mem_or_eq_of_mem_set hs' with h1 | h1
 ·exact ⟨s', h1, (h.bsubs s' h1).1, rfl, rfl, rfl, rfl⟩
 ·subst h1; exact ⟨_, hm, .inr rfl, rfl, rfl, rfl, rfl⟩
theorem b_reset {a b : DEnd} (x : DLetter) (h : PI a b) : BOk b x (mHearReset b x) := by
 unfold mHearReset
 split
 ·rename_i hc
  obtain ⟨j, hj, hl, _⟩ := signed_at hc.2.2
  refine ⟨BKeep_s h rfl ?_ (fun _ h => h), rfl, Small_nil _⟩
  have := goneAt_b h hl
  rw [hj]
  simpa [setSub, gSub] using this
 ·exact BOk_refl h x
theorem b_done {a b : DEnd} (x : DLetter) (h : PI a b) (hp : x.port ≤ 3) : BOk b x (mHearJoinDone b x) := by
 unfold mHearJoinDone
 split
 ·split
  ·rename_i hd
   have he := G_E h.bR.1
   obtain ⟨k, hk, hl, g1, _⟩ := half_get he.halfs hd.1
   have hm : gH b.halfs k ∈ b.halfs := by simp only [gH, List.getD]; rw [List.getElem?_eq_getElem hl]; exact List.getElem_mem _
   have hgh : gHalf b (mHalfAt b.halfs (mRoadOf x)) = gH b.halfs k := by rw [hk]; simp [gHalf, gH]
   have hold : ∀ s' ∈ mGoneAt b.subs (mSubAt b (mRoadOf x)), ∃ s ∈ b.subs, (s'.state = 3 ∨ s'.state = 4) ∧ s'.road = s.road ∧ s'.theirs = s.theirs ∧ s'.give = s.give ∧ s'.take = s.take := by
    unfold mGoneAt
    split
    ·rename_i h0
     obtain ⟨j, hj, hjl⟩ := subAt_nat h0
     rw [hj, Int.toNat_natCast]; exact goneAt_b h hjl
    ·intro s' hs'; exact ⟨s', hs', (h.bsubs s' hs').1, rfl, rfl, rfl, rfl⟩
   refine ⟨⟨Int.le_refl _, fun s' hs' => ?_, fun y hy => h.bhalfs y ((dropHalf_sub _ _).subset hy), fun th g tk hr => .inl ?_⟩, rfl, Small_one ⟨rfl, .inl rfl⟩⟩
   ·rcases List.mem_append.1 hs' with h1 | h1
    ·obtain ⟨s, hs, g1, g2, _⟩ := hold s' h1
     rw [g2]; exact ⟨g1, (h.bsubs s hs).2⟩
    ·rw [List.mem_singleton.1 h1]; exact ⟨.inl rfl, hp⟩
   ·rcases hr with ⟨s', hs', e1, e2, e3⟩ | ⟨y, hy, e⟩
    ·rcases List.mem_append.1 hs' with h1 | h1
     ·obtain ⟨s, hs, _, _, f1, f2, f3⟩ := hold s' h1
      exact .inl ⟨s, hs, by omega, by omega, by omega⟩
     ·have h1 := List.mem_singleton.1 h1
      subst h1
      rw [hgh] at e1 e2 e3
      exact .inr ⟨_, hm, e1, e2, e3⟩
    ·exact .inr ⟨y, (dropHalf_sub _ _).subset hy, e⟩
  ·split
   ·exact ⟨BKeep_q h rfl rfl rfl, rfl, Small_one ⟨rfl, .inl rfl⟩⟩
   ·exact BOk_refl h x
 ·exact BOk_refl h x
theorem putHalf_mem {l : List DHalf} {x y : DHalf} (h : y ∈ (mPutHalf l x).1) : y = x ∨ y ∈ l := by
 unfold mPutHalf at h
 split at h
 ·have h : y ∈ mPutHalfL l x := h
  unfold mPutHalfL at h
  split at h
  ·rcases List.mem_or_eq_of_mem_set h with h1 | h1
   ·exact .inr h1
   ·exact .inl h1
  ·rcases List.mem_append.1 h with h1 | h1
   ·exact .inr h1
   ·exact .inl (List.mem_singleton.1 h1)
 ·exact .inr h
theorem b_join {a b : DEnd} (x : DLetter) (h : PI a b) (hl : LA a b x) (h4 : x.kind = 4) : PI a (mHearJoin b x).1 ∧ (∀ m ∈ (mHearJoin b x).2, LB a (mHearJoin b x).1 m) ∧ (∀ m, LB a b m → LB a (mHearJoin b x).1 m) := by
 have hR : (mHearJoin b x).1.R := R_of h.bR (mHearJoin_G x h.bR.1) (mHearJoin_same b x)
 have hS := mHearJoin_same b x
 revert hR hS
 unfold mHearJoin
 split
 ·rename_i hc
  intro hR hS
  have he := G_E h.bR.1
  obtain ⟨s0, hs0, n1, n2⟩ := hl.2 h4
  have hnew : x.nonce < a.draw ∧ ∀ s ∈ a.subs, x.nonce = s.mine → x.give = s.take := by
   refine ⟨by have := (h.asubs s0 hs0).2.2; omega, fun s hs hn => ?_⟩
   rw [n2]; exact h.uniq s0 hs0 s hs (by omega)
  by_cases hre : 0 ≤ mHalfAt b.halfs (mRoadOf x) ∧ (gHalf b (mHalfAt b.halfs (mRoadOf x))).theirs = x.nonce ∧ (gHalf b (mHalfAt b.halfs (mRoadOf x))).give = x.give
  ·obtain ⟨k, hk, hkl, g1, _⟩ := half_get he.halfs hre.1
   have hm : gH b.halfs k ∈ b.halfs := by simp only [gH, List.getD]; rw [List.getElem?_eq_getElem hkl]; exact List.getElem_mem _
   have hgh : gHalf b (mHalfAt b.halfs (mRoadOf x)) = gH b.halfs k := by rw [hk]; simp [gHalf, gH]
   have hjh : mJoinHalf b x = { gH b.halfs k with til := b.now + 6 } := by unfold mJoinHalf; rw [if_pos hre, hgh]
   have hjd : mJoinDraw b x = b.draw := by unfold mJoinDraw; rw [if_pos hre]
   rw [hjh, hjd] at hR hS ⊢
   have hrec : ∀ th g tk, Rec { b with bucket := (mTakeOne b.bucket).1, draw := b.draw, halfs := (mPutHalf b.halfs { gH b.halfs k with til := b.now + 6 }).1 } th g tk → Rec b th g tk := fun th g tk hr => by
    rcases hr with hr | ⟨y, hy, e⟩
    ·exact .inl hr
    ·rcases putHalf_mem hy with rfl | hy
     ·exact .inr ⟨_, hm, e⟩
     ·exact .inr ⟨y, hy, e⟩
   have hk2 : BKeep b { b with bucket := (mTakeOne b.bucket).1, draw := b.draw, halfs := (mPutHalf b.halfs { gH b.halfs k with til := b.now + 6 }).1 } := by
    refine ⟨Int.le_refl _, h.bsubs, fun y hy => ?_, fun th g tk hr => .inl (hrec th g tk hr)⟩
    rcases putHalf_mem hy with rfl | hy
    ·exact h.bhalfs (gH b.halfs k) hm
    ·exact h.bhalfs y hy
   have hrk : Rec b (gH b.halfs k).theirs (gH b.halfs k).give (gH b.halfs k).take := .inr ⟨_, hm, rfl, rfl, rfl⟩
   refine ⟨PI_keep h hR hS hk2 rfl, fun m hmm => ?_, fun m hmm => LB_b hk2 hmm⟩
   have hmm := List.mem_singleton.1 hmm
   subst hmm
   refine ⟨hl.1, by simp [mBetween, ltr], fun _ => ⟨(h.recT _ _ _ hrk).2, fun th g tk hr ht => ?_⟩⟩
   have ht : tk = (gH b.halfs k).take := ht
   subst ht
   exact h.recU _ _ _ _ _ (hrec _ _ _ hr) hrk
  ·have hjh : mJoinHalf b x = ⟨mRoadOf x, x.nonce, b.draw, x.give, b.draw + 2, b.now + 6⟩ := by unfold mJoinHalf; rw [if_neg hre]
   have hjd : mJoinDraw b x = b.draw + 4 := by unfold mJoinDraw; rw [if_neg hre]
   rw [hjh, hjd] at hR hS ⊢
   have hrec : ∀ th g tk, Rec { b with bucket := (mTakeOne b.bucket).1, draw := b.draw + 4, halfs := (mPutHalf b.halfs ⟨mRoadOf x, x.nonce, b.draw, x.give, b.draw + 2, b.now + 6⟩).1 } th g tk → Rec b th g tk ∨ (th = x.nonce ∧ g = x.give ∧ tk = b.draw + 2) := fun th g tk hr => by
    rcases hr with hr | ⟨y, hy, e1, e2, e3⟩
    ·exact .inl (.inl hr)
    ·rcases putHalf_mem hy with rfl | hy
     ·exact .inr ⟨e1.symm, e2.symm, e3.symm⟩
     ·exact .inl (.inr ⟨y, hy, e1, e2, e3⟩)
   have hk2 : BKeep b { b with bucket := (mTakeOne b.bucket).1, draw := b.draw + 4, halfs := (mPutHalf b.halfs ⟨mRoadOf x, x.nonce, b.draw, x.give, b.draw + 2, b.now + 6⟩).1 } := by
    refine ⟨by simp only []; omega, h.bsubs, fun y hy => ?_, fun th g tk hr => ?_⟩
    ·rcases putHalf_mem hy with rfl | hy
     ·exact hl.1
     ·exact h.bhalfs y hy
    ·rcases hrec th g tk hr with h1 | h1
     ·exact .inl h1
     ·exact .inr (by simp only []; omega)
   refine ⟨PI_b h hR hS hk2 (fun th g tk h1 h2 => ?_) (fun th g th' g' tk h1 h2 h3 => ?_), fun m hmm => ?_, fun m hmm => LB_b hk2 hmm⟩
   ·rcases hrec th g tk h1 with h3 | ⟨rfl, rfl, rfl⟩
    ·exact absurd h3 h2
    ·exact hnew
   ·rcases hrec th g tk h1 with g1 | ⟨rfl, rfl, rfl⟩
    ·have := (h.recT _ _ _ g1).2; omega
    ·rcases hrec th' g' _ h2 with g2 | ⟨rfl, rfl, _⟩
     ·have := (h.recT _ _ _ g2).2; omega
     ·rfl
   ·have hmm := List.mem_singleton.1 hmm
    subst hmm
    refine ⟨hl.1, by simp [mBetween, ltr], fun _ => ⟨?_, fun th g tk hr ht => ?_⟩⟩
    ·show b.draw + 2 < b.draw + 4; omega
    ·have ht : tk = b.draw + 2 := ht
     rcases hrec th g tk hr with h1 | ⟨rfl, _⟩
     ·have := (h.recT _ _ _ h1).2; omega
     ·rfl
 ·intro _ _
  exact ⟨h, fun m hm => by simp at hm, fun m hm => hm⟩
theorem hearB {a b : DEnd} (x : DLetter) (h : PI a b) (hl : LA a b x) : PI a (mHear b x).1 ∧ (∀ m ∈ (mHear b x).2, LB a (mHear b x).1 m) ∧ (∀ m, LB a b m → LB a (mHear b x).1 m) := by
 have P := @iteP (DEnd × List DLetter) (fun z => PI a z.1 ∧ (∀ m ∈ z.2, LB a z.1 m) ∧ (∀ m, LB a b m → LB a z.1 m))
 have h0 : PI a b ∧ (∀ m ∈ ([] : List DLetter), LB a b m) ∧ (∀ m, LB a b m → LB a b m) := ⟨h, fun m hm => by simp at hm, fun m hm => hm⟩
 have q : ∀ {z : DEnd × List DLetter}, z.1.G → Same b z.1 → BOk b x z → PI a z.1 ∧ (∀ m ∈ z.2, LB a z.1 m) ∧ (∀ m, LB a b m → LB a z.1 m) :=
  fun hg hs hk => ⟨PI_keep h (R_of h.bR hg hs) hs hk.1 hk.2.1, Small_LB hk.2.2 hl.1, fun m hm => LB_b hk.1 hm⟩
 have hG := h.bR.1
 unfold mHear
 by_cases h4 : x.kind = 4
 ·rw [if_neg (by omega : ¬ x.kind = 1), if_neg (by omega : ¬ x.kind = 2), if_pos h4]
  exact P (b_join x h hl h4) h0
 ·rw [if_neg h4]
  refine P (P ?_ (P ?_ (P ?_ (P (q (mHearJoinDone_G x hG) (mHearJoinDone_same b x) (b_done x h hl.1)) (P ?_ (P (q (mHearAddr_G x hG) (mHearAddr_same b x) (b_addr x h)) (P (q (mHearEcho_G x hG) (mHearEcho_same b x) (b_echo x h)) (P (q (mHearGone_G x hG) (mHearGone_same b x) (b_gone x h)) (P (q (mHearData_G x hG) (mHearData_same b x) (b_data x h)) (P (q (mHearCame_G x hG) (mHearCame_same b x) (b_came x h)) (P (q (mHearReset_G x hG) (mHearReset_same b x) (b_reset x h)) h0))))))))))) h0
  ·rw [mHearHello_2 x h.bR.2]; exact h0
  ·rw [mHearBack_2 x h.bR.2]; exact h0
  ·rw [b_back x h]; exact h0
  ·rw [b_ack x h]; exact h0
/-! what each end does -/
theorem road_in {e : DEnd} {k : Int} (h0 : 0 ≤ k) (hk : k < e.subs.length) : gSub e k ∈ e.subs := by
 have : k.toNat < e.subs.length := by omega
 simp only [gSub, List.getD]
 rw [List.getElem?_eq_getElem this]
 exact List.getElem_mem _
/-- Letters that only tell: a small port, no asking. -/
def Tells (ls : List DLetter) : Prop := ∀ m ∈ ls, m.port ≤ 3 ∧ m.kind ≠ 4 ∧ m.kind ≠ 5
theorem push_keep (e : DEnd) : (mPush e).1.subs = e.subs ∧ (mPush e).1.halfs = e.halfs ∧ (mPush e).1.draw = e.draw ∧ (mPush e).1.done = e.done ∧ (mPush e).1.own = e.own := by
 unfold mPush; split <;> exact ⟨rfl, rfl, rfl, rfl, rfl⟩
theorem pushN_keep (e : DEnd) : ∀ n, (pushN n e).1.subs = e.subs ∧ (pushN n e).1.halfs = e.halfs ∧ (pushN n e).1.draw = e.draw ∧ (pushN n e).1.done = e.done ∧ (pushN n e).1.own = e.own
 | 0 => ⟨rfl, rfl, rfl, rfl, rfl⟩
 | n + 1 => by
  have h1 := pushN_keep e n
  have h2 := push_keep (pushN n e).1
  exact ⟨h2.1.trans h1.1, h2.2.1.trans h1.2.1, h2.2.2.1.trans h1.2.2.1, h2.2.2.2.1.trans h1.2.2.2.1, h2.2.2.2.2.trans h1.2.2.2.2⟩
theorem push_tells {e : DEnd} (h : ∀ s ∈ e.subs, s.road.port ≤ 3) : Tells (mPush e).2 := by
 unfold mPush
 split
 ·rename_i hc
  have hb := mNextSub_bd e
  intro m hm
  have hm := List.mem_singleton.1 hm
  subst hm
  exact ⟨h _ (road_in hc.2 (by omega)), by simp [mBetween, ltr], by simp [mBetween, ltr]⟩
 ·intro m hm; simp at hm
theorem pushN_tells {e : DEnd} (h : ∀ s ∈ e.subs, s.road.port ≤ 3) : ∀ n, Tells (pushN n e).2
 | 0 => fun m hm => by simp [pushN] at hm
 | n + 1 => fun m hm => by
  rcases List.mem_append.1 hm with h1 | h1
  ·exact pushN_tells h n m h1
  ·exact push_tells (by rw [(pushN_keep e n).1]; exact h) m h1
theorem tell_tells {e : DEnd} (h : ∀ s ∈ e.subs, s.road.port ≤ 3) : Tells (mTellAddrs e) := by
 unfold mTellAddrs
 split
 ·rename_i hc
  have hmem : (mOnOf e).getD 0 (ETy.zero .int) ∈ mOnOf e := by
   rw [List.getD, List.getElem?_eq_getElem (by omega)]; exact List.getElem_mem _
  have hb := mOnOf_mem e _ hmem
  have hp := h _ (road_in hb.1 hb.2)
  have gen : ∀ (l : List DAddr) (i : Nat), Tells (colL (fTell e) l i) := by
   intro l
   induction l with
   | nil => intro i m hm; simp [colL] at hm
   | cons x l ih =>
    intro i m hm
    by_cases ht : x.told = true
    ·rw [colL_none (f := fTell e) (by simp [fTell, ht])] at hm; exact ih _ m hm
    ·rw [colL_some (f := fTell e) (y := mTellOne e x) (by simp [fTell, ht])] at hm
     rcases List.mem_cons.1 hm with rfl | hm
     ·exact ⟨hp, by simp [mTellOne, mBetween], by simp [mTellOne, mBetween]⟩
     ·exact ih _ m hm
  exact gen _ _
 ·intro m hm; simp at hm
theorem Tells_LA {a b : DEnd} {ls : List DLetter} (h : Tells ls) : ∀ m ∈ ls, LA a b m := fun m hm => ⟨(h m hm).1, fun h4 => absurd h4 (h m hm).2.1⟩
theorem Tells_LB {a b : DEnd} {ls : List DLetter} (h : Tells ls) : ∀ m ∈ ls, LB a b m := fun m hm => ⟨(h m hm).1, (h m hm).2.1, fun h4 => absurd h4 (h m hm).2.2⟩
theorem write_keep (e : DEnd) (t : List UInt8) : (mWriteAll e t).1.subs = e.subs ∧ (mWriteAll e t).1.halfs = e.halfs ∧ (mWriteAll e t).1.draw = e.draw ∧ (mWriteAll e t).1.done = e.done ∧ (mWriteAll e t).1.own = e.own := by
 have h1 := pushN_keep (mWrite e t).1 3
 have h2 : (mWrite e t).1.subs = e.subs ∧ (mWrite e t).1.halfs = e.halfs ∧ (mWrite e t).1.draw = e.draw ∧ (mWrite e t).1.done = e.done ∧ (mWrite e t).1.own = e.own := by
  unfold mWrite; split <;> exact ⟨rfl, rfl, rfl, rfl, rfl⟩
 exact ⟨h1.1.trans h2.1, h1.2.1.trans h2.2.1, h1.2.2.1.trans h2.2.2.1, h1.2.2.2.1.trans h2.2.2.2.1, h1.2.2.2.2.trans h2.2.2.2.2⟩
theorem write_tells {e : DEnd} (t : List UInt8) (h : ∀ s ∈ e.subs, s.road.port ≤ 3) : Tells (mWriteAll e t).2 := by
 refine pushN_tells ?_ 3
 have : (mWrite e t).1.subs = e.subs := by unfold mWrite; split <;> rfl
 rw [this]; exact h
theorem read_keep (e : DEnd) (n : Int) : (mRead e n).1.subs = e.subs ∧ (mRead e n).1.halfs = e.halfs ∧ (mRead e n).1.draw = e.draw ∧ (mRead e n).1.done = e.done ∧ (mRead e n).1.own = e.own := by
 unfold mRead; split <;> exact ⟨rfl, rfl, rfl, rfl, rfl⟩
theorem addOwn_keep (e : DEnd) (a : DAddr) : (mAddOwn e a).1.subs = e.subs ∧ (mAddOwn e a).1.halfs = e.halfs ∧ (mAddOwn e a).1.draw = e.draw ∧ (mAddOwn e a).1.done = e.done := by
 unfold mAddOwn; split <;> exact ⟨rfl, rfl, rfl, rfl⟩
theorem addOwn_own {e : DEnd} {a x : DAddr} (h : x ∈ (mAddOwn e a).1.own) : x ∈ e.own ∨ (x.addr = a.addr ∧ x.id = a.id) := by
 unfold mAddOwn at h
 split at h
 ·rcases putAddr_mem h with rfl | h
  ·exact .inr ⟨rfl, rfl⟩
  ·exact .inl h
 ·exact .inl h
theorem tick1_keep (e : DEnd) : (mTick1 e).draw = e.draw ∧ (mTick1 e).done = e.done ∧ (mTick1 e).own = e.own ∧ (e.halfs = [] → (mTick1 e).halfs = []) ∧ (∀ h ∈ (mTick1 e).halfs, h ∈ e.halfs) ∧ ((mTick1 e).subs = e.subs.map tickG ∨ (mTick1 e).subs = e.subs) := by
 have hs : ∀ h ∈ (mTick0 e).halfs, h ∈ e.halfs := fun h hh => (younger_sub _ _).subset hh
 have hn : e.halfs = [] → (mTick0 e).halfs = [] := fun h => by simp only [mTick0, h]; rfl
 unfold mTick1
 split
 ·exact ⟨rfl, rfl, rfl, hn, hs, .inl rfl⟩
 ·exact ⟨rfl, rfl, rfl, hn, hs, .inr rfl⟩
theorem tickG_keep (s : DSub) : (tickG s).road = s.road ∧ (tickG s).mine = s.mine ∧ (tickG s).take = s.take ∧ (tickG s).give = s.give ∧ (tickG s).theirs = s.theirs ∧ (((tickG s).state = 2 ∨ (tickG s).state = 3) → (s.state = 2 ∨ s.state = 3)) := by
 unfold tickG
 repeat' split
 ·exact ⟨rfl, rfl, rfl, rfl, rfl, fun h => h⟩
 ·exact ⟨rfl, rfl, rfl, rfl, rfl, fun h => by rcases h with h | h <;> simp at h⟩
 ·exact ⟨rfl, rfl, rfl, rfl, rfl, fun h => h⟩
theorem tick_akeep (e : DEnd) : AKeep e (mTick e).1 := by
 unfold mTick
 split
 ·obtain ⟨h1, h2, h3, h4, h5, h6⟩ := tick1_keep e
  obtain ⟨g1, g2, g3, g4, g5⟩ := pushN_keep (mTick1 e) 3
  refine ⟨g3.trans h1, g4.trans h2, fun h => g2.trans (h4 h), fun x hx => ⟨x, ?_, rfl, rfl⟩, ?_⟩
  ·have hx : x ∈ (pushN 3 (mTick1 e)).1.own := hx
   rw [g5, h3] at hx; exact hx
  ·show SubRel e.subs (pushN 3 (mTick1 e)).1.subs
   rw [g1]
   rcases h6 with h6 | h6
   ·rw [h6]
    refine SubRel_map _ _ fun s _ => ?_
    have := tickG_keep s
    exact ⟨this.1, this.2.1, this.2.2.1, fun h => ⟨this.2.2.2.2.2 h, this.2.2.2.1⟩⟩
   ·rw [h6]; exact SubRel.refl _
 ·exact AKeep.refl e
theorem tickL_mem {e : DEnd} {m : DLetter} (h : m ∈ mTickL e) : ∃ s ∈ e.subs, (s.state = 1 ∧ m = mJoinLetter e s) ∨ (s.state = 2 ∧ m = mDoneLetter e s) := by
 have gen : ∀ (l : List DSub) (i : Nat), m ∈ colL (tickF e) l i → ∃ s ∈ l, (s.state = 1 ∧ m = mJoinLetter e s) ∨ (s.state = 2 ∧ m = mDoneLetter e s) := by
  intro l
  induction l with
  | nil => intro i h; simp [colL] at h
  | cons s l ih =>
   intro i h
   rw [colL] at h
   split at h
   ·rename_i y hy
    rcases List.mem_cons.1 h with h | h
    ·subst h
     refine ⟨s, by simp, ?_⟩
     unfold tickF at hy
     repeat' split at hy
     all_goals first | cases hy; done | skip
     ·rename_i h1; cases hy; exact .inl ⟨h1, rfl⟩
     ·rename_i h0 _ _ h1; cases hy
      right
      refine ⟨?_, rfl⟩
      by_cases h2 : s.state = 2
      ·exact h2
      ·exact absurd ⟨h1, h2⟩ h0
    ·obtain ⟨s', hs', h'⟩ := ih _ h
     exact ⟨s', by simp [hs'], h'⟩
   ·obtain ⟨s', hs', h'⟩ := ih _ h
    exact ⟨s', by simp [hs'], h'⟩
 unfold mTickL at h
 split at h
 ·exact gen _ _ h
 ·simp at h
theorem tick1_ports {e : DEnd} (h : ∀ s ∈ e.subs, s.road.port ≤ 3) : ∀ s ∈ (mTick1 e).subs, s.road.port ≤ 3 := by
 rcases (tick1_keep e).2.2.2.2.2 with h6 | h6
 ·rw [h6]
  intro s hs
  obtain ⟨s', hs', rfl⟩ := List.mem_map.1 hs
  rw [(tickG_keep s').1]; exact h s' hs'
 ·rw [h6]; exact h
theorem tick_letters {e : DEnd} {m : DLetter} (h : m ∈ (mTick e).2) (hp : ∀ s ∈ e.subs, s.road.port ≤ 3) : m ∈ mTickL e ∨ (m.port ≤ 3 ∧ m.kind ≠ 4 ∧ m.kind ≠ 5) := by
 unfold mTick at h
 split at h
 ·rcases List.mem_append.1 h with h | h
  ·rcases List.mem_append.1 h with h | h
   ·exact .inl h
   ·exact .inr (tell_tells (tick1_ports hp) m h)
  ·exact .inr (pushN_tells (tick1_ports hp) 3 m h)
 ·simp at h
theorem join_PI {a b : DEnd} (h : PI a b) {r : DRoad} (hr : r.port ≤ 3) (p : Bool) : PI (mJoin a r p).1 b ∧ (∀ m ∈ (mJoin a r p).2, LA (mJoin a r p).1 b m) ∧ (∀ m, LA a b m → LA (mJoin a r p).1 b m) := by
 have hR : (mJoin a r p).1.R := R_of h.aR (mJoin_G r p h.aR.1) (mJoin_same a r p)
 revert hR
 unfold mJoin
 split
 ·rename_i hc
  intro hR
  obtain ⟨_, _, _, _, c5, _, _, c8⟩ := hc
  have hd := room_bd c8
  have hown : r.own ≤ 14 := by
   obtain ⟨x, hx, hxa⟩ := owns_iff.1 c5
   have := (h.own x hx).1; omega
  have hsub : ∀ s' ∈ a.subs ++ [(⟨r, 1, p, a.draw, 0, 0, a.draw + 2, 0⟩ : DSub)], s' ∈ a.subs ∨ s' = ⟨r, 1, p, a.draw, 0, 0, a.draw + 2, 0⟩ := fun s' hs' => by
   rcases List.mem_append.1 hs' with h1 | h1
   ·exact .inl h1
   ·exact .inr (List.mem_singleton.1 h1)
  refine ⟨⟨hR, h.bR, h.aside, h.bside, h.many, h.keys, h.done, h.own, fun s' hs' => ?_, h.ahalfs, fun s' hs' t' ht' hm => ?_, h.bsubs, h.bhalfs, fun th g tk hrr => ?_, fun th g tk hrr s' hs' ht => ?_, fun s' hs' h23 => ?_, h.recU⟩, fun m hm => ?_, fun m hm => ⟨hm.1, fun h4 => ?_⟩⟩
  ·rcases hsub s' hs' with h1 | rfl
   ·have := h.asubs s' h1; exact ⟨this.1, this.2.1, by simp only []; omega⟩
   ·exact ⟨hown, hr, by simp only []; omega⟩
  ·rcases hsub s' hs' with h1 | rfl
   ·rcases hsub t' ht' with h2 | rfl
    ·exact h.uniq s' h1 t' h2 hm
    ·have := (h.asubs s' h1).2.2; have hm : s'.mine = a.draw := hm; omega
   ·rcases hsub t' ht' with h2 | rfl
    ·have := (h.asubs t' h2).2.2; have hm : a.draw = t'.mine := hm; omega
    ·rfl
  ·have := h.recT th g tk hrr; exact ⟨by simp only []; omega, this.2⟩
  ·rcases hsub s' hs' with h1 | rfl
   ·exact h.recG th g tk hrr s' h1 ht
   ·have := (h.recT th g tk hrr).1; have ht : th = a.draw := ht; omega
  ·rcases hsub s' hs' with h1 | rfl
   ·exact h.link s' h1 h23
   ·rcases h23 with h2 | h2 <;> simp at h2
  ·have hm := List.mem_singleton.1 hm
   subst hm
   exact ⟨hr, fun _ => ⟨_, List.mem_append_right _ (List.mem_singleton.2 rfl), rfl, rfl⟩⟩
  ·obtain ⟨s, hs, g⟩ := hm.2 h4
   exact ⟨s, List.mem_append_left _ hs, g⟩
 ·intro _
  exact ⟨h, fun m hm => by simp at hm, fun m hm => hm⟩
theorem mgL_PI (e : DEnd) {b : DEnd} : ∀ (l : List DRoad) (o : DEnd) (acc : List DLetter), PI o b → (∀ r ∈ l, r.port ≤ 3) → (∀ m ∈ acc, LA o b m) → PI (mgL e l o acc).1 b ∧ ∀ m ∈ (mgL e l o acc).2, LA (mgL e l o acc).1 b m
 | [], _, _, h, _, hm => ⟨h, hm⟩
 | r :: l, o, acc, h, hl, hm => by
  rw [mgL]
  obtain ⟨h1, h2, h3⟩ := join_PI h (hl r (by simp)) (mSpare e r.far)
  refine mgL_PI e l _ _ h1 (fun q hq => hl q (by simp [hq])) fun m hmm => ?_
  rcases List.mem_append.1 hmm with h4 | h4
  ·exact h3 m (hm m h4)
  ·exact h2 m h4
theorem many4 {p : DPolicy} (hp : mPolicyOk p = true) (h : p.many ≤ 4) : mMany p ≤ 4 := by
 have := (policy_many hp).1
 split at this <;> omega
theorem manage_PI {a b : DEnd} (h : PI a b) : PI (mManage a).1 b ∧ ∀ m ∈ (mManage a).2, LA (mManage a).1 b m := by
 unfold mManage
 split
 ·refine mgL_PI a _ a [] h (fun r hr => ?_) (fun m hm => by simp at hm)
  have he := G_E h.aR.1
  unfold mMissL at hr
  rw [missing_iff ⟨Nat.le_trans (mWanted_len _ _ _) (by decide), haveOf_len he⟩] at hr
  have h1 := (wanted_mem hr.1).2.2
  have h2 := many4 he.pol h.many
  omega
 ·exact ⟨h, fun m hm => by simp at hm⟩
theorem actAddr_bd {x : DEnd} (hs : x.side = 1 ∨ x.side = 2) (c : DCur) : (10 * x.side + 2 ≤ (actAddr x c).addr ∧ (actAddr x c).addr ≤ 10 * x.side + 4) ∧ 1 ≤ (actAddr x c).id ∧ (actAddr x c).id ≤ 3 := by
 have h1 := mBelow_bd (c := c) (n := 3) (by decide)
 have h2 := mBelow_bd (c := mBelowC c 3) (n := 3) (by decide)
 simp only [actAddr]
 rw [w64_id (n := 1 + mBelow c 3) (by omega) (by omega), w64_id (n := 10 * x.side) (by omega) (by omega), w64_id (n := 10 * x.side + 2) (by omega) (by omega), w64_id (by omega) (by omega)]
 omega
theorem actA_PI (k : Int) (c : DCur) (a b : DEnd) (h : PI a b) : PI (actE k a c).1 b ∧ ∀ l ∈ (actE k a c).2, LA (actE k a c).1 b l := by
 have hR := actE_R k c h.aR
 have hp : ∀ s ∈ a.subs, s.road.port ≤ 3 := fun s hs => (h.asubs s hs).2.1
 revert hR
 unfold actE
 repeat' split
 ·intro hR
  obtain ⟨g1, g2, g3, g4, g5⟩ := write_keep a (actText c)
  exact ⟨PI_a h hR (mWriteAll_same _ _) (AKeep_q g3 g4 g2 g5 g1), Tells_LA (write_tells _ hp)⟩
 ·intro hR
  obtain ⟨g1, g2, g3, g4⟩ := addOwn_keep a (actAddr a c)
  have hs := mAddOwn_same a (actAddr a c)
  have hb := actAddr_bd (.inl h.aside) c
  have hA := h.aside
  refine ⟨⟨hR, h.bR, hs.1.trans h.aside, h.bside, by rw [hs.2.2.2.2]; exact h.many, ⟨hs.2.2.2.1.trans h.keys.1, h.keys.2.trans hs.2.2.1.symm⟩, g4.trans h.done, fun x hx => ?_, ?_, g2.trans h.ahalfs, ?_, h.bsubs, h.bhalfs, ?_, ?_, ?_, h.recU⟩, fun m hm => by simp at hm⟩
  ·rcases addOwn_own hx with h1 | h1
   ·exact h.own x h1
   ·omega
  ·rw [g1, g3]; exact h.asubs
  ·rw [g1]; exact h.uniq
  ·rw [g3]; exact h.recT
  ·rw [g1]; exact h.recG
  ·rw [g1]; exact h.link
 ·intro hR
  have hk := tick_akeep a
  refine ⟨PI_a h hR (mTick_same a) hk, fun m hm => ?_⟩
  rcases tick_letters hm hp with h1 | h1
  ·refine LA_a hk ?_
   obtain ⟨s, hs, ⟨_, rfl⟩ | ⟨_, rfl⟩⟩ := tickL_mem h1
   ·exact ⟨hp s hs, fun _ => ⟨s, hs, rfl, rfl⟩⟩
   ·exact ⟨hp s hs, fun h4 => by simp [mDoneLetter, mBetween, ltr] at h4⟩
  ·exact ⟨h1.1, fun h4 => absurd h4 h1.2.1⟩
 ·intro _; exact manage_PI h
 ·intro hR
  obtain ⟨g1, g2, g3, g4, g5⟩ := read_keep a (mBelow c 30)
  exact ⟨PI_a h hR (mRead_same _ _) (AKeep_q g3 g4 g2 g5 g1), fun m hm => by simp at hm⟩
theorem actB_PI (k : Int) (c : DCur) (a b : DEnd) (h : PI a b) : PI a (actE k b c).1 ∧ ∀ l ∈ (actE k b c).2, LB a (actE k b c).1 l := by
 have hR := actE_R k c h.bR
 have hp : ∀ s ∈ b.subs, s.road.port ≤ 3 := fun s hs => (h.bsubs s hs).2
 revert hR
 unfold actE
 repeat' split
 ·intro hR
  obtain ⟨g1, g2, g3, g4, g5⟩ := write_keep b (actText c)
  exact ⟨PI_keep h hR (mWriteAll_same _ _) (BKeep_q h g3 g1 g2) g3, Tells_LB (write_tells _ hp)⟩
 ·intro hR
  obtain ⟨g1, g2, g3, g4⟩ := addOwn_keep b (actAddr b c)
  exact ⟨PI_keep h hR (mAddOwn_same _ _) (BKeep_q h g3 g1 g2) g3, fun m hm => by simp at hm⟩
 ·intro hR
  have hk : BKeep b (mTick b).1 ∧ (mTick b).1.draw = b.draw := by
   unfold mTick
   split
   ·obtain ⟨h1, h2, h3, h4, h5, h6⟩ := tick1_keep b
    obtain ⟨g1, g2, g3, g4, g5⟩ := pushN_keep (mTick1 b) 3
    refine ⟨BKeep_s h (g3.trans h1) (fun s' hs' => ?_) (fun x hx => ?_), g3.trans h1⟩
    ·have hs' : s' ∈ (pushN 3 (mTick1 b)).1.subs := hs'
     rw [g1] at hs'
     rcases h6 with h6 | h6
     ·rw [h6] at hs'
      obtain ⟨s, hs, rfl⟩ := List.mem_map.1 hs'
      have h34 := (h.bsubs s hs).1
      have hg : tickG s = s := by unfold tickG; rw [if_pos (by omega)]
      rw [hg]; exact ⟨s, hs, h34, rfl, rfl, rfl, rfl⟩
     ·rw [h6] at hs'; exact ⟨s', hs', (h.bsubs s' hs').1, rfl, rfl, rfl, rfl⟩
    ·have hx : x ∈ (pushN 3 (mTick1 b)).1.halfs := hx
     rw [g2] at hx; exact h5 x hx
   ·exact ⟨BKeep_q h rfl rfl rfl, rfl⟩
  refine ⟨PI_keep h hR (mTick_same b) hk.1 hk.2, fun m hm => ?_⟩
  rcases tick_letters hm hp with h1 | h1
  ·obtain ⟨s, hs, ⟨h2, _⟩ | ⟨h2, _⟩⟩ := tickL_mem h1
   ·have := (h.bsubs s hs).1; omega
   ·have := (h.bsubs s hs).1; omega
  ·exact ⟨h1.1, h1.2.1, fun h4 => absurd h4 h1.2.2⟩
 ·intro _
  have : mManage b = (b, []) := by unfold mManage; rw [if_neg (fun hc => by have := h.bside; omega)]
  rw [this]; exact ⟨h, fun m hm => by simp at hm⟩
 ·intro hR
  obtain ⟨g1, g2, g3, g4, g5⟩ := read_keep b (mBelow c 30)
  exact ⟨PI_keep h hR (mRead_same _ _) (BKeep_q h g3 g1 g2) g3, fun m hm => by simp at hm⟩
theorem start_PI (p q : DPolicy) (hp : mPolicyOk p = true) (hq : mPolicyOk q = true) (h4 : p.many ≤ 4) : PI (endA p) (endB q) := by
 have hrec : ∀ th g tk, Rec (endB q) th g tk → th = 0 ∧ g = 1003 ∧ tk = 1004 := fun th g tk hr => by
  rcases hr with ⟨s, hs, e1, e2, e3⟩ | ⟨x, hx, _⟩
  ·have := List.mem_singleton.1 hs
   subst this
   exact ⟨e1.symm, e2.symm, e3.symm⟩
  ·simp [endB] at hx
 refine ⟨endA_R hp, endB_R hq, rfl, rfl, h4, ⟨rfl, rfl⟩, rfl, ?_, ?_, rfl, ?_, ?_, ?_, ?_, ?_, ?_, ?_⟩
 ·intro x hx; rw [List.mem_singleton.1 hx]; exact ⟨by show (11 : Int) ≤ 14; decide, by show (0 : Int) ≤ 3; decide⟩
 ·intro s hs; rw [List.mem_singleton.1 hs]; exact ⟨by show (11 : Int) ≤ 14; decide, by show (0 : Int) ≤ 3; decide, by show (0 : Int) < 1005; decide⟩
 ·intro s hs t ht _; rw [List.mem_singleton.1 hs, List.mem_singleton.1 ht]
 ·intro s hs; rw [List.mem_singleton.1 hs]; exact ⟨.inl rfl, by show (0 : Int) ≤ 3; decide⟩
 ·intro x hx; simp [endB] at hx
 ·intro th g tk hr
  obtain ⟨rfl, rfl, rfl⟩ := hrec th g tk hr
  exact ⟨by show (0 : Int) < 1005; decide, by show (1004 : Int) < 1006; decide⟩
 ·intro th g tk hr s hs _
  obtain ⟨rfl, rfl, rfl⟩ := hrec th g tk hr
  rw [List.mem_singleton.1 hs]
 ·intro s hs _
  rw [List.mem_singleton.1 hs]
  refine ⟨by show (1004 : Int) < 1006; decide, fun th g tk hr _ => (hrec th g tk hr).1⟩
 ·intro th g th' g' tk h1 h2
  rw [(hrec th g tk h1).1, (hrec th' g' tk h2).1]
end Go.Eng

namespace Go.Eng

theorem lnums {x : DLetter} (h1 : mNum x.src = true) (h2 : mNum x.dst = true) (h3 : mNum x.port = true) (h4 : mNum x.key = true) (h5 : mNum x.token = true) (h6 : mNum x.nonce = true) (h7 : mNum x.give = true) (h8 : mNum x.sign = true) (h9 : mNum x.id = true) (h10 : mNum x.addr = true) (h11 : mNum x.pos = true)
  (h12 : mNum x.tag.kind = true) (h13 : mNum x.tag.one = true) (h14 : mNum x.tag.two = true) (h15 : mNum x.tag.a = true) (h16 : mNum x.tag.b = true) (hk : 1 ≤ x.kind ∧ x.kind ≤ 13) (ht : x.text.length ≤ 20) : mLetterOk x = true := by
 refine letter_ok hk (fun n hn => ?_) ht
 simp only [lNums, List.mem_cons, List.not_mem_nil, or_false] at hn
 rcases hn with rfl | rfl | rfl | rfl | rfl | rfl | rfl | rfl | rfl | rfl | rfl | rfl | rfl | rfl | rfl | rfl
 all_goals assumption
end Go.Eng

namespace Go.Eng

def hF (F : DEnd → DLetter → DEnd × List DLetter) : List DLetter → DEnd → DEnd
 | [], x => x
 | l :: r, x => hF F r (F x l).1
theorem sub_first {e : DEnd} (he : EOk e) {j : Nat} (hj : j < e.subs.length) (h3 : (gS e.subs j).state = 3) : mSubAt e (gS e.subs j).road = (j : Int) := by
 have hp := (pw_iff (ETy.zero .sub)).1 he.subs.2.2
 refine (findL_is _ (ETy.zero .sub) e.subs j hj).2 ⟨?_, fun k hk => ?_⟩
 ·have h4 : ((gS e.subs j).state != 4) = true := by rw [h3]; rfl
  simp only [pSub, Bool.and_eq_true, decide_eq_true_eq]
  exact ⟨h4, trivial⟩
 ·have := hp k j hk hj
  simp only [pSub, Bool.and_eq_false_imp, bne_iff_ne, decide_eq_false_iff_not]
  intro h4
  exact this h4 (by have : (gS e.subs j).state = 3 := h3; show (gS e.subs j).state ≠ 4; omega)
end Go.Eng

namespace Go.Eng

/-- t is what the stream W, that begins at base, has from pos on. -/
def Seg (W : List UInt8) (base pos : Int) (t : List UInt8) : Prop := ∃ k : Nat, pos = base + k ∧ k + t.length ≤ W.length ∧ t = (W.drop k).take t.length
theorem seg_split (W : List UInt8) (k m n : Nat) : (W.drop k).take m ++ (W.drop (k + m)).take n = (W.drop k).take (m + n) := by
 rw [List.take_add, List.drop_drop]
theorem Seg_drop {W : List UInt8} {base pos : Int} {t : List UInt8} (h : Seg W base pos t) {n : Nat} (hn : n ≤ t.length) : Seg W base (pos + n) (t.drop n) := by
 obtain ⟨k, h1, h2, h3⟩ := h
 refine ⟨k + n, by omega, by simp only [List.length_drop]; omega, ?_⟩
 rw [List.length_drop]
 conv => lhs; rw [h3]
 rw [List.drop_take, List.drop_drop]
theorem Seg_take {W : List UInt8} {base pos : Int} {t : List UInt8} (h : Seg W base pos t) (n : Nat) : Seg W base pos (t.take n) := by
 obtain ⟨k, h1, h2, h3⟩ := h
 refine ⟨k, h1, by simp only [List.length_take]; omega, ?_⟩
 rw [List.length_take]
 conv => lhs; rw [h3]
 rw [List.take_take]
theorem Seg_app {W : List UInt8} {base pos : Int} {t u : List UInt8} (h : Seg W base pos t) (g : Seg W base (pos + t.length) u) : Seg W base pos (t ++ u) := by
 obtain ⟨k, h1, h2, h3⟩ := h
 obtain ⟨j, g1, g2, g3⟩ := g
 have hj : j = k + t.length := by omega
 subst hj
 refine ⟨k, h1, by rw [List.length_append]; omega, ?_⟩
 rw [List.length_append, ← seg_split]
 rw [← h3, ← g3]
theorem Seg_nil {W : List UInt8} {base pos : Int} (h0 : base ≤ pos) (h1 : pos ≤ base + W.length) : Seg W base pos [] := ⟨(pos - base).toNat, by omega, by simp; omega, by simp⟩
theorem Seg_bd {W : List UInt8} {base pos : Int} {t : List UInt8} (h : Seg W base pos t) : base ≤ pos ∧ pos + t.length ≤ base + W.length := by
 obtain ⟨k, h1, h2, _⟩ := h; omega
/-- The same stream, one that goes on. -/
theorem Seg_more {W V : List UInt8} {base pos : Int} {t : List UInt8} (h : Seg W base pos t) : Seg (W ++ V) base pos t := by
 obtain ⟨k, h1, h2, h3⟩ := h
 refine ⟨k, h1, by rw [List.length_append]; omega, ?_⟩
 rw [List.drop_append_of_le_length (by omega), List.take_append_of_le_length (by rw [List.length_drop]; omega)]
 exact h3
/-- The same stream, its beginning cut off. -/
theorem Seg_cut {W : List UInt8} {base pos : Int} {t : List UInt8} {n : Nat} (h : Seg W base pos t) (hn : base + n ≤ pos) : Seg (W.drop n) (base + n) pos t := by
 obtain ⟨k, h1, h2, h3⟩ := h
 refine ⟨k - n, by omega, by rw [List.length_drop]; omega, ?_⟩
 rw [List.drop_drop]
 have : n + (k - n) = k := by omega
 rw [this]; exact h3
def PSeg (W : List UInt8) (base : Int) (x : DPiece) : Prop := Seg W base x.pos x.text
/-- Two pieces that overlap or touch. -/
theorem PSeg_merge {W : List UInt8} {base : Int} {a b : DPiece} (ha : PSeg W base a) (hb : PSeg W base b) (h1 : b.pos ≤ a.pos + a.text.length) (h2 : a.pos ≤ b.pos + b.text.length) :
  PSeg W base (mMerge a b) ∧ (mMerge a b).pos = min a.pos b.pos ∧ (mMerge a b).pos + (mMerge a b).text.length = max (a.pos + a.text.length) (b.pos + b.text.length) := by
 unfold PSeg at *
 unfold mMerge
 split
 ·rename_i hlt
  obtain ⟨n, hn⟩ : ∃ n : Nat, a.pos - b.pos = (n : Int) := ⟨(a.pos - b.pos).toNat, by omega⟩
  rw [hn, Int.toNat_natCast]
  have hnb : n ≤ b.text.length := by omega
  have e1 : (b.text.take n).length = n := by rw [List.length_take]; omega
  have t1 := Seg_take hb n
  have t2 : Seg W base b.pos (b.text.take n ++ a.text) := Seg_app t1 (by rw [e1, ← hn, show b.pos + (a.pos - b.pos) = a.pos from (by omega)]; exact ha)
  refine ⟨?_, by dsimp only; omega, ?_⟩
  ·dsimp only
   by_cases hl : n + a.text.length ≤ b.text.length
   ·refine Seg_app t2 ?_
    have := Seg_drop hb hl
    rw [List.length_append, e1]
    exact this
   ·rw [List.drop_eq_nil_iff.2 (by omega), List.append_nil]; exact t2
  ·dsimp only
   simp only [List.length_append, List.length_drop, e1]
   omega
 ·rename_i hge
  obtain ⟨n, hn⟩ : ∃ n : Nat, a.pos + a.text.length - b.pos = (n : Int) := ⟨(a.pos + a.text.length - b.pos).toNat, by omega⟩
  rw [hn, Int.toNat_natCast]
  refine ⟨?_, by dsimp only; omega, ?_⟩
  ·dsimp only
   by_cases hl : n ≤ b.text.length
   ·refine Seg_app ha ?_
    have := Seg_drop hb hl
    rw [show a.pos + (a.text.length : Int) = b.pos + n by omega]
    exact this
   ·rw [List.drop_eq_nil_iff.2 (by omega), List.append_nil]; exact ha
  ·dsimp only
   simp only [List.length_append, List.length_drop]
   omega
/-- Bounds under which nothing wraps. -/
def Sm (W : List UInt8) (base : Int) : Prop := 0 ≤ base ∧ base + W.length ≤ 1000000000
theorem PSeg_end {W : List UInt8} {base : Int} (hs : Sm W base) {x : DPiece} (h : PSeg W base x) : w64 (x.pos + (x.text.length : Int)) = x.pos + x.text.length := by
 have := Seg_bd h
 obtain ⟨h0, h1⟩ := hs
 exact w64_id (by omega) (by omega)
theorem ppF_seg {W : List UInt8} {base : Int} (hs : Sm W base) : ∀ (l out : List DPiece) (x : DPiece) (b : Bool), (∀ y ∈ l, PSeg W base y) → (∀ y ∈ out, PSeg W base y) → PSeg W base x →
  (∀ y ∈ (ppF l out x b).1, PSeg W base y) ∧ PSeg W base (ppF l out x b).2.1
 | [], out, x, b, _, ho, hx => ⟨ho, hx⟩
 | y :: l, out, x, b, hl, ho, hx => by
  have hy := hl y (by simp)
  have hl' : ∀ z ∈ l, PSeg W base z := fun z hz => hl z (by simp [hz])
  have ho1 : ∀ z ∈ out ++ [y], PSeg W base z := fun z hz => by
   rcases List.mem_append.1 hz with h | h
   ·exact ho z h
   ·rw [List.mem_singleton.1 h]; exact hy
  have ho2 : ∀ z ∈ out ++ [x] ++ [y], PSeg W base z := fun z hz => by
   rcases List.mem_append.1 hz with h | h
   ·rcases List.mem_append.1 h with h | h
    ·exact ho z h
    ·rw [List.mem_singleton.1 h]; exact hx
   ·rw [List.mem_singleton.1 h]; exact hy
  rw [ppF, PSeg_end hs hy, PSeg_end hs hx]
  split
  ·exact ppF_seg hs l _ x b hl' ho1 hx
  ·split
   ·split
    ·exact ppF_seg hs l _ x true hl' ho1 hx
    ·exact ppF_seg hs l _ x true hl' ho2 hx
   ·exact ppF_seg hs l _ _ b hl' ho (PSeg_merge hy hx (by omega) (by omega)).1
theorem ppEnd_seg {W : List UInt8} {base : Int} (hs : Sm W base) {l : List DPiece} {x : DPiece} (hl : ∀ y ∈ l, PSeg W base y) (hx : PSeg W base x) : ∀ y ∈ ppEnd (ppF l [] x false), PSeg W base y := by
 have h := ppF_seg hs l [] x false hl (by simp) hx
 unfold ppEnd
 split
 ·exact h.1
 ·intro y hy
  rcases List.mem_append.1 hy with hy | hy
  ·exact h.1 y hy
  ·rw [List.mem_singleton.1 hy]; exact h.2
/-- What came is what was written. -/
structure SI (W : List UInt8) (base : Int) (p : DPieces) : Prop where
 sm : Sm W base
 lo : base ≤ p.read + p.ready.length
 hi : p.read + p.ready.length ≤ base + W.length
 segs : ∀ y ∈ p.list, PSeg W base y
theorem next_is {p : DPieces} (hk : p.K) (ho : mPiecesOk p = true) : mNextOf p = p.read + p.ready.length := (next_id ho (Nat.le_trans hk.1 (by decide))).1
theorem SI_put {W : List UInt8} {base : Int} {p : DPieces} (h : SI W base p) (hk : p.K) (ho : mPiecesOk p = true) {pos : Int} {t : List UInt8} (ht : Seg W base pos t) :
  SI W base (mPutPiece p pos t) ∧ p.read + p.ready.length ≤ (mPutPiece p pos t).read + (mPutPiece p pos t).ready.length := by
 have hn := next_is hk ho
 have hb := Seg_bd ht
 unfold mPutPiece
 split
 ·rename_i hc
  split
  ·have hx : PSeg W base (ppX p pos t) := by
    unfold ppX
    split
    ·rename_i hlt
     have := Seg_drop ht (n := (mNextOf p - pos).toNat) (by omega)
     have e : pos + ((mNextOf p - pos).toNat : Int) = mNextOf p := by omega
     rw [e] at this
     exact this
    ·exact ht
   have hE := ppEnd_seg h.sm h.segs hx
   unfold ppOut
   split
   ·rename_i hfirst
    have hg : (ppEnd (ppF p.list [] (ppX p pos t) false)).getD 0 (ETy.zero .piece) ∈ ppEnd (ppF p.list [] (ppX p pos t) false) := by
     have := ppF_pos p.list [] (ppX p pos t) false (by simp)
     rw [List.getD, List.getElem?_eq_getElem this]
     exact List.getElem_mem _
    have hs := Seg_bd (hE _ hg)
    have h1 := h.lo
    refine ⟨⟨h.sm, ?_, ?_, fun y hy => hE y (List.mem_of_mem_drop hy)⟩, ?_⟩
    ·simp only [List.length_append]; omega
    ·simp only [List.length_append]; omega
    ·simp only [List.length_append]; omega
   ·exact ⟨⟨h.sm, h.lo, h.hi, hE⟩, Int.le_refl _⟩
  ·exact ⟨h, Int.le_refl _⟩
 ·exact ⟨h, Int.le_refl _⟩
theorem SI_more {W V : List UInt8} {base : Int} {p : DPieces} (h : SI W base p) (hv : base + (W ++ V).length ≤ 1000000000) : SI (W ++ V) base p :=
 ⟨⟨h.sm.1, hv⟩, h.lo, by have := h.hi; rw [List.length_append]; omega, fun y hy => Seg_more (h.segs y hy)⟩
theorem SI_take {W : List UInt8} {base : Int} {p : DPieces} (n : Int) (h : SI W base p) : SI W base (mTakeReady p n).1 := by
 unfold mTakeReady
 split
 ·rename_i hc
  have := take_bd (p := p) hc.2.1
  have h1 := h.lo
  have h2 := h.hi
  exact ⟨h.sm, by simp only [List.length_drop]; omega, by simp only [List.length_drop]; omega, h.segs⟩
 ·exact h
theorem ordL_pos {p : DPieces} (hk : p.K) : ∀ (l : List DPiece) (e : Int), 0 ≤ e → e ≤ 3000000000 → ordL l e = true → (∀ x ∈ l, x.text.length ≤ 200) → ∀ x ∈ l, e < x.pos
 | [], _, _, _, _, _, x, hx => by simp at hx
 | y :: l, e, he, he2, ho, ht, x, hx => by
  rw [ordL] at ho
  split at ho
  ·rename_i hp
   simp only [pOrd, Bool.and_eq_true, Bool.not_eq_true', decide_eq_false_iff_not] at hp
   have hy := ht y (by simp)
   rcases List.mem_cons.1 hx with rfl | hx
   ·omega
   ·have := ordL_pos hk l _ (by rw [w64_id (by omega) (by omega)]; omega) (by rw [w64_id (by omega) (by omega)]; omega) ho (fun z hz => ht z (by simp [hz])) x hx
    rw [w64_id (by omega) (by omega)] at this
    omega
  ·cases ho
/-- The writer forgets what has come. -/
theorem SI_cut {W : List UInt8} {base : Int} {p : DPieces} {n : Nat} (h : SI W base p) (hk : p.K) (ho : mPiecesOk p = true) (hn : base + n ≤ p.read + p.ready.length) : SI (W.drop n) (base + n) p := by
 have hN := next_is hk ho
 have h1 := h.hi
 have h2 := h.sm
 have h3 := (piecesOk_bd ho).1
 refine ⟨⟨by have := h2.1; omega, by have := h2.2; rw [List.length_drop]; omega⟩, by omega, by rw [List.length_drop]; omega, fun y hy => Seg_cut (h.segs y hy) ?_⟩
 have hord : ordL p.list (mNextOf p) = true := by
  simp only [mPiecesOk, Bool.and_eq_true] at ho; exact ho.1.2
 have := ordL_pos hk p.list (mNextOf p) (by omega) (by have := hk.1; omega) hord hk.2 y hy
 omega
end Go.Eng

namespace Go.Eng

theorem hear_inn {e : DEnd} (x : DLetter) (h : x.kind ≠ 11) : (mHear e x).1.inn = e.inn := by
 have P := @iteP (DEnd × List DLetter) (fun z => z.1.inn = e.inn)
 unfold mHear
 rw [if_neg h]
 refine P (P ?_ (P ?_ (P ?_ (P ?_ (P ?_ (P ?_ (P ?_ (P ?_ (P ?_ (P ?_ (P ?_ rfl))))))))))) rfl
 ·unfold mHearHello; split <;> rfl
 ·unfold mHearBack; split <;> rfl
 ·unfold mHearJoin; split <;> rfl
 ·unfold mHearJoinBack; split <;> rfl
 ·unfold mHearJoinDone; repeat' split
  all_goals rfl
 ·unfold mHearJoinAck; split <;> rfl
 ·unfold mHearAddr; split <;> rfl
 ·unfold mHearEcho; split <;> rfl
 ·unfold mHearGone; split <;> rfl
 ·unfold mHearCame; split <;> rfl
 ·unfold mHearReset; split <;> rfl
theorem hear_out {e : DEnd} (x : DLetter) (h : x.kind ≠ 12) : (mHear e x).1.out = e.out := by
 have P := @iteP (DEnd × List DLetter) (fun z => z.1.out = e.out)
 unfold mHear
 rw [if_neg h]
 refine P (P ?_ (P ?_ (P ?_ (P ?_ (P ?_ (P ?_ (P ?_ (P ?_ (P ?_ (P ?_ (P ?_ rfl))))))))))) rfl
 ·unfold mHearHello; split <;> rfl
 ·unfold mHearBack; split <;> rfl
 ·unfold mHearJoin; split <;> rfl
 ·unfold mHearJoinBack; split <;> rfl
 ·unfold mHearJoinDone; repeat' split
  all_goals rfl
 ·unfold mHearJoinAck; split <;> rfl
 ·unfold mHearAddr; split <;> rfl
 ·unfold mHearEcho; split <;> rfl
 ·unfold mHearGone; split <;> rfl
 ·unfold mHearData; repeat' split
  all_goals rfl
 ·unfold mHearReset; split <;> rfl
theorem hear_no12 {e : DEnd} (x : DLetter) (h2 : e.state = 2) (h : x.kind ≠ 11) : ∀ m ∈ (mHear e x).2, m.kind ≠ 12 := by
 have P := @iteP (DEnd × List DLetter) (fun z => ∀ m ∈ z.2, m.kind ≠ 12)
 have n : ∀ m ∈ ([] : List DLetter), m.kind ≠ 12 := fun m hm => by simp at hm
 have o : ∀ {l : DLetter}, l.kind ≠ 12 → ∀ m ∈ [l], m.kind ≠ 12 := fun hl m hm => by rw [List.mem_singleton.1 hm]; exact hl
 unfold mHear
 rw [if_neg h]
 refine P (P ?_ (P ?_ (P ?_ (P ?_ (P ?_ (P ?_ (P ?_ (P ?_ (P ?_ (P ?_ (P ?_ n))))))))))) n
 ·rw [mHearHello_2 x h2]; exact n
 ·rw [mHearBack_2 x h2]; exact n
 ·unfold mHearJoin; split
  ·exact o (by simp [mBetween, ltr])
  ·exact n
 ·unfold mHearJoinBack; split
  ·exact o (by simp [mDoneLetter, mBetween, ltr])
  ·exact n
 ·unfold mHearJoinDone; repeat' split
  ·exact o (by simp [mAck, mBetween, ltr])
  ·exact o (by simp [mAck, mBetween, ltr])
  ·exact n
  ·exact n
 ·unfold mHearJoinAck; split <;> exact n
 ·unfold mHearAddr; split
  ·exact o (by simp [mBetween, ltr])
  ·exact n
 ·unfold mHearEcho; split <;> exact n
 ·unfold mHearGone; split <;> exact n
 ·unfold mHearCame; split <;> exact n
 ·unfold mHearReset; split <;> exact n
structure QI (a b : DEnd) : Prop where
 pi : PI a b
 si : SI a.out.text a.out.base b.inn
def QAL (a b : DEnd) (x : DLetter) : Prop := LA a b x ∧ (x.kind = 11 → Seg a.out.text a.out.base x.pos x.text)
def QAR (a b : DEnd) (x : DLetter) : Prop := LA a b x ∧ x.kind ≠ 11
def QBL (a b : DEnd) (x : DLetter) : Prop := LB a b x ∧ (x.kind = 12 → x.pos ≤ b.inn.read + b.inn.ready.length)
theorem hearB_Q {a b : DEnd} (x : DLetter) (h : QI a b) (hl : QAL a b x) : QI a (mHear b x).1 ∧ (∀ m ∈ (mHear b x).2, QBL a (mHear b x).1 m) ∧ (∀ m, QBL a b m → QBL a (mHear b x).1 m) := by
 obtain ⟨h1, h2, h3⟩ := hearB x h.pi hl.1
 have hbG := h.pi.bR.1
 have hbE := G_E hbG
 by_cases h11 : x.kind = 11
 ·have hd : mHear b x = if mEndOk b = true ∧ mLetterOk x = true ∧ mOwns b x.dst = true then mHearData b x else (b, []) := by
   unfold mHear; simp only [h11]; rfl
  rw [hd] at h1 h2 h3 ⊢
  by_cases hc : mEndOk b = true ∧ mLetterOk x = true ∧ mOwns b x.dst = true
  ·rw [if_pos hc] at h1 h2 h3 ⊢
   have hput := SI_put h.si hbG.2 hbE.inn (hl.2 h11)
   revert h1 h2 h3
   unfold mHearData
   split
   ·split
    ·intro h1 h2 h3; exact ⟨h, fun m hm => by simp at hm, fun m hm => hm⟩
    ·rename_i hn
     intro h1 h2 h3
     refine ⟨⟨h1, hput.1⟩, fun m hm => ⟨h2 m hm, fun _ => ?_⟩, fun m hm => ⟨h3 m hm.1, fun h12 => ?_⟩⟩
     ·have hm := List.mem_singleton.1 hm
      subst hm
      have := next_is (K_put x.pos x.text hbG.2 hbE.inn) (piecesOk_put x.pos x.text hbE.inn)
      show mNextOf (mPutPiece b.inn x.pos x.text) ≤ (mPutPiece b.inn x.pos x.text).read + (mPutPiece b.inn x.pos x.text).ready.length
      omega
     ·have := hm.2 h12
      have := hput.2
      show m.pos ≤ (mPutPiece b.inn x.pos x.text).read + (mPutPiece b.inn x.pos x.text).ready.length
      omega
   ·intro h1 h2 h3; exact ⟨h, fun m hm => by simp at hm, fun m hm => hm⟩
  ·rw [if_neg hc] at h1 h2 h3 ⊢
   exact ⟨h, fun m hm => by simp at hm, fun m hm => hm⟩
 ·have hi := hear_inn (e := b) x h11
  have hk := hear_no12 x h.pi.bR.2 h11
  exact ⟨⟨h1, by rw [hi]; exact h.si⟩, fun m hm => ⟨h2 m hm, fun h12 => absurd h12 (hk m hm)⟩, fun m hm => ⟨h3 m hm.1, by rw [hi]; exact hm.2⟩⟩
theorem hearA_Q {a b : DEnd} (x : DLetter) (h : QI a b) (hl : QBL a b x) : QI (mHear a x).1 b ∧ (∀ m ∈ (mHear a x).2, QAR (mHear a x).1 b m) ∧ (∀ m, QAR a b m → QAR (mHear a x).1 b m) := by
 obtain ⟨h1, h2, h3⟩ := hearA x h.pi hl.1
 have hsm := Small_LA (a := (mHear a x).1) (b := b) h2 hl.1.1
 refine ⟨⟨h1, ?_⟩, fun m hm => ⟨hsm m hm, by have := (h2 m hm).2; omega⟩, fun m hm => ⟨h3 m hm.1, hm.2⟩⟩
 by_cases h12 : x.kind = 12
 ·have hd : mHear a x = if mEndOk a = true ∧ mLetterOk x = true ∧ mOwns a x.dst = true then mHearCame a x else (a, []) := by
   unfold mHear; simp only [h12]; rfl
  rw [hd]
  split
  ·unfold mHearCame
   split
   ·show SI (mCame a.out x.pos).text (mCame a.out x.pos).base b.inn
    unfold mCame
    split
    ·rename_i hc
     have hbG := h.pi.bR.1
     have hn := hl.2 h12
     obtain ⟨n, hn2⟩ : ∃ n : Nat, x.pos - a.out.base = (n : Int) := ⟨(x.pos - a.out.base).toNat, by omega⟩
     have := SI_cut (n := n) h.si hbG.2 (G_E hbG).inn (by omega)
     rw [hn2, Int.toNat_natCast]
     rw [show a.out.base + (n : Int) = x.pos by omega] at this
     exact this
    ·exact h.si
   ·exact h.si
  ·exact h.si
 ·rw [hear_out (e := a) x h12]; exact h.si
theorem push_out (e : DEnd) : (mPush e).1.out.text = e.out.text ∧ (mPush e).1.out.base = e.out.base ∧ (mPush e).1.inn = e.inn := by
 unfold mPush; split <;> exact ⟨rfl, rfl, rfl⟩
theorem pushN_out (e : DEnd) : ∀ n, (pushN n e).1.out.text = e.out.text ∧ (pushN n e).1.out.base = e.out.base ∧ (pushN n e).1.inn = e.inn
 | 0 => ⟨rfl, rfl, rfl⟩
 | n + 1 => by
  have h1 := pushN_out e n
  have h2 := push_out (pushN n e).1
  exact ⟨h2.1.trans h1.1, h2.2.1.trans h1.2.1, h2.2.2.trans h1.2.2⟩
theorem piece_seg {o : DOut} (h : (mNextPiece o).2 = true) : Seg o.text o.base (mNextPiece o).1.pos (mNextPiece o).1.text := by
 have ho := outOk_bd (nextPiece_ok h)
 unfold mNextPiece at h ⊢
 split
 ·rename_i hc
  refine ⟨(o.sent - o.base).toNat, by dsimp only; omega, ?_, ?_⟩
  ·dsimp only; rw [List.length_take, List.length_drop]; omega
  ·dsimp only
   rw [List.length_take, List.length_drop]
   rw [List.take_eq_take_min, List.length_drop]
 ·rename_i hc; rw [if_neg hc] at h; cases h
theorem push_seg {e : DEnd} : ∀ m ∈ (mPush e).2, m.kind = 11 ∧ Seg e.out.text e.out.base m.pos m.text := by
 unfold mPush
 split
 ·rename_i hc
  intro m hm
  rw [List.mem_singleton.1 hm]
  exact ⟨rfl, piece_seg hc.1⟩
 ·intro m hm; simp at hm
theorem pushN_seg {e : DEnd} : ∀ n, ∀ m ∈ (pushN n e).2, m.kind = 11 ∧ Seg e.out.text e.out.base m.pos m.text
 | 0, m, hm => by simp [pushN] at hm
 | n + 1, m, hm => by
  rcases List.mem_append.1 hm with h | h
  ·exact pushN_seg n m h
  ·have := push_seg m h
   have h1 := pushN_out e n
   rw [h1.1, h1.2.1] at this
   exact this
theorem tell_kind {e : DEnd} : ∀ m ∈ mTellAddrs e, m.kind = 8 := by
 unfold mTellAddrs
 split
 ·have gen : ∀ (l : List DAddr) (i : Nat), ∀ m ∈ colL (fTell e) l i, m.kind = 8 := by
   intro l
   induction l with
   | nil => intro i m hm; simp [colL] at hm
   | cons x l ih =>
    intro i m hm
    by_cases ht : x.told = true
    ·rw [colL_none (f := fTell e) (by simp [fTell, ht])] at hm; exact ih _ m hm
    ·rw [colL_some (f := fTell e) (y := mTellOne e x) (by simp [fTell, ht])] at hm
     rcases List.mem_cons.1 hm with rfl | hm
     ·rfl
     ·exact ih _ m hm
  exact gen _ _
 ·intro m hm; simp at hm
theorem tick1_out {e : DEnd} : (mTick1 e).out.text = e.out.text ∧ (mTick1 e).out.base = e.out.base ∧ (mTick1 e).inn = e.inn := by
 have h0 : (mAnew e.out).text = e.out.text ∧ (mAnew e.out).base = e.out.base := by unfold mAnew; split <;> exact ⟨rfl, rfl⟩
 unfold mTick1
 split <;> exact ⟨h0.1, h0.2, rfl⟩
/-- A tick's letters: data are segments, and none says what came. -/
theorem tick_seg {e : DEnd} : (mTick e).1.out.text = e.out.text ∧ (mTick e).1.out.base = e.out.base ∧ (mTick e).1.inn = e.inn ∧ ∀ m ∈ (mTick e).2, m.kind ≠ 12 ∧ (m.kind = 11 → Seg e.out.text e.out.base m.pos m.text) := by
 unfold mTick
 split
 ·have h1 := pushN_out (mTick1 e) 3
  have h2 := tick1_out (e := e)
  refine ⟨h1.1.trans h2.1, h1.2.1.trans h2.2.1, h1.2.2.trans h2.2.2, fun m hm => ?_⟩
  rcases List.mem_append.1 hm with hm | hm
  ·rcases List.mem_append.1 hm with hm | hm
   ·obtain ⟨s, _, ⟨_, rfl⟩ | ⟨_, rfl⟩⟩ := tickL_mem hm
    ·exact ⟨by simp [mJoinLetter, mBetween, ltr], fun h => by simp [mJoinLetter, mBetween, ltr] at h⟩
    ·exact ⟨by simp [mDoneLetter, mBetween, ltr], fun h => by simp [mDoneLetter, mBetween, ltr] at h⟩
   ·have := tell_kind m hm; omega
  ·have := pushN_seg 3 m hm
   rw [h2.1, h2.2.1] at this
   exact ⟨by omega, fun _ => this.2⟩
 ·exact ⟨rfl, rfl, rfl, fun m hm => by simp at hm⟩
theorem write_seg {e : DEnd} (t : List UInt8) : (∃ V, (mWriteAll e t).1.out.text = e.out.text ++ V ∧ (V = [] ∨ e.out.base + ((e.out.text ++ V).length : Int) ≤ 1000000000)) ∧ (mWriteAll e t).1.out.base = e.out.base ∧ (mWriteAll e t).1.inn = e.inn ∧
  ∀ m ∈ (mWriteAll e t).2, m.kind = 11 ∧ Seg (mWriteAll e t).1.out.text (mWriteAll e t).1.out.base m.pos m.text := by
 have h1 := pushN_out (mWrite e t).1 3
 have h2 : (∃ V, (mWrite e t).1.out.text = e.out.text ++ V ∧ (V = [] ∨ e.out.base + ((e.out.text ++ V).length : Int) ≤ 1000000000)) ∧ (mWrite e t).1.out.base = e.out.base ∧ (mWrite e t).1.inn = e.inn := by
  unfold mWrite
  split
  ·refine ⟨?_, ?_, rfl⟩
   ·show ∃ V, (mAccept e.out t).1.text = e.out.text ++ V ∧ _
    unfold mAccept
    have hm1 : (if e.out.room - (e.out.text.length : Int) < t.length then e.out.room - (e.out.text.length : Int) else (t.length : Int)) ≤ t.length := by split <;> omega
    generalize (if e.out.room - (e.out.text.length : Int) < t.length then e.out.room - (e.out.text.length : Int) else (t.length : Int)) = n at *
    by_cases hc : mOutOk e.out = true ∧ e.out.base + (e.out.text.length : Int) + n ≤ 1000000000
    ·rw [if_pos hc]
     by_cases hn : 0 ≤ n
     ·exact ⟨_, rfl, .inr (by rw [List.length_append, List.length_take]; omega)⟩
     ·exact ⟨_, rfl, .inl (by rw [show n.toNat = 0 from (by omega)]; rfl)⟩
    ·rw [if_neg hc]; exact ⟨[], by simp, .inl rfl⟩
   ·show (mAccept e.out t).1.base = e.out.base
    unfold mAccept
    by_cases hc : mOutOk e.out = true ∧ e.out.base + (e.out.text.length : Int) + (if e.out.room - (e.out.text.length : Int) < t.length then e.out.room - (e.out.text.length : Int) else (t.length : Int)) ≤ 1000000000
    ·rw [if_pos hc]
    ·rw [if_neg hc]
  ·exact ⟨⟨[], by simp, .inl rfl⟩, rfl, rfl⟩
 refine ⟨?_, h1.2.1.trans h2.2.1, h1.2.2.trans h2.2.2, fun m hm => ?_⟩
 ·obtain ⟨V, hV, h⟩ := h2.1
  exact ⟨V, h1.1.trans hV, h⟩
 ·have := pushN_seg 3 m hm
  show _ ∧ Seg (pushN 3 (mWrite e t).1).1.out.text (pushN 3 (mWrite e t).1).1.out.base m.pos m.text
  rw [h1.1, h1.2.1]; exact this
theorem mgL_out (e : DEnd) : ∀ (l : List DRoad) (o : DEnd) (acc : List DLetter), (∀ m ∈ acc, m.kind = 4) → (mgL e l o acc).1.out = o.out ∧ (mgL e l o acc).1.inn = o.inn ∧ ∀ m ∈ (mgL e l o acc).2, m.kind = 4
 | [], _, _, h => ⟨rfl, rfl, h⟩
 | r :: l, o, acc, h => by
  have hj : (mJoin o r (mSpare e r.far)).1.out = o.out ∧ (mJoin o r (mSpare e r.far)).1.inn = o.inn ∧ ∀ m ∈ (mJoin o r (mSpare e r.far)).2, m.kind = 4 := by
   unfold mJoin
   split
   ·exact ⟨rfl, rfl, fun m hm => by rw [List.mem_singleton.1 hm]; rfl⟩
   ·exact ⟨rfl, rfl, fun m hm => by simp at hm⟩
  rw [mgL]
  have ih := mgL_out e l (mJoin o r (mSpare e r.far)).1 (acc ++ (mJoin o r (mSpare e r.far)).2) fun m hm => by
   rcases List.mem_append.1 hm with hm | hm
   ·exact h m hm
   ·exact hj.2.2 m hm
  exact ⟨ih.1.trans hj.1, ih.2.1.trans hj.2.1, ih.2.2⟩
theorem manage_out (e : DEnd) : (mManage e).1.out = e.out ∧ (mManage e).1.inn = e.inn ∧ ∀ m ∈ (mManage e).2, m.kind = 4 := by
 unfold mManage
 split
 ·exact mgL_out e _ e [] (fun m hm => by simp at hm)
 ·exact ⟨rfl, rfl, fun m hm => by simp at hm⟩
theorem addOwn_out (e : DEnd) (a : DAddr) : (mAddOwn e a).1.out = e.out ∧ (mAddOwn e a).1.inn = e.inn := by
 unfold mAddOwn; split <;> exact ⟨rfl, rfl⟩
theorem actA_Q (k : Int) (c : DCur) (a b : DEnd) (h : QI a b) : QI (actE k a c).1 b ∧ ∀ l ∈ (actE k a c).2, QAL (actE k a c).1 b l := by
 obtain ⟨h1, h2⟩ := actA_PI k c a b h.pi
 revert h1 h2
 unfold actE
 repeat' split
 ·intro h1 h2
  obtain ⟨⟨V, hV, hb⟩, e2, e3, e4⟩ := write_seg (e := a) (actText c)
  refine ⟨⟨h1, ?_⟩, fun m hm => ⟨h2 m hm, fun _ => (e4 m hm).2⟩⟩
  show SI (mWriteAll a (actText c)).1.out.text (mWriteAll a (actText c)).1.out.base b.inn
  rw [hV, e2]
  rcases hb with rfl | hb
  ·rw [List.append_nil]; exact h.si
  ·exact SI_more h.si hb
 ·intro h1 h2
  refine ⟨⟨h1, ?_⟩, fun m hm => by simp at hm⟩
  rw [(addOwn_out a _).1]; exact h.si
 ·intro h1 h2
  obtain ⟨e1, e2, e3, e4⟩ := tick_seg (e := a)
  refine ⟨⟨h1, by rw [e1, e2]; exact h.si⟩, fun m hm => ⟨h2 m hm, fun h11 => by rw [e1, e2]; exact (e4 m hm).2 h11⟩⟩
 ·intro h1 h2
  obtain ⟨e1, e2, e3⟩ := manage_out a
  refine ⟨⟨h1, by rw [e1]; exact h.si⟩, fun m hm => ⟨h2 m hm, fun h11 => by have := e3 m hm; omega⟩⟩
 ·intro h1 h2
  refine ⟨⟨h1, ?_⟩, fun m hm => by simp at hm⟩
  have : (mRead a (mBelow c 30)).1.out = a.out := by unfold mRead; split <;> rfl
  rw [this]; exact h.si
theorem actB_Q (k : Int) (c : DCur) (a b : DEnd) (h : QI a b) : QI a (actE k b c).1 ∧ ∀ l ∈ (actE k b c).2, QBL a (actE k b c).1 l := by
 obtain ⟨h1, h2⟩ := actB_PI k c a b h.pi
 revert h1 h2
 unfold actE
 repeat' split
 ·intro h1 h2
  obtain ⟨_, _, e3, e4⟩ := write_seg (e := b) (actText c)
  exact ⟨⟨h1, by rw [e3]; exact h.si⟩, fun m hm => ⟨h2 m hm, fun h12 => by have := (e4 m hm).1; omega⟩⟩
 ·intro h1 h2
  exact ⟨⟨h1, by rw [(addOwn_out b _).2]; exact h.si⟩, fun m hm => by simp at hm⟩
 ·intro h1 h2
  obtain ⟨e1, e2, e3, e4⟩ := tick_seg (e := b)
  exact ⟨⟨h1, by rw [e3]; exact h.si⟩, fun m hm => ⟨h2 m hm, fun h12 => absurd h12 (e4 m hm).1⟩⟩
 ·intro h1 h2
  obtain ⟨e1, e2, e3⟩ := manage_out b
  exact ⟨⟨h1, by rw [e2]; exact h.si⟩, fun m hm => ⟨h2 m hm, fun h12 => by have := e3 m hm; omega⟩⟩
 ·intro h1 h2
  refine ⟨⟨h1, ?_⟩, fun m hm => by simp at hm⟩
  have : (mRead b (mBelow c 30)).1.inn = b.inn ∨ (mRead b (mBelow c 30)).1.inn = (mTakeReady b.inn (mBelow c 30)).1 := by unfold mRead; split <;> simp
  rcases this with h3 | h3
  ·rw [h3]; exact h.si
  ·rw [h3]; exact SI_take _ h.si
theorem start_Q (p q : DPolicy) (hp : mPolicyOk p = true) (hq : mPolicyOk q = true) (h4 : p.many ≤ 4) : QI (endA p) (endB q) :=
 ⟨start_PI p q hp hq h4, ⟨⟨by simp [endA], by simp [endA]⟩, by simp [endA, endB], by simp [endA, endB], by simp [endB]⟩⟩
theorem mEnds_Q (c : DCur) : QI (mEnds c).2.1 (mEnds c).2.2 :=
 endsL_ind (I := QI) (A := QAL) (A' := QAR) (B := QBL) (B' := QBL) actA_Q actB_Q
  (fun _ _ l h hl => ⟨(hearB_Q l h hl).1, (hearB_Q l h hl).2.1, fun _ hm => hm, (hearB_Q l h hl).2.2⟩)
  (fun _ _ l h hl => ⟨(hearA_Q l h hl).1, (hearA_Q l h hl).2.1, fun _ hm => hm, (hearA_Q l h hl).2.2⟩)
  (fun _ _ _ h => ⟨h.1, fun h11 => absurd h11 h.2⟩) (fun _ _ _ h => h) 13 0 _ _ _ (start_Q _ _ (mDPol_ok _) (mDPol_ok _) (mDPol_many _))
end Go.Eng

namespace Go.Eng

theorem ppF_laid : ∀ (l out : List DPiece) (x : DPiece), (∀ z ∈ l, w64 (x.pos + (x.text.length : Int)) < z.pos) → ppF l out x true = (out ++ l, x, true)
 | [], out, x, _ => by simp [ppF]
 | y :: l, out, x, h => by
  have ih := ppF_laid l (out ++ [y]) x fun z hz => h z (by simp [hz])
  have e : out ++ [y] ++ l = out ++ y :: l := by simp
  rw [ppF]
  split
  ·rw [ih, e]
  ·rw [if_pos (h y (by simp)), if_pos rfl, ih, e]
theorem ordL_weak {W : List UInt8} {base : Int} (hs : Sm W base) : ∀ (l : List DPiece) (e : Int), (∀ y ∈ l, PSeg W base y) → ordL l e = true → ∀ y ∈ l, e < y.pos
 | [], _, _, _, y, hy => by simp at hy
 | z :: l, e, hseg, ho, y, hy => by
  rw [ordL] at ho
  split at ho
  ·rename_i hp
   rw [PSeg_end hs (hseg z (by simp))] at ho
   simp only [pOrd, Bool.and_eq_true, Bool.not_eq_true', decide_eq_false_iff_not] at hp
   rcases List.mem_cons.1 hy with rfl | hy
   ·omega
   ·have := ordL_weak hs l _ (fun q hq => hseg q (by simp [hq])) ho y hy
    omega
  ·cases ho
theorem ordL_low {l : List DPiece} {e e' : Int} (h : ordL l e = true) (hl : ∀ y, l.head? = some y → e' < y.pos) : ordL l e' = true := by
 cases l with
 | nil => rfl
 | cons y l =>
  have := hl y rfl
  rw [ordL] at h ⊢
  split at h
  ·rename_i hp
   rw [if_pos]
   ·exact h
   ·simp only [pOrd, Bool.and_eq_true, Bool.not_eq_true', decide_eq_false_iff_not] at hp ⊢
    exact ⟨hp.1, by omega⟩
  ·cases h
/-- A piece laid ahead of all. -/
theorem ppF_front {W : List UInt8} {base : Int} (hs : Sm W base) : ∀ (l : List DPiece) (x : DPiece) (e : Int), (∀ y ∈ l, PSeg W base y) → PSeg W base x → ordL l e = true → x.pos ≤ e →
  ∃ x' l', ppEnd (ppF l [] x false) = x' :: l' ∧ x'.pos = x.pos ∧ PSeg W base x' ∧ x.pos + x.text.length ≤ x'.pos + x'.text.length ∧ l'.length ≤ l.length ∧ ordL l' (x'.pos + x'.text.length) = true ∧ x'.text.length + sumT l' ≤ x.text.length + sumT l
 | [], x, e, _, hx, _, _ => ⟨x, [], by simp [ppF, ppEnd], rfl, hx, Int.le_refl _, Nat.le_refl _, rfl, Nat.le_refl _⟩
 | y :: l, x, e, hl, hx, ho, he => by
  have hy := hl y (by simp)
  have hl' : ∀ z ∈ l, PSeg W base z := fun z hz => hl z (by simp [hz])
  have hyp := ordL_weak hs (y :: l) e hl ho y (by simp)
  have ho2 := ho
  rw [ordL] at ho2
  split at ho2
  ·rw [PSeg_end hs hy] at ho2
   rw [ppF, PSeg_end hs hy, PSeg_end hs hx]
   rw [if_neg (by omega)]
   by_cases hlt : x.pos + (x.text.length : Int) < y.pos
   ·rw [if_pos hlt, if_neg (by simp)]
    have hz : ∀ z ∈ l, w64 (x.pos + (x.text.length : Int)) < z.pos := fun z hz => by
     rw [PSeg_end hs hx]
     have := ordL_weak hs l _ hl' ho2 z hz
     omega
    rw [ppF_laid l _ x hz]
    refine ⟨x, y :: l, by simp [ppEnd], rfl, hx, Int.le_refl _, Nat.le_refl _, ?_, Nat.le_refl _⟩
    refine ordL_low ho fun z hz => ?_
    simp only [List.head?_cons, Option.some.injEq] at hz
    subst hz; exact hlt
   ·rw [if_neg hlt]
    obtain ⟨m1, m2, m3⟩ := PSeg_merge hy hx (by omega) (by omega)
    have hml := mMerge_len y x
    obtain ⟨x', l', r1, r2, r3, r4, r5, r6, r7⟩ := ppF_front hs l (mMerge y x) (y.pos + y.text.length) hl' m1 ho2 (by rw [m2]; omega)
    refine ⟨x', l', r1, by rw [r2, m2]; omega, r3, by omega, by simp only [List.length_cons]; omega, r6, by simp only [sumT]; omega⟩
  ·cases ho2
/-- What is held. -/
def hold (p : DPieces) : Nat := p.ready.length + sumT p.list
/-- A piece in order. -/
theorem put_front {W : List UInt8} {base : Int} {p : DPieces} (h : SI W base p) (hk : p.K) (ho : mPiecesOk p = true) {pos : Int} {t : List UInt8} (ht : Seg W base pos t) (hl : t.length ≤ 200) (h1 : pos ≤ p.read + p.ready.length) (h2 : p.read + p.ready.length < pos + t.length)
  (hh : (hold p : Int) + (base + W.length - (p.read + p.ready.length)) ≤ 200) :
  ∃ u, (mPutPiece p pos t).read = p.read ∧ (mPutPiece p pos t).ready = p.ready ++ u ∧ Seg W base (p.read + p.ready.length) u ∧ pos + t.length ≤ p.read + p.ready.length + u.length ∧
   (hold (mPutPiece p pos t) : Int) + (base + W.length - (p.read + p.ready.length + u.length)) ≤ 200 := by
 have hn := next_is hk ho
 have hb := Seg_bd ht
 have hsm := h.sm
 have hno := (piecesOk_iff (Nat.le_trans hk.1 (by decide)) (fun x hx => Nat.le_trans (hk.2 x hx) (by decide))).1 ho
 obtain ⟨n, hnn⟩ : ∃ n : Nat, mNextOf p - pos = (n : Int) := ⟨(mNextOf p - pos).toNat, by omega⟩
 have hX : ppX p pos t = ⟨mNextOf p, t.drop n⟩ := by
  unfold ppX
  split
  ·rw [hnn, Int.toNat_natCast]
  ·have : n = 0 := by omega
   subst this
   rw [List.drop_zero]
   congr 1
   omega
 have hxs : PSeg W base ⟨mNextOf p, t.drop n⟩ := by
  have := Seg_drop ht (n := n) (by omega)
  rw [show pos + (n : Int) = mNextOf p by omega] at this
  exact this
 obtain ⟨x', l', r1, r2, r3, r4, r5, r6, r7⟩ := ppF_front hsm p.list ⟨mNextOf p, t.drop n⟩ (mNextOf p) h.segs hxs hno.2.2.1 (Int.le_refl _)
 have r2 : x'.pos = mNextOf p := r2
 have hO : ppOut p pos t = ⟨p.read, p.ready ++ x'.text, l'⟩ := by
  unfold ppOut
  rw [hX, r1]
  have : (x' :: l').getD 0 (ETy.zero .piece) = x' := rfl
  rw [this, if_pos r2]
  rfl
 have hdl : (t.drop n).length = t.length - n := List.length_drop
 have hx3 := Seg_bd r3
 have hsum : ∀ y ∈ l', y.text.length ≤ 1073741824 := fun y hy => by
  have := sumT_mem hy
  unfold hold at hh
  simp only [hdl] at r7
  omega
 have hr4 : mNextOf p + ((t.drop n).length : Int) ≤ x'.pos + x'.text.length := r4
 have hr7 : x'.text.length + sumT l' ≤ (t.drop n).length + sumT p.list := r7
 have hheld : p.ready.length + x'.text.length + sumT l' ≤ 200 := by
  unfold hold at hh
  omega
 have hok : mPiecesOk ⟨p.read, p.ready ++ x'.text, l'⟩ = true := by
  rw [piecesOk_iff (by rw [List.length_append]; omega) hsum]
  have hnx : mNextOf ⟨p.read, p.ready ++ x'.text, l'⟩ = x'.pos + x'.text.length := by
   unfold mNextOf
   rw [w64_id (by have := hno.1; simp only [List.length_append]; omega) (by have := hno.1; simp only [List.length_append]; omega)]
   simp only [List.length_append]
   omega
  rw [hnx]
  exact ⟨hno.1, by have := hno.2.1; dsimp only; omega, r6, by simp only [List.length_append]; exact hheld⟩
 have hPP : mPutPiece p pos t = ⟨p.read, p.ready ++ x'.text, l'⟩ := by
  unfold mPutPiece
  rw [if_pos ⟨ho, mNum_iff.2 (by have := hsm.1; have := hsm.2; omega), mIn_iff.2 (by omega), by omega⟩, hO, if_pos hok]
 rw [hPP]
 refine ⟨x'.text, rfl, rfl, ?_, by omega, ?_⟩
 ·have : PSeg W base x' := r3
  unfold PSeg at this
  rw [r2, hn] at this
  exact this
 ·unfold hold at hh ⊢
  simp only [List.length_append]
  omega
theorem put_old {p : DPieces} {pos : Int} {t : List UInt8} (hn : mNextOf p = p.read + p.ready.length) (h : pos + t.length ≤ p.read + p.ready.length) : mPutPiece p pos t = p := by
 unfold mPutPiece
 rw [if_neg (fun hc => by have := hc.2.2.2; omega)]
end Go.Eng

namespace Go.Eng

/-- Turns of sending, hearing, acknowledging. -/
def dL : Nat → DEnd → DEnd → DEnd × DEnd
 | 0, x, y => (x, y)
 | k + 1, x, y => if (mPush x).2.length = 0 then ((mPush x).1, y) else dL k (hF mHearCame (mHearData y ((mPush x).2.getD 0 (ETy.zero .letter))).2 (mPush x).1) (mHearData y ((mPush x).2.getD 0 (ETy.zero .letter))).1
theorem nextSub_on {e : DEnd} (h : 0 ≤ mNextSub e) : mNextSub e ∈ mOnOf e := by
 have hc : ∀ k ∈ mCarr e, k ∈ mOnOf e := fun k hk => by
  unfold mCarr at hk
  split at hk
  ·exact hk
  ·have : ∀ (l : List Int) (i : Nat), k ∈ colL (fCarr e) l i → k ∈ l := by
    intro l
    induction l with
    | nil => intro i h; simp [colL] at h
    | cons x l ih =>
     intro i h
     rw [colL] at h
     split at h
     ·rename_i y hy
      simp only [fCarr] at hy
      split at hy
      ·cases hy
      ·cases hy
       rcases List.mem_cons.1 h with h | h
       ·simp [h]
       ·simp [ih _ h]
     ·simp [ih _ h]
   exact this _ _ hk
 unfold mNextSub at h ⊢
 split
 ·rename_i hh
  have := tmod_bd (mCarr e) (endOk_pick hh.1) hh.2
  apply hc
  have hlt : (e.pick.tmod ((mCarr e).length : Int)).toNat < (mCarr e).length := by omega
  rw [List.getD, List.getElem?_eq_getElem hlt]
  exact List.getElem_mem _
 ·rename_i hh; rw [if_neg hh] at h; omega
theorem nextSub_pos {e : DEnd} (h : mEndOk e = true) (hon : (mOnOf e).length ≠ 0) : 0 ≤ mNextSub e := by
 have hc : (mCarr e).length ≠ 0 := by
  unfold mCarr
  split
  ·exact hon
  ·assumption
 have := mNextSub_bd e
 unfold mNextSub at this ⊢
 rw [if_pos ⟨h, hc⟩] at this ⊢
 rcases this with h1 | h1
 ·have hb := tmod_bd (mCarr e) (endOk_pick h) hc
  have hlt : (e.pick.tmod ((mCarr e).length : Int)).toNat < (mCarr e).length := by omega
  have hm : (mCarr e).getD (e.pick.tmod ((mCarr e).length : Int)).toNat (ETy.zero .int) ∈ mCarr e := by
   rw [List.getD, List.getElem?_eq_getElem hlt]; exact List.getElem_mem _
  exact (mCarr_mem e _ hm).1
 ·exact h1.1
/-- Between the turns. -/
structure DI (a b : DEnd) (all : List UInt8) (base : Int) (x y : DEnd) : Prop where
 xG : x.G
 yG : y.G
 xs : x.subs = a.subs
 ys : y.subs = b.subs
 si : SI all base y.inn
 txt : x.out.text = all.drop (x.out.base - base).toNat
 b0 : base ≤ x.out.base
 b1 : x.out.base ≤ y.inn.read + y.inn.ready.length
 b2 : x.out.base ≤ x.out.sent
 s1 : x.out.sent ≤ y.inn.read + y.inn.ready.length
 or1 : x.out.base = y.inn.read + y.inn.ready.length ∨ (x.out.base = base ∧ x.out.sent = base)
 held : (hold y.inn : Int) + (base + all.length - (y.inn.read + y.inn.ready.length)) ≤ 200
 read : y.inn.read = b.inn.read
 rdy : ∃ u, y.inn.ready = b.inn.ready ++ u ∧ Seg all base (b.inn.read + b.inn.ready.length) u
theorem data_turn {a b : DEnd} (hal : mAlike a b = true) {all : List UInt8} {base : Int} {x y : DEnd} (h : DI a b all base x y) :
  ((mPush x).2.length = 0 ∧ (mPush x).1.out.text = [] ∧ y.inn.read + y.inn.ready.length = base + all.length ∧ (mPush x).1.G) ∨
  (∃ L, (mPush x).2 = [L] ∧ ∃ s' : Int, DI a b all base (hF mHearCame (mHearData y L).2 (mPush x).1) (mHearData y L).1 ∧ (hF mHearCame (mHearData y L).2 (mPush x).1).out.sent = s' ∧ (x.out.sent + 20 ≤ s' ∨ base + all.length ≤ s')) := by
 have hxE := G_E h.xG
 have hyE := G_E h.yG
 have ho := outOk_bd hxE.out
 have hsi := h.si
 have hlen : (x.out.text.length : Int) = base + all.length - x.out.base := by
  rw [h.txt, List.length_drop]
  have := h.b1; have := hsi.hi; have := h.b0
  omega
 have hPG := mPush_G h.xG
 have hN := next_is h.yG.2 hyE.inn
 simp only [mAlike, Bool.and_eq_true, decide_eq_true_eq] at hal
 have hon : (mOnOf x).length ≠ 0 := by
  have : mOnOf x = mOnOf a := by unfold mOnOf; rw [h.xs]
  rw [this]; omega
 have hns := nextSub_pos h.xG.1 hon
 by_cases hp : (mNextPiece x.out).2 = true
 ·right
  have hs : x.out.sent ≠ x.out.base + x.out.text.length := by
   intro he
   unfold mNextPiece at hp
   rw [if_neg (fun hc => hc.2 he)] at hp
   cases hp
  obtain ⟨i, hi, hil, hi3⟩ := onOf_mem (nextSub_on hns)
  have hgs : gSub x (mNextSub x) = gS x.subs i := by rw [hi]; simp [gSub, gS]
  have hPush : mPush x = ({ x with out := mWasSent x.out, pick := if x.pick ≥ 1000000000 then 0 else x.pick + 1 }, [mBetween (gS x.subs i).road (ltr 11 0 0 0 0 (gS x.subs i).give tg0 0 0 false (mNextPiece x.out).1.pos (mNextPiece x.out).1.text)]) := by
   unfold mPush
   rw [if_pos ⟨hp, hns⟩, hgs]
  have hNP : mNextPiece x.out = (⟨x.out.sent, (x.out.text.drop (x.out.sent - x.out.base).toNat).take 20⟩, true) := by
   unfold mNextPiece; rw [if_pos ⟨hxE.out, hs⟩]
  rw [hPush] at hPG
  rw [hPush]
  refine ⟨_, rfl, ?_⟩
  rw [hNP] at hPG ⊢
  dsimp only at hPG ⊢
  have hws : mWasSent x.out = { x.out with sent := x.out.sent + (((x.out.text.drop (x.out.sent - x.out.base).toNat).take 20).length : Int) } := by unfold mWasSent; rw [hNP]
  rw [hws] at hPG ⊢
  have htl : ((x.out.text.drop (x.out.sent - x.out.base).toNat).take 20).length = min 20 (x.out.text.length - (x.out.sent - x.out.base).toNat) := by rw [List.length_take, List.length_drop]
  have hseg : Seg all base x.out.sent ((x.out.text.drop (x.out.sent - x.out.base).toNat).take 20) := by
   refine ⟨(x.out.sent - base).toNat, by have := h.b0; have := h.b2; omega, ?_, ?_⟩
   ·rw [htl]; have := h.b0; have := h.b2; omega
   ·rw [htl, h.txt, List.drop_drop]
    have e1 : (x.out.base - base).toNat + (x.out.sent - x.out.base).toNat = (x.out.sent - base).toNat := by have := h.b0; have := h.b2; omega
    rw [e1]
    rw [List.take_eq_take_min, List.length_drop, ← h.txt]
    congr 1
    have := h.b0; have := h.b2
    omega
  generalize ht : (x.out.text.drop (x.out.sent - x.out.base).toNat).take 20 = t at *
  have hsb := Seg_bd hseg
  have htp : 1 ≤ t.length ∧ t.length ≤ 20 := by omega
  -- the one that hears
  have hkm : (i : Int) ∈ mOnOf a := by
   have : mOnOf x = mOnOf a := by unfold mOnOf; rw [h.xs]
   rw [← this, ← hi]; exact nextSub_on hns
  have hpa := (allL_iff _ _).1 hal.1 _ hkm
  simp only [pAlike, Bool.not_eq_true', Bool.or_eq_false_iff, decide_eq_false_iff_not, Bool.not_eq_false', decide_eq_true_eq] at hpa
  obtain ⟨⟨⟨p1, p2⟩, p3⟩, p4⟩ := hpa
  obtain ⟨j, hj, hjl⟩ := subAt_nat (e := b) (r := mBack (gSub a i).road) (by omega)
  rw [hj] at p2 p3 p4
  have hga : gSub a i = gS x.subs i := by rw [h.xs]; simp [gSub, gS]
  have hgb : gSub b j = gS y.subs j := by rw [h.ys]; simp [gSub, gS]
  rw [hga] at hj p3 p4
  rw [hgb] at p2 p3 p4
  have hjy : mSubAt y (mBack (gS x.subs i).road) = (j : Int) := by unfold mSubAt at hj ⊢; rw [h.ys]; exact hj
  have hsn := SNum_nums (SNum_get hxE.subs hil)
  have hE : (base + all.length : Int) ≤ 1000000000 := hsi.sm.2
  have hsm0 := hsi.sm.1
  have hlo : mLetterOk (mBetween (gS x.subs i).road (ltr 11 0 0 0 0 (gS x.subs i).give tg0 0 0 false x.out.sent t)) = true :=
   lnums hsn.1 hsn.2.1 hsn.2.2.1 num0 num0 num0 num0 hsn.2.2.2.2.2.1 num0 num0 (mNum_iff.2 (by show 0 ≤ x.out.sent ∧ x.out.sent ≤ 1000000000; omega)) num0 num0 num0 num0 num0 ⟨by show (1 : Int) ≤ 11; decide, by show (11 : Int) ≤ 13; decide⟩ (by show t.length ≤ 20; omega)
  have hso : mSignedOn y (mBetween (gS x.subs i).road (ltr 11 0 0 0 0 (gS x.subs i).give tg0 0 0 false x.out.sent t)) = (j : Int) := signedOn_is hjy p2 p3
  -- what is held then
  have hput : ∃ q : DPieces, mPutPiece y.inn x.out.sent t = q ∧ SI all base q ∧ q.K ∧ mPiecesOk q = true ∧ q.read = y.inn.read ∧ (∃ u, q.ready = y.inn.ready ++ u ∧ Seg all base (y.inn.read + y.inn.ready.length) u) ∧
    x.out.sent + t.length ≤ q.read + q.ready.length ∧ (hold q : Int) + (base + all.length - (q.read + q.ready.length)) ≤ 200 ∧ y.inn.read + y.inn.ready.length ≤ q.read + q.ready.length := by
   refine ⟨_, rfl, (SI_put hsi h.yG.2 hyE.inn hseg).1, K_put _ _ h.yG.2 hyE.inn, piecesOk_put _ _ hyE.inn, ?_⟩
   have hmono := (SI_put hsi h.yG.2 hyE.inn hseg).2
   by_cases hold' : x.out.sent + (t.length : Int) ≤ y.inn.read + y.inn.ready.length
   ·rw [put_old hN hold']
    exact ⟨rfl, ⟨[], by simp, Seg_nil hsi.lo hsi.hi⟩, hold', h.held, Int.le_refl _⟩
   ·obtain ⟨u, f1, f2, f3, f4, f5⟩ := put_front hsi h.yG.2 hyE.inn hseg (by omega) h.s1 (by omega) h.held
    refine ⟨f1, ⟨u, f2, f3⟩, ?_, ?_, hmono⟩
    ·rw [f1, f2, List.length_append]; omega
    ·rw [f1, f2, List.length_append]; omega
  obtain ⟨q, hq, q1, q2, q3, q4, ⟨u, q5, q6⟩, q7, q8, q9⟩ := hput
  have hqN := next_is q2 q3
  have hqhi := q1.hi
  have hHD : mHearData y (mBetween (gS x.subs i).road (ltr 11 0 0 0 0 (gS x.subs i).give tg0 0 0 false x.out.sent t)) = ({ y with inn := q }, [mBetween (mBack (gS x.subs i).road) (ltr 12 0 0 0 0 (gS y.subs j).give tg0 0 0 false (q.read + q.ready.length) [])]) := by
   have e1 : (mBetween (gS x.subs i).road (ltr 11 0 0 0 0 (gS x.subs i).give tg0 0 0 false x.out.sent t)).pos = x.out.sent := rfl
   have e2 : (mBetween (gS x.subs i).road (ltr 11 0 0 0 0 (gS x.subs i).give tg0 0 0 false x.out.sent t)).text = t := rfl
   have e3 : gSub y (j : Int) = gS y.subs j := by simp [gSub, gS]
   unfold mHearData
   rw [if_pos ⟨h.yG.1, hlo, by rw [hso]; omega⟩, e1, e2, hq, hqN, if_neg (by omega), hso, e3]
   rfl
  rw [hHD]
  simp only [hF]
  -- the acknowledgement
  have hyG2 : ({ y with inn := q } : DEnd).G := by
   have := mHearData_G (mBetween (gS x.subs i).road (ltr 11 0 0 0 0 (gS x.subs i).give tg0 0 0 false x.out.sent t)) h.yG
   rw [hHD] at this; exact this
  generalize hXX : ({ x with out := { x.out with sent := x.out.sent + (t.length : Int) }, pick := if x.pick ≥ 1000000000 then 0 else x.pick + 1 } : DEnd) = X at *
  have hXo : X.out = { x.out with sent := x.out.sent + (t.length : Int) } ∧ X.subs = x.subs := by rw [← hXX]; exact ⟨rfl, rfl⟩
  have hXE := G_E hPG
  have hbn := SNum_nums (SNum_get hyE.subs (by rw [h.ys]; exact hjl : j < y.subs.length))
  have hlo2 : mLetterOk (mBetween (mBack (gS x.subs i).road) (ltr 12 0 0 0 0 (gS y.subs j).give tg0 0 0 false (q.read + q.ready.length) [])) = true :=
   lnums hsn.2.1 hsn.1 hsn.2.2.1 num0 num0 num0 num0 hbn.2.2.2.2.2.1 num0 num0 (mNum_iff.2 (by show 0 ≤ q.read + (q.ready.length : Int) ∧ q.read + (q.ready.length : Int) ≤ 1000000000; omega)) num0 num0 num0 num0 num0 ⟨by show (1 : Int) ≤ 12; decide, by show (12 : Int) ≤ 13; decide⟩ (by show 0 ≤ 20; decide)
  have hsf := sub_first hXE (j := i) (by rw [hXo.2]; exact hil) (by rw [hXo.2]; exact hi3)
  have hso2 : mSignedOn X (mBetween (mBack (gS x.subs i).road) (ltr 12 0 0 0 0 (gS y.subs j).give tg0 0 0 false (q.read + q.ready.length) [])) = (i : Int) := by
   refine signedOn_is ?_ (by rw [hXo.2]; exact hi3) (by rw [hXo.2]; exact p4.symm)
   have hr : mRoadOf (mBetween (mBack (gS x.subs i).road) (ltr 12 0 0 0 0 (gS y.subs j).give tg0 0 0 false (q.read + q.ready.length) [])) = (gS X.subs i).road := by rw [hXo.2]; rfl
   rw [hr]; exact hsf
  have hb2 := h.b2
  have hb0 := h.b0
  have hCM : mCame X.out (q.read + q.ready.length) = { text := x.out.text.drop (q.read + q.ready.length - x.out.base).toNat, base := q.read + q.ready.length, sent := q.read + q.ready.length, room := x.out.room } := by
   unfold mCame
   have hO := hXE.out
   rw [hXo.1] at hO ⊢
   rw [if_pos ⟨hO, by dsimp only; omega, by dsimp only; omega⟩]
   dsimp only
   congr 1
   split <;> omega
  have hHC : (mHearCame X (mBetween (mBack (gS x.subs i).road) (ltr 12 0 0 0 0 (gS y.subs j).give tg0 0 0 false (q.read + q.ready.length) []))).1 = { X with out := { text := x.out.text.drop (q.read + q.ready.length - x.out.base).toNat, base := q.read + q.ready.length, sent := q.read + q.ready.length, room := x.out.room } } := by
   unfold mHearCame
   rw [if_pos ⟨hPG.1, hlo2, by rw [hso2]; omega⟩]
   have e1 : (mBetween (mBack (gS x.subs i).road) (ltr 12 0 0 0 0 (gS y.subs j).give tg0 0 0 false (q.read + q.ready.length) [])).pos = q.read + q.ready.length := rfl
   rw [e1, hCM]
  have hXG2 := mHearCame_G (mBetween (mBack (gS x.subs i).road) (ltr 12 0 0 0 0 (gS y.subs j).give tg0 0 0 false (q.read + q.ready.length) [])) hPG
  rw [hHC] at hXG2 ⊢
  have hrd := h.read
  obtain ⟨v, v1, v2⟩ := h.rdy
  refine ⟨q.read + q.ready.length, ⟨hXG2, hyG2, hXo.2.trans h.xs, h.ys, q1, ?_, by dsimp only; omega, Int.le_refl _, Int.le_refl _, Int.le_refl _, .inl rfl, q8, q4.trans hrd, ?_⟩, rfl, ?_⟩
  ·dsimp only
   rw [h.txt, List.drop_drop]
   congr 1
   omega
  ·refine ⟨v ++ u, by rw [q5, v1, List.append_assoc], Seg_app v2 ?_⟩
   have : y.inn.read + (y.inn.ready.length : Int) = b.inn.read + b.inn.ready.length + v.length := by rw [hrd, v1, List.length_append]; omega
   rw [← this]; exact q6
  ·by_cases h20 : t.length = 20
   ·left; omega
   ·right; omega
 ·left
  have hp : (mNextPiece x.out).2 = false := by simpa using hp
  have hno : mPush x = (x, []) := by unfold mPush; rw [if_neg (fun hc => by rw [hp] at hc; cases hc.1)]
  rw [hno]
  have hs : x.out.sent = x.out.base + x.out.text.length := by
   by_cases hs : x.out.sent = x.out.base + x.out.text.length
   ·exact hs
   ·unfold mNextPiece at hp
    rw [if_pos ⟨hxE.out, hs⟩] at hp
    cases hp
  have h1 := h.s1
  have h2 := hsi.hi
  have hNE : y.inn.read + y.inn.ready.length = base + all.length := by omega
  refine ⟨rfl, ?_, hNE, h.xG⟩
  have hz : x.out.text.length = 0 := by
   rcases h.or1 with h3 | ⟨h3, h4⟩
   ·omega
   ·omega
  exact List.eq_nil_of_length_eq_zero hz
theorem data_all {a b : DEnd} (hal : mAlike a b = true) {all : List UInt8} {base : Int} : ∀ (k : Nat) (x y : DEnd), DI a b all base x y → base + all.length ≤ x.out.sent + 20 * k →
  (dL (k + 1) x y).1.out.text = [] ∧ (dL (k + 1) x y).2.inn.read + (dL (k + 1) x y).2.inn.ready.length = base + all.length ∧ (dL (k + 1) x y).2.G ∧ (dL (k + 1) x y).2.inn.read = b.inn.read ∧ ∃ u, (dL (k + 1) x y).2.inn.ready = b.inn.ready ++ u ∧ Seg all base (b.inn.read + b.inn.ready.length) u
 | k, x, y, h, hf => by
  rw [dL]
  rcases data_turn hal h with ⟨h1, h2, h3, h4⟩ | ⟨L, hL, s', h1, h2, h3⟩
  ·rw [if_pos h1]
   exact ⟨h2, h3, h.yG, h.read, h.rdy⟩
  ·have hg : (mPush x).2.getD 0 (ETy.zero .letter) = L := by rw [hL]; rfl
   rw [if_neg (by rw [hL]; simp), hg]
   cases k with
   | zero =>
    -- no room is left: this cannot be
    exfalso
    have hxE := G_E h.xG
    have hs1 := h.s1
    have hhi := h.si.hi
    have hb1 := h.b1
    have hb0 := h.b0
    have hlen : (x.out.text.length : Int) = base + all.length - x.out.base := by
     rw [h.txt, List.length_drop]; omega
    have hno : mPush x = (x, []) := by
     have hp : (mNextPiece x.out).2 = false := by
      unfold mNextPiece; rw [if_neg (fun hc => hc.2 (by omega))]
     unfold mPush; rw [if_neg (fun hc => by rw [hp] at hc; cases hc.1)]
    rw [hno] at hL
    cases hL
   | succ k =>
    refine data_all hal k _ _ h1 ?_
    rw [h2]
    rcases h3 with h3 | h3 <;> omega
end Go.Eng

namespace Go.Eng

theorem accept_is {o : DOut} (t : List UInt8) (h : mOutOk o = true) : ∃ n : Nat, (mAccept o t).2 = (n : Int) ∧ n ≤ t.length ∧ (mAccept o t).1 = { o with text := o.text ++ t.take n } ∧ (n = 0 ∨ o.base + o.text.length + n ≤ 1000000000) := by
 have ho := outOk_bd h
 unfold mAccept
 have hm1 : (if o.room - (o.text.length : Int) < t.length then o.room - (o.text.length : Int) else (t.length : Int)) ≤ t.length := by split <;> omega
 have hm2 : 0 ≤ (if o.room - (o.text.length : Int) < t.length then o.room - (o.text.length : Int) else (t.length : Int)) := by split <;> omega
 generalize (if o.room - (o.text.length : Int) < t.length then o.room - (o.text.length : Int) else (t.length : Int)) = m at *
 by_cases hc : mOutOk o = true ∧ o.base + (o.text.length : Int) + m ≤ 1000000000
 ·rw [if_pos hc]
  refine ⟨m.toNat, by dsimp only; omega, by omega, rfl, .inr (by omega)⟩
 ·rw [if_neg hc]
  exact ⟨0, rfl, Nat.zero_le _, by simp, .inl rfl⟩
/-- The end that writes, before it sends. -/
def mStart (a : DEnd) (t : List UInt8) : DEnd := { (mWrite a t).1 with out := mAnew (mWrite a t).1.out }
theorem write_is {a : DEnd} (t : List UInt8) (h : a.G) : ∃ n : Nat, (mWrite a t).2 = (n : Int) ∧ n ≤ t.length ∧ (mWrite a t).1.out = { a.out with text := a.out.text ++ t.take n } ∧ (mWrite a t).1.subs = a.subs ∧ (n = 0 ∨ a.out.base + a.out.text.length + n ≤ 1000000000) := by
 obtain ⟨n, h1, h2, h3, h4⟩ := accept_is (o := a.out) t (G_E h).out
 unfold mWrite
 rw [if_pos h.1]
 exact ⟨n, h1, h2, h3, rfl, h4⟩
theorem anew_G {e : DEnd} (h : e.G) : ({ e with out := mAnew e.out } : DEnd).G := G_of (EOk_out (G_E h) (outOk_anew (G_E h).out)) h.2
theorem data_law {a b : DEnd} (h : QI a b) (hal : mAlike a b = true) {t : List UInt8} {n : Nat} (hn : (mWrite a t).2 = (n : Int)) (hh : (hold b.inn : Int) + (a.out.text ++ t.take n).length ≤ 200) :
  (dL 12 (mStart a t) b).1.out.text = [] ∧ (dL 12 (mStart a t) b).2.G ∧
  (0 ≤ b.inn.read + b.inn.ready.length - a.out.base ∧ b.inn.read + b.inn.ready.length - a.out.base ≤ ((a.out.text ++ t.take n).length : Int)) ∧
  (mRead (dL 12 (mStart a t) b).2 300).2 = b.inn.ready ++ (a.out.text ++ t.take n).drop (b.inn.read + b.inn.ready.length - a.out.base).toNat ∧
  (mRead (dL 12 (mStart a t) b).2 300).1.inn.read = b.inn.read + b.inn.ready.length + (a.out.text ++ t.take n).length - (b.inn.read + b.inn.ready.length - a.out.base) := by
 have haG := h.pi.aR.1
 have hbG := h.pi.bR.1
 obtain ⟨m, w1, w2, w3, w4, w5⟩ := write_is t haG
 have hmn : m = n := by omega
 subst hmn
 have hao := outOk_bd (G_E haG).out
 have hwG := mWrite_G t haG
 have hwo : mOutOk (mWrite a t).1.out = true := (G_E hwG).out
 have hso : (mStart a t).out = { a.out with text := a.out.text ++ t.take m, sent := a.out.base } := by
  show mAnew (mWrite a t).1.out = _
  unfold mAnew
  rw [if_pos hwo, w3]
 have hlo := h.si.lo
 have hhi := h.si.hi
 have hSI : SI (a.out.text ++ t.take m) a.out.base b.inn := by
  rcases w5 with rfl | w5
  ·simpa using h.si
  ·refine SI_more h.si ?_
   rw [List.length_append, List.length_take]
   omega
 have hlt : ((a.out.text ++ t.take m).length : Int) ≤ 200 := by
  have := (G_E hwG).out
  have := outOk_bd this
  rw [w3] at this
  dsimp only at this
  omega
 have hDI : DI a b (a.out.text ++ t.take m) a.out.base (mStart a t) b := by
  refine ⟨anew_G hwG, hbG, w4, rfl, hSI, ?_, ?_, ?_, ?_, ?_, ?_, by omega, rfl, [], by simp, Seg_nil hSI.lo hSI.hi⟩
  ·rw [hso]; dsimp only; rw [Int.sub_self]; simp
  ·rw [hso]; exact Int.le_refl _
  ·rw [hso]; exact hlo
  ·rw [hso]; exact Int.le_refl _
  ·rw [hso]; exact hlo
  ·rw [hso]; exact .inr ⟨rfl, rfl⟩
 obtain ⟨d1, d2, d3, d4, u, d5, d6⟩ := data_all hal 11 (mStart a t) b hDI (by rw [hso]; dsimp only; omega)
 generalize dL 12 (mStart a t) b = z at *
 have hzE := G_E d3
 have hzK := d3.2
 have hul : (u.length : Int) = a.out.base + (a.out.text ++ t.take m).length - (b.inn.read + b.inn.ready.length) := by
  rw [d4, d5, List.length_append] at d2; omega
 have hu : u = (a.out.text ++ t.take m).drop (b.inn.read + b.inn.ready.length - a.out.base).toNat := by
  obtain ⟨k, k1, k2, k3⟩ := d6
  have hk : (b.inn.read + (b.inn.ready.length : Int) - a.out.base).toNat = k := by omega
  rw [hk, k3]
  rw [List.take_of_length_le (by rw [List.length_drop]; omega)]
 have hR : mRead z.2 300 = ({ z.2 with inn := { z.2.inn with read := z.2.inn.read + z.2.inn.ready.length, ready := [] } }, z.2.inn.ready) := by
  have h200 := hzK.1
  have htn : mTakeN z.2.inn 300 = (z.2.inn.ready.length : Int) := by unfold mTakeN; rw [if_pos (by omega)]
  have hsm := hSI.sm.2
  unfold mRead
  rw [if_pos d3.1]
  unfold mTakeReady
  rw [if_pos ⟨hzE.inn, by omega, by rw [htn]; omega⟩, htn]
  simp
 refine ⟨d1, d3, ⟨by omega, by omega⟩, ?_, ?_⟩
 ·rw [hR]; show z.2.inn.ready = _
  rw [d5, hu]
 ·rw [hR]; show z.2.inn.read + (z.2.inn.ready.length : Int) = _
  omega
end Go.Eng
