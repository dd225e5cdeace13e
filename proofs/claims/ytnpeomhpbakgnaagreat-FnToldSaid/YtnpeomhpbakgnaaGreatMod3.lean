/- Plain models of what the functions compute; part 3. No program in sight. -/
import Derived.Test.YtnpeomhpbakgnaaGreatMod2
set_option linter.unusedVariables false
set_option linter.unusedSimpArgs false
namespace Go.Eng

/-- What the second end holds of the numbers of a path. -/
def Rec (b : DEnd) (th g tk : Int) : Prop := (∃ s ∈ b.subs, s.theirs = th ∧ s.give = g ∧ s.take = tk) ∨ (∃ h ∈ b.halfs, h.theirs = th ∧ h.give = g ∧ h.take = tk)
structure PI (a b : DEnd) : Prop where
 aR : a.R
 bR : b.R
 aside : a.side = 1
 bside : b.side = 2
 many : a.policy.many ≤ 4
 keys : a.peer = b.key ∧ b.peer = a.key
 done : a.done = []
 own : ∀ x ∈ a.own, x.addr ≤ 14 ∧ x.id ≤ 3
 asubs : ∀ s ∈ a.subs, s.road.own ≤ 14 ∧ s.road.port ≤ 3 ∧ s.mine < a.draw
 ahalfs : a.halfs = []
 uniq : ∀ s ∈ a.subs, ∀ s' ∈ a.subs, s.mine = s'.mine → s.take = s'.take
 bsubs : ∀ s ∈ b.subs, (s.state = 3 ∨ s.state = 4) ∧ s.road.port ≤ 3
 bhalfs : ∀ h ∈ b.halfs, h.road.port ≤ 3
 recT : ∀ th g tk, Rec b th g tk → th < a.draw ∧ tk < b.draw
 recG : ∀ th g tk, Rec b th g tk → ∀ s ∈ a.subs, th = s.mine → g = s.take
 link : ∀ s ∈ a.subs, (s.state = 2 ∨ s.state = 3) → s.give < b.draw ∧ ∀ th g tk, Rec b th g tk → tk = s.give → th = s.mine
 recU : ∀ th g th' g' tk, Rec b th g tk → Rec b th' g' tk → th = th'
/-- A letter of the first end, of the second end. -/
def LA (a _b : DEnd) (x : DLetter) : Prop := x.port ≤ 3 ∧ (x.kind = 4 → ∃ s ∈ a.subs, x.nonce = s.mine ∧ x.give = s.take)
def LB (_a b : DEnd) (x : DLetter) : Prop := x.port ≤ 3 ∧ x.kind ≠ 4 ∧ (x.kind = 5 → x.give < b.draw ∧ ∀ th g tk, Rec b th g tk → tk = x.give → th = x.tag.b)

def SubRel (l l' : List DSub) : Prop :=
 (∀ s' ∈ l', ∃ s ∈ l, s'.road = s.road ∧ s'.mine = s.mine ∧ s'.take = s.take ∧ ((s'.state = 2 ∨ s'.state = 3) → (s.state = 2 ∨ s.state = 3) ∧ s'.give = s.give)) ∧
 (∀ s ∈ l, ∃ s' ∈ l', s'.mine = s.mine ∧ s'.take = s.take)
structure AKeep (a o : DEnd) : Prop where
 draw : o.draw = a.draw
 done : o.done = a.done
 halfs : a.halfs = [] → o.halfs = []
 own : ∀ x' ∈ o.own, ∃ x ∈ a.own, x'.addr = x.addr ∧ x'.id = x.id
 subs : SubRel a.subs o.subs
theorem SubRel.refl (l : List DSub) : SubRel l l := ⟨fun s hs => ⟨s, hs, rfl, rfl, rfl, fun h => ⟨h, rfl⟩⟩, fun s hs => ⟨s, hs, rfl, rfl⟩⟩
theorem SubRel_map (l : List DSub) (g : DSub → DSub) (h : ∀ s ∈ l, (g s).road = s.road ∧ (g s).mine = s.mine ∧ (g s).take = s.take ∧ (((g s).state = 2 ∨ (g s).state = 3) → (s.state = 2 ∨ s.state = 3) ∧ (g s).give = s.give)) : SubRel l (l.map g) :=
 ⟨fun s' hs' => by obtain ⟨s, hs, rfl⟩ := List.mem_map.1 hs'; exact ⟨s, hs, h s hs⟩, fun s hs => ⟨g s, List.mem_map.2 ⟨s, hs, rfl⟩, (h s hs).2.1, (h s hs).2.2.1⟩⟩
theorem SubRel_set (l : List DSub) {k : Nat} (hk : k < l.length) (s' : DSub) (h : s'.road = (gS l k).road ∧ s'.mine = (gS l k).mine ∧ s'.take = (gS l k).take ∧ ((s'.state = 2 ∨ s'.state = 3) → ((gS l k).state = 2 ∨ (gS l k).state = 3) ∧ s'.give = (gS l k).give)) : SubRel l (l.set k s') := by
 have hm : gS l k ∈ l := by simp only [gS, List.getD]; rw [List.getElem?_eq_getElem hk]; exact List.getElem_mem _
 refine ⟨fun x hx => ?_, fun s hs => ?_⟩
 ·rcases List.mem_or_eq_of_mem_set hx with h1 | h1
  ·exact ⟨x, h1, rfl, rfl, rfl, fun h => ⟨h, rfl⟩⟩
  ·subst h1; exact ⟨_, hm, h⟩
 ·obtain ⟨i, hi, rfl⟩ := List.getElem_of_mem hs
  have hi' : i < (l.set k s').length := by simpa using hi
  refine ⟨(l.set k s')[i], List.getElem_mem hi', ?_⟩
  rw [List.getElem_set]
  split
  ·rename_i hki; subst hki
   have : gS l k = l[k] := by simp [gS, List.getD, hi]
   rw [← this]; exact ⟨h.2.1, h.2.2.1⟩
  ·exact ⟨rfl, rfl⟩
theorem PI_a {a b o : DEnd} (h : PI a b) (hR : o.R) (hs : Same a o) (k : AKeep a o) : PI o b := by
 obtain ⟨k1, k2, k3, k4, k5, k6⟩ := k
 refine ⟨hR, h.bR, hs.1.trans h.aside, h.bside, by rw [hs.2.2.2.2]; exact h.many, ⟨hs.2.2.2.1.trans h.keys.1, h.keys.2.trans hs.2.2.1.symm⟩, k2.trans h.done, fun x' hx' => ?_, fun s' hs' => ?_, k3 h.ahalfs, fun s' hs' t' ht' hm => ?_, h.bsubs, h.bhalfs, fun th g tk hr => ?_, fun th g tk hr s' hs' ht => ?_, fun s' hs' h23 => ?_, h.recU⟩
 ·obtain ⟨x, hx, h1, h2⟩ := k4 x' hx'
  have := h.own x hx; omega
 ·obtain ⟨s, hs, h1, h2, h3, _⟩ := k5 s' hs'
  have := h.asubs s hs
  rw [h1, h2, k1]; exact this
 ·obtain ⟨s, hs, h1, h2, h3, _⟩ := k5 s' hs'
  obtain ⟨t, ht, g1, g2, g3, _⟩ := k5 t' ht'
  rw [h3, g3]; exact h.uniq s hs t ht (by omega)
 ·rw [k1]; exact h.recT th g tk hr
 ·obtain ⟨s, hs, h1, h2, h3, _⟩ := k5 s' hs'
  rw [h3]; exact h.recG th g tk hr s hs (by omega)
 ·obtain ⟨s, hs, h1, h2, h3, h4⟩ := k5 s' hs'
  obtain ⟨h5, h6⟩ := h4 h23
  have := h.link s hs h5
  rw [h6, h2]; exact this
theorem LA_a {a b o : DEnd} {m : DLetter} (k : AKeep a o) (h : LA a b m) : LA o b m := by
 refine ⟨h.1, fun h4 => ?_⟩
 obtain ⟨s, hs, h1, h2⟩ := h.2 h4
 obtain ⟨s', hs', g1, g2⟩ := k.subs.2 s hs
 exact ⟨s', hs', by omega, by omega⟩
structure BKeep (b o : DEnd) : Prop where
 draw : b.draw ≤ o.draw
 subs : ∀ s' ∈ o.subs, (s'.state = 3 ∨ s'.state = 4) ∧ s'.road.port ≤ 3
 halfs : ∀ h ∈ o.halfs, h.road.port ≤ 3
 recs : ∀ th g tk, Rec o th g tk → Rec b th g tk ∨ (b.draw ≤ tk ∧ tk < o.draw)
theorem PI_b {a b o : DEnd} (h : PI a b) (hR : o.R) (hs : Same b o) (k : BKeep b o) (hn : ∀ th g tk, Rec o th g tk → ¬ Rec b th g tk → th < a.draw ∧ ∀ s ∈ a.subs, th = s.mine → g = s.take)
  (hu : ∀ th g th' g' tk, Rec o th g tk → Rec o th' g' tk → b.draw ≤ tk → th = th') : PI a o := by
 obtain ⟨k1, k2, k3, k4⟩ := k
 refine ⟨h.aR, hR, h.aside, hs.1.trans h.bside, h.many, ⟨h.keys.1.trans hs.2.2.1.symm, hs.2.2.2.1.trans h.keys.2⟩, h.done, h.own, h.asubs, h.ahalfs, h.uniq, k2, k3, fun th g tk hr => ?_, fun th g tk hr => ?_, fun s hs h23 => ?_, fun th g th' g' tk h1 h2 => ?_⟩
 ·by_cases hb : Rec b th g tk
  ·have := h.recT th g tk hb; omega
  ·rcases k4 th g tk hr with h1 | h1
   ·exact absurd h1 hb
   ·exact ⟨(hn th g tk hr hb).1, h1.2⟩
 ·by_cases hb : Rec b th g tk
  ·exact h.recG th g tk hb
  ·exact (hn th g tk hr hb).2
 ·obtain ⟨h1, h2⟩ := h.link s hs h23
  refine ⟨by omega, fun th g tk hr ht => ?_⟩
  rcases k4 th g tk hr with h3 | h3
  ·exact h2 th g tk h3 ht
  ·omega
 ·by_cases hd : b.draw ≤ tk
  ·exact hu th g th' g' tk h1 h2 hd
  ·rcases k4 th g tk h1 with g1 | g1
   ·rcases k4 th' g' tk h2 with g2 | g2
    ·exact h.recU th g th' g' tk g1 g2
    ·omega
   ·omega
theorem LB_b {a b o : DEnd} {m : DLetter} (k : BKeep b o) (h : LB a b m) : LB a o m := by
 refine ⟨h.1, h.2.1, fun h5 => ?_⟩
 obtain ⟨h1, h2⟩ := h.2.2 h5
 have := k.draw
 refine ⟨by omega, fun th g tk hr ht => ?_⟩
 rcases k.recs th g tk hr with h3 | h3
 ·exact h2 th g tk h3 ht
 ·omega
theorem told_own {l : List DAddr} {k : Nat} : ∀ x' ∈ l.set k { l.getD k (ETy.zero .addr) with told := true }, ∃ x ∈ l, x'.addr = x.addr ∧ x'.id = x.id := fun x' hx' => by
 obtain ⟨a, ha, h1, h2⟩ := told_mem hx'
 exact ⟨a, ha, h2.symm, h1.symm⟩
theorem AKeep_q {a o : DEnd} (h1 : o.draw = a.draw) (h2 : o.done = a.done) (h3 : o.halfs = a.halfs) (h4 : o.own = a.own) (h5 : o.subs = a.subs) : AKeep a o :=
 ⟨h1, h2, fun h => h3.trans h, fun x hx => ⟨x, h4 ▸ hx, rfl, rfl⟩, h5 ▸ SubRel.refl _⟩
theorem AKeep.refl (a : DEnd) : AKeep a a := AKeep_q rfl rfl rfl rfl rfl
theorem AKeep_s {a o : DEnd} (h1 : o.draw = a.draw) (h2 : o.done = a.done) (h3 : o.halfs = a.halfs) (h4 : o.own = a.own) (h5 : SubRel a.subs o.subs) : AKeep a o :=
 ⟨h1, h2, fun h => h3.trans h, fun x hx => ⟨x, h4 ▸ hx, rfl, rfl⟩, h5⟩
theorem SubRel_goneIf (l : List DSub) (p : DSub → Bool) : SubRel l (goneIf p l) := by
 refine SubRel_map l _ fun s _ => ?_
 split
 ·exact ⟨rfl, rfl, rfl, fun h => by rcases h with h | h <;> simp at h⟩
 ·exact ⟨rfl, rfl, rfl, fun h => ⟨h, rfl⟩⟩
/-- Of a letter that is no road's asking, what the first end keeps. -/
theorem setSub_keep {a : DEnd} {k : Int} {j : Nat} (hk : k = (j : Int)) (hj : j < a.subs.length) (f : DSub → DSub) (h : (f (gS a.subs j)).road = (gS a.subs j).road ∧ (f (gS a.subs j)).mine = (gS a.subs j).mine ∧ (f (gS a.subs j)).take = (gS a.subs j).take ∧ (((f (gS a.subs j)).state = 2 ∨ (f (gS a.subs j)).state = 3) → ((gS a.subs j).state = 2 ∨ (gS a.subs j).state = 3) ∧ (f (gS a.subs j)).give = (gS a.subs j).give)) : AKeep a (setSub a k f) := by
 subst hk
 refine AKeep_s rfl rfl rfl rfl ?_
 exact SubRel_set a.subs hj (f (gS a.subs j)) h
theorem signed_at {e : DEnd} {x : DLetter} (h : 0 ≤ mSignedOn e x) : ∃ j : Nat, mSignedOn e x = (j : Int) ∧ j < e.subs.length ∧ mSubAt e (mRoadOf x) = (j : Int) ∧ (gS e.subs j).road = mRoadOf x ∧ (gS e.subs j).state = 3 ∧ (gS e.subs j).take = x.sign := by
 unfold mSignedOn at h ⊢
 split at h
 ·omega
 ·rename_i hc
  rw [if_neg hc]
  simp only [not_or, Decidable.not_not] at hc
  obtain ⟨j, hj, hl⟩ := subAt_nat (e := e) (r := mRoadOf x) (by omega)
  have hr := subAt_road hj
  rw [hj] at hc ⊢
  exact ⟨j, rfl, hl, rfl, hr.2.1, by simpa [gS] using hc.2.1, by simpa [gS] using hc.2.2⟩
def Small (x : DLetter) (ls : List DLetter) : Prop := ∀ m ∈ ls, m.port = x.port ∧ (m.kind = 7 ∨ m.kind = 9 ∨ m.kind = 12 ∨ m.kind = 6)
theorem Small_nil (x : DLetter) : Small x [] := fun m hm => by simp at hm
theorem Small_one {x m : DLetter} (h : m.port = x.port ∧ (m.kind = 7 ∨ m.kind = 9 ∨ m.kind = 12 ∨ m.kind = 6)) : Small x [m] := fun y hy => by rw [List.mem_singleton.1 hy]; exact h
theorem a_ack {a : DEnd} (x : DLetter) (h0 : a.halfs = []) : AKeep a (mHearJoinDone a x).1 ∧ Small x (mHearJoinDone a x).2 := by
 have hn : mHalfAt a.halfs (mRoadOf x) = -1 := by rw [h0]; rfl
 unfold mHearJoinDone
 split
 ·rw [if_neg (by rw [hn]; omega)]
  split
  ·exact ⟨AKeep.refl a, Small_one ⟨rfl, .inl rfl⟩⟩
  ·exact ⟨AKeep.refl a, Small_nil _⟩
 ·exact ⟨AKeep.refl a, Small_nil _⟩
theorem a_joinAck {a : DEnd} (x : DLetter) : AKeep a (mHearJoinAck a x).1 ∧ Small x (mHearJoinAck a x).2 := by
 unfold mHearJoinAck
 split
 ·rename_i hc
  obtain ⟨j, hj, hl⟩ := subAt_nat hc.2.2.1
  have h2 : (gS a.subs j).state = 2 := by have := hc.2.2.2.1; rw [hj] at this; simpa [gSub, gS] using this
  exact ⟨setSub_keep hj hl (fun s => { s with state := 3 }) ⟨rfl, rfl, rfl, fun _ => ⟨.inl h2, rfl⟩⟩, Small_nil _⟩
 ·exact ⟨AKeep.refl a, Small_nil _⟩
theorem a_addr {a : DEnd} (x : DLetter) : AKeep a (mHearAddr a x).1 ∧ Small x (mHearAddr a x).2 := by
 unfold mHearAddr
 split
 ·exact ⟨AKeep_q rfl rfl rfl rfl rfl, Small_one ⟨rfl, .inr (.inl rfl)⟩⟩
 ·exact ⟨AKeep.refl a, Small_nil _⟩
theorem a_echo {a : DEnd} (x : DLetter) : AKeep a (mHearEcho a x).1 ∧ Small x (mHearEcho a x).2 := by
 unfold mHearEcho
 split
 ·exact ⟨⟨rfl, rfl, fun h => h, told_own, SubRel.refl _⟩, Small_nil _⟩
 ·exact ⟨AKeep.refl a, Small_nil _⟩
theorem a_gone {a : DEnd} (x : DLetter) : AKeep a (mHearGone a x).1 ∧ Small x (mHearGone a x).2 := by
 unfold mHearGone
 split
 ·exact ⟨AKeep_s rfl rfl rfl rfl (SubRel_goneIf _ _), Small_nil _⟩
 ·exact ⟨AKeep.refl a, Small_nil _⟩
theorem a_data {a : DEnd} (x : DLetter) : AKeep a (mHearData a x).1 ∧ Small x (mHearData a x).2 := by
 unfold mHearData
 repeat' split
 ·exact ⟨AKeep.refl a, Small_nil _⟩
 ·exact ⟨AKeep_q rfl rfl rfl rfl rfl, Small_one ⟨rfl, .inr (.inr (.inl rfl))⟩⟩
 ·exact ⟨AKeep.refl a, Small_nil _⟩
theorem a_came {a : DEnd} (x : DLetter) : AKeep a (mHearCame a x).1 ∧ Small x (mHearCame a x).2 := by
 unfold mHearCame
 split
 ·exact ⟨AKeep_q rfl rfl rfl rfl rfl, Small_nil _⟩
 ·exact ⟨AKeep.refl a, Small_nil _⟩
theorem a_reset {a : DEnd} (x : DLetter) : AKeep a (mHearReset a x).1 ∧ Small x (mHearReset a x).2 := by
 unfold mHearReset
 split
 ·rename_i hc
  obtain ⟨j, hj, hl, _⟩ := signed_at hc.2.2
  exact ⟨setSub_keep hj hl (fun s => { s with state := 4 }) ⟨rfl, rfl, rfl, fun h => by rcases h with h | h <;> simp at h⟩, Small_nil _⟩
 ·exact ⟨AKeep.refl a, Small_nil _⟩
theorem Small_LA {a b : DEnd} {x : DLetter} {ls : List DLetter} (h : Small x ls) (hp : x.port ≤ 3) : ∀ m ∈ ls, LA a b m := fun m hm => by
 obtain ⟨h1, h2⟩ := h m hm
 exact ⟨by omega, fun h4 => by omega⟩
theorem Small_LB {a b : DEnd} {x : DLetter} {ls : List DLetter} (h : Small x ls) (hp : x.port ≤ 3) : ∀ m ∈ ls, LB a b m := fun m hm => by
 obtain ⟨h1, h2⟩ := h m hm
 exact ⟨by omega, by omega, fun h4 => by omega⟩
/-- The first end hears. -/
theorem hearA_back {a b : DEnd} (x : DLetter) (h : PI a b) (hl : LB a b x) (h5 : x.kind = 5) : PI (mHearJoinBack a x).1 b ∧ Small x (mHearJoinBack a x).2 ∧ (∀ m, LA a b m → LA (mHearJoinBack a x).1 b m) := by
 have hR : (mHearJoinBack a x).1.R := R_of h.aR (mHearJoinBack_G x h.aR.1) (mHearJoinBack_same a x)
 revert hR
 unfold mHearJoinBack
 split
 ·rename_i hc
  intro hR
  obtain ⟨_, c2, c3, c4, c5, c6⟩ := hc
  obtain ⟨j, hj, hjl⟩ := subAt_nat c4
  have hro := subAt_road hj
  have hgs : gSub a (mSubAt a (mRoadOf x)) = gS a.subs j := by rw [hj]; simp [gSub, gS]
  have hm : gS a.subs j ∈ a.subs := by simp only [gS, List.getD]; rw [List.getElem?_eq_getElem hjl]; exact List.getElem_mem _
  rw [hgs] at c5 c6
  have hset : ∀ s' ∈ (setSub a (mSubAt a (mRoadOf x)) (fun s => { s with state := 2, theirs := x.nonce, give := x.give, tries := 0 })).subs, s' ∈ a.subs ∨ s' = { gS a.subs j with state := 2, theirs := x.nonce, give := x.give, tries := 0 } := fun s' hs' => by
   simp only [setSub, hgs] at hs'
   exact List.mem_or_eq_of_mem_set hs'
  have hmem : ∀ s ∈ a.subs, ∃ s' ∈ (setSub a (mSubAt a (mRoadOf x)) (fun s => { s with state := 2, theirs := x.nonce, give := x.give, tries := 0 })).subs, s'.mine = s.mine ∧ s'.take = s.take := fun s hs => by
   obtain ⟨i, hi, rfl⟩ := List.getElem_of_mem hs
   have hi' : i < (a.subs.set (mSubAt a (mRoadOf x)).toNat { gS a.subs j with state := 2, theirs := x.nonce, give := x.give, tries := 0 }).length := by simpa using hi
   refine ⟨(a.subs.set (mSubAt a (mRoadOf x)).toNat { gS a.subs j with state := 2, theirs := x.nonce, give := x.give, tries := 0 })[i], ?_, ?_⟩
   ·simp only [setSub, hgs]; exact List.getElem_mem hi'
   ·rw [List.getElem_set]
    split
    ·rename_i hki
     rw [hj] at hki; simp at hki; subst hki
     have : gS a.subs j = a.subs[j] := by simp [gS, List.getD, hi]
     rw [← this]; exact ⟨rfl, rfl⟩
    ·exact ⟨rfl, rfl⟩
  have hj1 := h.asubs _ hm
  refine ⟨⟨hR, h.bR, h.aside, h.bside, h.many, h.keys, h.done, h.own, fun s' hs' => ?_, h.ahalfs, fun s' hs' t' ht' hmm => ?_, h.bsubs, h.bhalfs, h.recT, fun th g tk hr s' hs' ht => ?_, fun s' hs' h23 => ?_, h.recU⟩, Small_one ⟨?_, .inr (.inr (.inr rfl))⟩, fun m hma => ⟨hma.1, fun h4 => ?_⟩⟩
  ·rcases hset s' hs' with h1 | rfl
   ·exact h.asubs s' h1
   ·exact hj1
  ·rcases hset s' hs' with h1 | rfl
   ·rcases hset t' ht' with h2 | rfl
    ·exact h.uniq s' h1 t' h2 hmm
    ·exact h.uniq s' h1 (gS a.subs j) hm hmm
   ·rcases hset t' ht' with h2 | rfl
    ·exact h.uniq (gS a.subs j) hm t' h2 hmm
    ·rfl
  ·rcases hset s' hs' with h1 | rfl
   ·exact h.recG th g tk hr s' h1 ht
   ·exact h.recG th g tk hr (gS a.subs j) hm ht
  ·rcases hset s' hs' with h1 | rfl
   ·exact h.link s' h1 h23
   ·obtain ⟨l1, l2⟩ := hl.2.2 h5
    refine ⟨l1, fun th g tk hr ht => ?_⟩
    rw [l2 th g tk hr ht, c6]; rfl
  ·show (gSub a (mSubAt a (mRoadOf x))).road.port = x.port
   rw [hgs, hro.2.1]; rfl
  ·obtain ⟨s, hs, g1, g2⟩ := hma.2 h4
   obtain ⟨s', hs', g3, g4⟩ := hmem s hs
   exact ⟨s', hs', by omega, by omega⟩
 ·intro _
  exact ⟨h, Small_nil _, fun m hm => hm⟩
theorem hearA {a b : DEnd} (x : DLetter) (h : PI a b) (hl : LB a b x) : PI (mHear a x).1 b ∧ Small x (mHear a x).2 ∧ (∀ m, LA a b m → LA (mHear a x).1 b m) := by
 have P := @iteP (DEnd × List DLetter) (fun z => PI z.1 b ∧ Small x z.2 ∧ (∀ m, LA a b m → LA z.1 b m))
 have h0 : PI a b ∧ Small x [] ∧ (∀ m, LA a b m → LA a b m) := ⟨h, Small_nil _, fun m hm => hm⟩
 have q : ∀ {z : DEnd × List DLetter}, z.1.G → Same a z.1 → AKeep a z.1 ∧ Small x z.2 → PI z.1 b ∧ Small x z.2 ∧ (∀ m, LA a b m → LA z.1 b m) :=
  fun hg hs hk => ⟨PI_a h (R_of h.aR hg hs) hs hk.1, hk.2, fun m hm => LA_a hk.1 hm⟩
 have hG := h.aR.1
 unfold mHear
 by_cases h4 : x.kind = 4
 ·exact absurd h4 hl.2.1
 by_cases h5 : x.kind = 5
 ·rw [if_neg (by omega : ¬ x.kind = 1), if_neg (by omega : ¬ x.kind = 2), if_neg h4, if_pos h5]
  exact P (hearA_back x h hl h5) h0
 ·rw [if_neg h4, if_neg h5]
  refine P (P ?_ (P ?_ (P (q (mHearJoinDone_G x hG) (mHearJoinDone_same a x) (a_ack x h.ahalfs)) (P (q (mHearJoinAck_G x hG) (mHearJoinAck_same a x) (a_joinAck x)) (P (q (mHearAddr_G x hG) (mHearAddr_same a x) (a_addr x)) (P (q (mHearEcho_G x hG) (mHearEcho_same a x) (a_echo x)) (P (q (mHearGone_G x hG) (mHearGone_same a x) (a_gone x)) (P (q (mHearData_G x hG) (mHearData_same a x) (a_data x)) (P (q (mHearCame_G x hG) (mHearCame_same a x) (a_came x)) (P (q (mHearReset_G x hG) (mHearReset_same a x) (a_reset x)) h0)))))))))) h0
  ·rw [mHearHello_2 x h.aR.2]; exact h0
  ·rw [mHearBack_2 x h.aR.2]; exact h0
end Go.Eng

namespace Go.Eng

theorem BKeep_s {a b o : DEnd} (h : PI a b) (h1 : o.draw = b.draw) (h2 : ∀ s' ∈ o.subs, ∃ s ∈ b.subs, (s'.state = 3 ∨ s'.state = 4) ∧ s'.road = s.road ∧ s'.theirs = s.theirs ∧ s'.give = s.give ∧ s'.take = s.take) (h3 : ∀ x ∈ o.halfs, x ∈ b.halfs) : BKeep b o := by
 refine ⟨by omega, fun s' hs' => ?_, fun x hx => h.bhalfs x (h3 x hx), fun th g tk hr => .inl ?_⟩
 ·obtain ⟨s, hs, g1, g2, _⟩ := h2 s' hs'
  rw [g2]; exact ⟨g1, (h.bsubs s hs).2⟩
 ·rcases hr with ⟨s', hs', e1, e2, e3⟩ | ⟨x, hx, e⟩
  ·obtain ⟨s, hs, _, _, g1, g2, g3⟩ := h2 s' hs'
   exact .inl ⟨s, hs, by omega, by omega, by omega⟩
  ·exact .inr ⟨x, h3 x hx, e⟩
theorem BKeep_q {a b o : DEnd} (h : PI a b) (h1 : o.draw = b.draw) (h2 : o.subs = b.subs) (h3 : o.halfs = b.halfs) : BKeep b o :=
 BKeep_s h h1 (fun s' hs' => ⟨s', h2 ▸ hs', (h.bsubs s' (h2 ▸ hs')).1, rfl, rfl, rfl, rfl⟩) (fun x hx => h3 ▸ hx)
theorem PI_keep {a b o : DEnd} (h : PI a b) (hR : o.R) (hs : Same b o) (k : BKeep b o) (hq : o.draw = b.draw) : PI a o := by
 have hr : ∀ th g tk, Rec o th g tk → Rec b th g tk := fun th g tk hr => by
  rcases k.recs th g tk hr with h1 | h1
  ·exact h1
  ·omega
 exact PI_b h hR hs k (fun th g tk h1 h2 => absurd (hr th g tk h1) h2) (fun th g th' g' tk h1 h2 _ => h.recU th g th' g' tk (hr th g tk h1) (hr th' g' tk h2))
/-- What the second end answers is small, and it keeps what it holds. -/
def BOk (b : DEnd) (x : DLetter) (z : DEnd × List DLetter) : Prop := BKeep b z.1 ∧ z.1.draw = b.draw ∧ Small x z.2
theorem BOk_refl {a b : DEnd} (h : PI a b) (x : DLetter) : BOk b x (b, []) := ⟨BKeep_q h rfl rfl rfl, rfl, Small_nil _⟩
theorem b_back {a b : DEnd} (x : DLetter) (h : PI a b) : mHearJoinBack b x = (b, []) := by
 unfold mHearJoinBack
 rw [if_neg]
 rintro ⟨_, _, _, h4, h5, _⟩
 obtain ⟨j, hj, hl⟩ := subAt_nat h4
 rw [hj] at h5
 have hm : gS b.subs j ∈ b.subs := by simp only [gS, List.getD]; rw [List.getElem?_eq_getElem hl]; exact List.getElem_mem _
 have := (h.bsubs _ hm).1
 have h5 : (gS b.subs j).state = 1 := by simpa [gSub, gS] using h5
 omega
theorem b_ack {a b : DEnd} (x : DLetter) (h : PI a b) : mHearJoinAck b x = (b, []) := by
 unfold mHearJoinAck
 rw [if_neg]
 rintro ⟨_, _, h4, h5, _⟩
 obtain ⟨j, hj, hl⟩ := subAt_nat h4
 rw [hj] at h5
 have hm : gS b.subs j ∈ b.subs := by simp only [gS, List.getD]; rw [List.getElem?_eq_getElem hl]; exact List.getElem_mem _
 have := (h.bsubs _ hm).1
 have h5 : (gS b.subs j).state = 2 := by simpa [gSub, gS] using h5
 omega
theorem b_addr {a b : DEnd} (x : DLetter) (h : PI a b) : BOk b x (mHearAddr b x) := by
 unfold mHearAddr
 split
 ·exact ⟨BKeep_q h rfl rfl rfl, rfl, Small_one ⟨rfl, .inr (.inl rfl)⟩⟩
 ·exact BOk_refl h x
theorem b_echo {a b : DEnd} (x : DLetter) (h : PI a b) : BOk b x (mHearEcho b x) := by
 unfold mHearEcho
 split
 ·exact ⟨BKeep_q h rfl rfl rfl, rfl, Small_nil _⟩
 ·exact BOk_refl h x
theorem goneIf_b {a b : DEnd} (h : PI a b) (p : DSub → Bool) : ∀ s' ∈ goneIf p b.subs, ∃ s ∈ b.subs, (s'.state = 3 ∨ s'.state = 4) ∧ s'.road = s.road ∧ s'.theirs = s.theirs ∧ s'.give = s.give ∧ s'.take = s.take := fun s' hs' => by
 obtain ⟨s, hs, rfl⟩ := List.mem_map.1 hs'
 refine ⟨s, hs, ?_⟩
 split
 ·exact ⟨.inr rfl, rfl, rfl, rfl, rfl⟩
 ·exact ⟨(h.bsubs s hs).1, rfl, rfl, rfl, rfl⟩
theorem b_gone {a b : DEnd} (x : DLetter) (h : PI a b) : BOk b x (mHearGone b x) := by
 unfold mHearGone
 split
 ·exact ⟨BKeep_s h rfl (goneIf_b h _) (fun _ h => h), rfl, Small_nil _⟩
 ·exact BOk_refl h x
theorem b_data {a b : DEnd} (x : DLetter) (h : PI a b) : BOk b x (mHearData b x) := by
 unfold mHearData
 repeat' split
 ·exact BOk_refl h x
 ·exact ⟨BKeep_q h rfl rfl rfl, rfl, Small_one ⟨rfl, .inr (.inr (.inl rfl))⟩⟩
 ·exact BOk_refl h x
theorem b_came {a b : DEnd} (x : DLetter) (h : PI a b) : BOk b x (mHearCame b x) := by
 unfold mHearCame
 split
 ·exact ⟨BKeep_q h rfl rfl rfl, rfl, Small_nil _⟩
 ·exact BOk_refl h x
theorem goneAt_b {a b : DEnd} (h : PI a b) {k : Nat} (hk : k < b.subs.length) : ∀ s' ∈ b.subs.set k { b.subs.getD k (ETy.zero .sub) with state := 4 }, ∃ s ∈ b.subs, (s'.state = 3 ∨ s'.state = 4) ∧ s'.road = s.road ∧ s'.theirs = s.theirs ∧ s'.give = s.give ∧ s'.take = s.take := fun s' hs' => by
 have hm : gS b.subs k ∈ b.subs := by simp only [gS, List.getD]; rw [List.getElem?_eq_getElem hk]; exact List.getElem_mem _
 rcases List.mem_or_eq_of_mem_set hs' with h1 | h1
 ·exact ⟨s', h1, (h.bsubs s' h1).1, rfl, rfl, rfl, rfl⟩
 ·subst h1; exact ⟨_, hm, .inr rfl, rfl, rfl, rfl, rfl⟩
theorem b_reset {a b : DEnd} (x : DLetter) (h : PI a b) : BOk b x (mHearReset b x) := by
 unfold mHearReset
 split
 ·rename_i hc
  obtain ⟨j, hj, hl, _⟩ := signed_at hc.2.2
  refine ⟨BKeep_s h rfl ?_ (fun _ h => h), rfl, Small_nil _⟩
  have := goneAt_b h hl
  rw [hj]
  simpa [setSub, gSub] using this
 ·exact BOk_refl h x
theorem b_done {a b : DEnd} (x : DLetter) (h : PI a b) (hp : x.port ≤ 3) : BOk b x (mHearJoinDone b x) := by
 unfold mHearJoinDone
 split
 ·split
  ·rename_i hd
   have he := G_E h.bR.1
   obtain ⟨k, hk, hl, g1, _⟩ := half_get he.halfs hd.1
   have hm : gH b.halfs k ∈ b.halfs := by simp only [gH, List.getD]; rw [List.getElem?_eq_getElem hl]; exact List.getElem_mem _
   have hgh : gHalf b (mHalfAt b.halfs (mRoadOf x)) = gH b.halfs k := by rw [hk]; simp [gHalf, gH]
   have hold : ∀ s' ∈ mGoneAt b.subs (mSubAt b (mRoadOf x)), ∃ s ∈ b.subs, (s'.state = 3 ∨ s'.state = 4) ∧ s'.road = s.road ∧ s'.theirs = s.theirs ∧ s'.give = s.give ∧ s'.take = s.take := by
    unfold mGoneAt
    split
    ·rename_i h0
     obtain ⟨j, hj, hjl⟩ := subAt_nat h0
     rw [hj, Int.toNat_natCast]; exact goneAt_b h hjl
    ·intro s' hs'; exact ⟨s', hs', (h.bsubs s' hs').1, rfl, rfl, rfl, rfl⟩
   refine ⟨⟨Int.le_refl _, fun s' hs' => ?_, fun y hy => h.bhalfs y ((dropHalf_sub _ _).subset hy), fun th g tk hr => .inl ?_⟩, rfl, Small_one ⟨rfl, .inl rfl⟩⟩
   ·rcases List.mem_append.1 hs' with h1 | h1
    ·obtain ⟨s, hs, g1, g2, _⟩ := hold s' h1
     rw [g2]; exact ⟨g1, (h.bsubs s hs).2⟩
    ·rw [List.mem_singleton.1 h1]; exact ⟨.inl rfl, hp⟩
   ·rcases hr with ⟨s', hs', e1, e2, e3⟩ | ⟨y, hy, e⟩
    ·rcases List.mem_append.1 hs' with h1 | h1
     ·obtain ⟨s, hs, _, _, f1, f2, f3⟩ := hold s' h1
      exact .inl ⟨s, hs, by omega, by omega, by omega⟩
     ·have h1 := List.mem_singleton.1 h1
      subst h1
      rw [hgh] at e1 e2 e3
      exact .inr ⟨_, hm, e1, e2, e3⟩
    ·exact .inr ⟨y, (dropHalf_sub _ _).subset hy, e⟩
  ·split
   ·exact ⟨BKeep_q h rfl rfl rfl, rfl, Small_one ⟨rfl, .inl rfl⟩⟩
   ·exact BOk_refl h x
 ·exact BOk_refl h x
theorem putHalf_mem {l : List DHalf} {x y : DHalf} (h : y ∈ (mPutHalf l x).1) : y = x ∨ y ∈ l := by
 unfold mPutHalf at h
 split at h
 ·have h : y ∈ mPutHalfL l x := h
  unfold mPutHalfL at h
  split at h
  ·rcases List.mem_or_eq_of_mem_set h with h1 | h1
   ·exact .inr h1
   ·exact .inl h1
  ·rcases List.mem_append.1 h with h1 | h1
   ·exact .inr h1
   ·exact .inl (List.mem_singleton.1 h1)
 ·exact .inr h
theorem b_join {a b : DEnd} (x : DLetter) (h : PI a b) (hl : LA a b x) (h4 : x.kind = 4) : PI a (mHearJoin b x).1 ∧ (∀ m ∈ (mHearJoin b x).2, LB a (mHearJoin b x).1 m) ∧ (∀ m, LB a b m → LB a (mHearJoin b x).1 m) := by
 have hR : (mHearJoin b x).1.R := R_of h.bR (mHearJoin_G x h.bR.1) (mHearJoin_same b x)
 have hS := mHearJoin_same b x
 revert hR hS
 unfold mHearJoin
 split
 ·rename_i hc
  intro hR hS
  have he := G_E h.bR.1
  obtain ⟨s0, hs0, n1, n2⟩ := hl.2 h4
  have hnew : x.nonce < a.draw ∧ ∀ s ∈ a.subs, x.nonce = s.mine → x.give = s.take := by
   refine ⟨by have := (h.asubs s0 hs0).2.2; omega, fun s hs hn => ?_⟩
   rw [n2]; exact h.uniq s0 hs0 s hs (by omega)
  by_cases hre : 0 ≤ mHalfAt b.halfs (mRoadOf x) ∧ (gHalf b (mHalfAt b.halfs (mRoadOf x))).theirs = x.nonce ∧ (gHalf b (mHalfAt b.halfs (mRoadOf x))).give = x.give
  ·obtain ⟨k, hk, hkl, g1, _⟩ := half_get he.halfs hre.1
   have hm : gH b.halfs k ∈ b.halfs := by simp only [gH, List.getD]; rw [List.getElem?_eq_getElem hkl]; exact List.getElem_mem _
   have hgh : gHalf b (mHalfAt b.halfs (mRoadOf x)) = gH b.halfs k := by rw [hk]; simp [gHalf, gH]
   have hjh : mJoinHalf b x = { gH b.halfs k with til := b.now + 6 } := by unfold mJoinHalf; rw [if_pos hre, hgh]
   have hjd : mJoinDraw b x = b.draw := by unfold mJoinDraw; rw [if_pos hre]
   rw [hjh, hjd] at hR hS ⊢
   have hrec : ∀ th g tk, Rec { b with bucket := (mTakeOne b.bucket).1, draw := b.draw, halfs := (mPutHalf b.halfs { gH b.halfs k with til := b.now + 6 }).1 } th g tk → Rec b th g tk := fun th g tk hr => by
    rcases hr with hr | ⟨y, hy, e⟩
    ·exact .inl hr
    ·rcases putHalf_mem hy with rfl | hy
     ·exact .inr ⟨_, hm, e⟩
     ·exact .inr ⟨y, hy, e⟩
   have hk2 : BKeep b { b with bucket := (mTakeOne b.bucket).1, draw := b.draw, halfs := (mPutHalf b.halfs { gH b.halfs k with til := b.now + 6 }).1 } := by
    refine ⟨Int.le_refl _, h.bsubs, fun y hy => ?_, fun th g tk hr => .inl (hrec th g tk hr)⟩
    rcases putHalf_mem hy with rfl | hy
    ·exact h.bhalfs (gH b.halfs k) hm
    ·exact h.bhalfs y hy
   have hrk : Rec b (gH b.halfs k).theirs (gH b.halfs k).give (gH b.halfs k).take := .inr ⟨_, hm, rfl, rfl, rfl⟩
   refine ⟨PI_keep h hR hS hk2 rfl, fun m hmm => ?_, fun m hmm => LB_b hk2 hmm⟩
   have hmm := List.mem_singleton.1 hmm
   subst hmm
   refine ⟨hl.1, by simp [mBetween, ltr], fun _ => ⟨(h.recT _ _ _ hrk).2, fun th g tk hr ht => ?_⟩⟩
   have ht : tk = (gH b.halfs k).take := ht
   subst ht
   exact h.recU _ _ _ _ _ (hrec _ _ _ hr) hrk
  ·have hjh : mJoinHalf b x = ⟨mRoadOf x, x.nonce, b.draw, x.give, b.draw + 2, b.now + 6⟩ := by unfold mJoinHalf; rw [if_neg hre]
   have hjd : mJoinDraw b x = b.draw + 4 := by unfold mJoinDraw; rw [if_neg hre]
   rw [hjh, hjd] at hR hS ⊢
   have hrec : ∀ th g tk, Rec { b with bucket := (mTakeOne b.bucket).1, draw := b.draw + 4, halfs := (mPutHalf b.halfs ⟨mRoadOf x, x.nonce, b.draw, x.give, b.draw + 2, b.now + 6⟩).1 } th g tk → Rec b th g tk ∨ (th = x.nonce ∧ g = x.give ∧ tk = b.draw + 2) := fun th g tk hr => by
    rcases hr with hr | ⟨y, hy, e1, e2, e3⟩
    ·exact .inl (.inl hr)
    ·rcases putHalf_mem hy with rfl | hy
     ·exact .inr ⟨e1.symm, e2.symm, e3.symm⟩
     ·exact .inl (.inr ⟨y, hy, e1, e2, e3⟩)
   have hk2 : BKeep b { b with bucket := (mTakeOne b.bucket).1, draw := b.draw + 4, halfs := (mPutHalf b.halfs ⟨mRoadOf x, x.nonce, b.draw, x.give, b.draw + 2, b.now + 6⟩).1 } := by
    refine ⟨by simp only []; omega, h.bsubs, fun y hy => ?_, fun th g tk hr => ?_⟩
    ·rcases putHalf_mem hy with rfl | hy
     ·exact hl.1
     ·exact h.bhalfs y hy
    ·rcases hrec th g tk hr with h1 | h1
     ·exact .inl h1
     ·exact .inr (by simp only []; omega)
   refine ⟨PI_b h hR hS hk2 (fun th g tk h1 h2 => ?_) (fun th g th' g' tk h1 h2 h3 => ?_), fun m hmm => ?_, fun m hmm => LB_b hk2 hmm⟩
   ·rcases hrec th g tk h1 with h3 | ⟨rfl, rfl, rfl⟩
    ·exact absurd h3 h2
    ·exact hnew
   ·rcases hrec th g tk h1 with g1 | ⟨rfl, rfl, rfl⟩
    ·have := (h.recT _ _ _ g1).2; omega
    ·rcases hrec th' g' _ h2 with g2 | ⟨rfl, rfl, _⟩
     ·have := (h.recT _ _ _ g2).2; omega
     ·rfl
   ·have hmm := List.mem_singleton.1 hmm
    subst hmm
    refine ⟨hl.1, by simp [mBetween, ltr], fun _ => ⟨?_, fun th g tk hr ht => ?_⟩⟩
    ·show b.draw + 2 < b.draw + 4; omega
    ·have ht : tk = b.draw + 2 := ht
     rcases hrec th g tk hr with h1 | ⟨rfl, _⟩
     ·have := (h.recT _ _ _ h1).2; omega
     ·rfl
 ·intro _ _
  exact ⟨h, fun m hm => by simp at hm, fun m hm => hm⟩
theorem hearB {a b : DEnd} (x : DLetter) (h : PI a b) (hl : LA a b x) : PI a (mHear b x).1 ∧ (∀ m ∈ (mHear b x).2, LB a (mHear b x).1 m) ∧ (∀ m, LB a b m → LB a (mHear b x).1 m) := by
 have P := @iteP (DEnd × List DLetter) (fun z => PI a z.1 ∧ (∀ m ∈ z.2, LB a z.1 m) ∧ (∀ m, LB a b m → LB a z.1 m))
 have h0 : PI a b ∧ (∀ m ∈ ([] : List DLetter), LB a b m) ∧ (∀ m, LB a b m → LB a b m) := ⟨h, fun m hm => by simp at hm, fun m hm => hm⟩
 have q : ∀ {z : DEnd × List DLetter}, z.1.G → Same b z.1 → BOk b x z → PI a z.1 ∧ (∀ m ∈ z.2, LB a z.1 m) ∧ (∀ m, LB a b m → LB a z.1 m) :=
  fun hg hs hk => ⟨PI_keep h (R_of h.bR hg hs) hs hk.1 hk.2.1, Small_LB hk.2.2 hl.1, fun m hm => LB_b hk.1 hm⟩
 have hG := h.bR.1
 unfold mHear
 by_cases h4 : x.kind = 4
 ·rw [if_neg (by omega : ¬ x.kind = 1), if_neg (by omega : ¬ x.kind = 2), if_pos h4]
  exact P (b_join x h hl h4) h0
 ·rw [if_neg h4]
  refine P (P ?_ (P ?_ (P ?_ (P (q (mHearJoinDone_G x hG) (mHearJoinDone_same b x) (b_done x h hl.1)) (P ?_ (P (q (mHearAddr_G x hG) (mHearAddr_same b x) (b_addr x h)) (P (q (mHearEcho_G x hG) (mHearEcho_same b x) (b_echo x h)) (P (q (mHearGone_G x hG) (mHearGone_same b x) (b_gone x h)) (P (q (mHearData_G x hG) (mHearData_same b x) (b_data x h)) (P (q (mHearCame_G x hG) (mHearCame_same b x) (b_came x h)) (P (q (mHearReset_G x hG) (mHearReset_same b x) (b_reset x h)) h0))))))))))) h0
  ·rw [mHearHello_2 x h.bR.2]; exact h0
  ·rw [mHearBack_2 x h.bR.2]; exact h0
  ·rw [b_back x h]; exact h0
  ·rw [b_ack x h]; exact h0
/-! what each end does -/
theorem road_in {e : DEnd} {k : Int} (h0 : 0 ≤ k) (hk : k < e.subs.length) : gSub e k ∈ e.subs := by
 have : k.toNat < e.subs.length := by omega
 simp only [gSub, List.getD]
 rw [List.getElem?_eq_getElem this]
 exact List.getElem_mem _
/-- Letters that only tell: a small port, no asking. -/
def Tells (ls : List DLetter) : Prop := ∀ m ∈ ls, m.port ≤ 3 ∧ m.kind ≠ 4 ∧ m.kind ≠ 5
theorem push_keep (e : DEnd) : (mPush e).1.subs = e.subs ∧ (mPush e).1.halfs = e.halfs ∧ (mPush e).1.draw = e.draw ∧ (mPush e).1.done = e.done ∧ (mPush e).1.own = e.own := by
 unfold mPush; split <;> exact ⟨rfl, rfl, rfl, rfl, rfl⟩
theorem pushN_keep (e : DEnd) : ∀ n, (pushN n e).1.subs = e.subs ∧ (pushN n e).1.halfs = e.halfs ∧ (pushN n e).1.draw = e.draw ∧ (pushN n e).1.done = e.done ∧ (pushN n e).1.own = e.own
 | 0 => ⟨rfl, rfl, rfl, rfl, rfl⟩
 | n + 1 => by
  have h1 := pushN_keep e n
  have h2 := push_keep (pushN n e).1
  exact ⟨h2.1.trans h1.1, h2.2.1.trans h1.2.1, h2.2.2.1.trans h1.2.2.1, h2.2.2.2.1.trans h1.2.2.2.1, h2.2.2.2.2.trans h1.2.2.2.2⟩
theorem push_tells {e : DEnd} (h : ∀ s ∈ e.subs, s.road.port ≤ 3) : Tells (mPush e).2 := by
 unfold mPush
 split
 ·rename_i hc
  have hb := mNextSub_bd e
  intro m hm
  have hm := List.mem_singleton.1 hm
  subst hm
  exact ⟨h _ (road_in hc.2 (by omega)), by simp [mBetween, ltr], by simp [mBetween, ltr]⟩
 ·intro m hm; simp at hm
theorem pushN_tells {e : DEnd} (h : ∀ s ∈ e.subs, s.road.port ≤ 3) : ∀ n, Tells (pushN n e).2
 | 0 => fun m hm => by simp [pushN] at hm
 | n + 1 => fun m hm => by
  rcases List.mem_append.1 hm with h1 | h1
  ·exact pushN_tells h n m h1
  ·exact push_tells (by rw [(pushN_keep e n).1]; exact h) m h1
theorem tell_tells {e : DEnd} (h : ∀ s ∈ e.subs, s.road.port ≤ 3) : Tells (mTellAddrs e) := by
 unfold mTellAddrs
 split
 ·rename_i hc
  have hmem : (mOnOf e).getD 0 (ETy.zero .int) ∈ mOnOf e := by
   rw [List.getD, List.getElem?_eq_getElem (by omega)]; exact List.getElem_mem _
  have hb := mOnOf_mem e _ hmem
  have hp := h _ (road_in hb.1 hb.2)
  have gen : ∀ (l : List DAddr) (i : Nat), Tells (colL (fTell e) l i) := by
   intro l
   induction l with
   | nil => intro i m hm; simp [colL] at hm
   | cons x l ih =>
    intro i m hm
    by_cases ht : x.told = true
    ·rw [colL_none (f := fTell e) (by simp [fTell, ht])] at hm; exact ih _ m hm
    ·rw [colL_some (f := fTell e) (y := mTellOne e x) (by simp [fTell, ht])] at hm
     rcases List.mem_cons.1 hm with rfl | hm
     ·exact ⟨hp, by simp [mTellOne, mBetween], by simp [mTellOne, mBetween]⟩
     ·exact ih _ m hm
  exact gen _ _
 ·intro m hm; simp at hm
theorem Tells_LA {a b : DEnd} {ls : List DLetter} (h : Tells ls) : ∀ m ∈ ls, LA a b m := fun m hm => ⟨(h m hm).1, fun h4 => absurd h4 (h m hm).2.1⟩
theorem Tells_LB {a b : DEnd} {ls : List DLetter} (h : Tells ls) : ∀ m ∈ ls, LB a b m := fun m hm => ⟨(h m hm).1, (h m hm).2.1, fun h4 => absurd h4 (h m hm).2.2⟩
theorem write_keep (e : DEnd) (t : List UInt8) : (mWriteAll e t).1.subs = e.subs ∧ (mWriteAll e t).1.halfs = e.halfs ∧ (mWriteAll e t).1.draw = e.draw ∧ (mWriteAll e t).1.done = e.done ∧ (mWriteAll e t).1.own = e.own := by
 have h1 := pushN_keep (mWrite e t).1 3
 have h2 : (mWrite e t).1.subs = e.subs ∧ (mWrite e t).1.halfs = e.halfs ∧ (mWrite e t).1.draw = e.draw ∧ (mWrite e t).1.done = e.done ∧ (mWrite e t).1.own = e.own := by
  unfold mWrite; split <;> exact ⟨rfl, rfl, rfl, rfl, rfl⟩
 exact ⟨h1.1.trans h2.1, h1.2.1.trans h2.2.1, h1.2.2.1.trans h2.2.2.1, h1.2.2.2.1.trans h2.2.2.2.1, h1.2.2.2.2.trans h2.2.2.2.2⟩
theorem write_tells {e : DEnd} (t : List UInt8) (h : ∀ s ∈ e.subs, s.road.port ≤ 3) : Tells (mWriteAll e t).2 := by
 refine pushN_tells ?_ 3
 have : (mWrite e t).1.subs = e.subs := by unfold mWrite; split <;> rfl
 rw [this]; exact h
theorem read_keep (e : DEnd) (n : Int) : (mRead e n).1.subs = e.subs ∧ (mRead e n).1.halfs = e.halfs ∧ (mRead e n).1.draw = e.draw ∧ (mRead e n).1.done = e.done ∧ (mRead e n).1.own = e.own := by
 unfold mRead; split <;> exact ⟨rfl, rfl, rfl, rfl, rfl⟩
theorem addOwn_keep (e : DEnd) (a : DAddr) : (mAddOwn e a).1.subs = e.subs ∧ (mAddOwn e a).1.halfs = e.halfs ∧ (mAddOwn e a).1.draw = e.draw ∧ (mAddOwn e a).1.done = e.done := by
 unfold mAddOwn; split <;> exact ⟨rfl, rfl, rfl, rfl⟩
theorem addOwn_own {e : DEnd} {a x : DAddr} (h : x ∈ (mAddOwn e a).1.own) : x ∈ e.own ∨ (x.addr = a.addr ∧ x.id = a.id) := by
 unfold mAddOwn at h
 split at h
 ·rcases putAddr_mem h with rfl | h
  ·exact .inr ⟨rfl, rfl⟩
  ·exact .inl h
 ·exact .inl h
theorem tick1_keep (e : DEnd) : (mTick1 e).draw = e.draw ∧ (mTick1 e).done = e.done ∧ (mTick1 e).own = e.own ∧ (e.halfs = [] → (mTick1 e).halfs = []) ∧ (∀ h ∈ (mTick1 e).halfs, h ∈ e.halfs) ∧ ((mTick1 e).subs = e.subs.map tickG ∨ (mTick1 e).subs = e.subs) := by
 have hs : ∀ h ∈ (mTick0 e).halfs, h ∈ e.halfs := fun h hh => (younger_sub _ _).subset hh
 have hn : e.halfs = [] → (mTick0 e).halfs = [] := fun h => by simp only [mTick0, h]; rfl
 unfold mTick1
 split
 ·exact ⟨rfl, rfl, rfl, hn, hs, .inl rfl⟩
 ·exact ⟨rfl, rfl, rfl, hn, hs, .inr rfl⟩
theorem tickG_keep (s : DSub) : (tickG s).road = s.road ∧ (tickG s).mine = s.mine ∧ (tickG s).take = s.take ∧ (tickG s).give = s.give ∧ (tickG s).theirs = s.theirs ∧ (((tickG s).state = 2 ∨ (tickG s).state = 3) → (s.state = 2 ∨ s.state = 3)) := by
 unfold tickG
 repeat' split
 ·exact ⟨rfl, rfl, rfl, rfl, rfl, fun h => h⟩
 ·exact ⟨rfl, rfl, rfl, rfl, rfl, fun h => by rcases h with h | h <;> simp at h⟩
 ·exact ⟨rfl, rfl, rfl, rfl, rfl, fun h => h⟩
theorem tick_akeep (e : DEnd) : AKeep e (mTick e).1 := by
 unfold mTick
 split
 ·obtain ⟨h1, h2, h3, h4, h5, h6⟩ := tick1_keep e
  obtain ⟨g1, g2, g3, g4, g5⟩ := pushN_keep (mTick1 e) 3
  refine ⟨g3.trans h1, g4.trans h2, fun h => g2.trans (h4 h), fun x hx => ⟨x, ?_, rfl, rfl⟩, ?_⟩
  ·have hx : x ∈ (pushN 3 (mTick1 e)).1.own := hx
   rw [g5, h3] at hx; exact hx
  ·show SubRel e.subs (pushN 3 (mTick1 e)).1.subs
   rw [g1]
   rcases h6 with h6 | h6
   ·rw [h6]
    refine SubRel_map _ _ fun s _ => ?_
    have := tickG_keep s
    exact ⟨this.1, this.2.1, this.2.2.1, fun h => ⟨this.2.2.2.2.2 h, this.2.2.2.1⟩⟩
   ·rw [h6]; exact SubRel.refl _
 ·exact AKeep.refl e
theorem tickL_mem {e : DEnd} {m : DLetter} (h : m ∈ mTickL e) : ∃ s ∈ e.subs, (s.state = 1 ∧ m = mJoinLetter e s) ∨ (s.state = 2 ∧ m = mDoneLetter e s) := by
 have gen : ∀ (l : List DSub) (i : Nat), m ∈ colL (tickF e) l i → ∃ s ∈ l, (s.state = 1 ∧ m = mJoinLetter e s) ∨ (s.state = 2 ∧ m = mDoneLetter e s) := by
  intro l
  induction l with
  | nil => intro i h; simp [colL] at h
  | cons s l ih =>
   intro i h
   rw [colL] at h
   split at h
   ·rename_i y hy
    rcases List.mem_cons.1 h with h | h
    ·subst h
     refine ⟨s, by simp, ?_⟩
     unfold tickF at hy
     repeat' split at hy
     all_goals first | cases hy; done | skip
     ·rename_i h1; cases hy; exact .inl ⟨h1, rfl⟩
     ·rename_i h0 _ _ h1; cases hy
      right
      refine ⟨?_, rfl⟩
      by_cases h2 : s.state = 2
      ·exact h2
      ·exact absurd ⟨h1, h2⟩ h0
    ·obtain ⟨s', hs', h'⟩ := ih _ h
     exact ⟨s', by simp [hs'], h'⟩
   ·obtain ⟨s', hs', h'⟩ := ih _ h
    exact ⟨s', by simp [hs'], h'⟩
 unfold mTickL at h
 split at h
 ·exact gen _ _ h
 ·simp at h
theorem tick1_ports {e : DEnd} (h : ∀ s ∈ e.subs, s.road.port ≤ 3) : ∀ s ∈ (mTick1 e).subs, s.road.port ≤ 3 := by
 rcases (tick1_keep e).2.2.2.2.2 with h6 | h6
 ·rw [h6]
  intro s hs
  obtain ⟨s', hs', rfl⟩ := List.mem_map.1 hs
  rw [(tickG_keep s').1]; exact h s' hs'
 ·rw [h6]; exact h
theorem tick_letters {e : DEnd} {m : DLetter} (h : m ∈ (mTick e).2) (hp : ∀ s ∈ e.subs, s.road.port ≤ 3) : m ∈ mTickL e ∨ (m.port ≤ 3 ∧ m.kind ≠ 4 ∧ m.kind ≠ 5) := by
 unfold mTick at h
 split at h
 ·rcases List.mem_append.1 h with h | h
  ·rcases List.mem_append.1 h with h | h
   ·exact .inl h
   ·exact .inr (tell_tells (tick1_ports hp) m h)
  ·exact .inr (pushN_tells (tick1_ports hp) 3 m h)
 ·simp at h
theorem join_PI {a b : DEnd} (h : PI a b) {r : DRoad} (hr : r.port ≤ 3) (p : Bool) : PI (mJoin a r p).1 b ∧ (∀ m ∈ (mJoin a r p).2, LA (mJoin a r p).1 b m) ∧ (∀ m, LA a b m → LA (mJoin a r p).1 b m) := by
 have hR : (mJoin a r p).1.R := R_of h.aR (mJoin_G r p h.aR.1) (mJoin_same a r p)
 revert hR
 unfold mJoin
 split
 ·rename_i hc
  intro hR
  obtain ⟨_, _, _, _, c5, _, _, c8⟩ := hc
  have hd := room_bd c8
  have hown : r.own ≤ 14 := by
   obtain ⟨x, hx, hxa⟩ := owns_iff.1 c5
   have := (h.own x hx).1; omega
  have hsub : ∀ s' ∈ a.subs ++ [(⟨r, 1, p, a.draw, 0, 0, a.draw + 2, 0⟩ : DSub)], s' ∈ a.subs ∨ s' = ⟨r, 1, p, a.draw, 0, 0, a.draw + 2, 0⟩ := fun s' hs' => by
   rcases List.mem_append.1 hs' with h1 | h1
   ·exact .inl h1
   ·exact .inr (List.mem_singleton.1 h1)
  refine ⟨⟨hR, h.bR, h.aside, h.bside, h.many, h.keys, h.done, h.own, fun s' hs' => ?_, h.ahalfs, fun s' hs' t' ht' hm => ?_, h.bsubs, h.bhalfs, fun th g tk hrr => ?_, fun th g tk hrr s' hs' ht => ?_, fun s' hs' h23 => ?_, h.recU⟩, fun m hm => ?_, fun m hm => ⟨hm.1, fun h4 => ?_⟩⟩
  ·rcases hsub s' hs' with h1 | rfl
   ·have := h.asubs s' h1; exact ⟨this.1, this.2.1, by simp only []; omega⟩
   ·exact ⟨hown, hr, by simp only []; omega⟩
  ·rcases hsub s' hs' with h1 | rfl
   ·rcases hsub t' ht' with h2 | rfl
    ·exact h.uniq s' h1 t' h2 hm
    ·have := (h.asubs s' h1).2.2; have hm : s'.mine = a.draw := hm; omega
   ·rcases hsub t' ht' with h2 | rfl
    ·have := (h.asubs t' h2).2.2; have hm : a.draw = t'.mine := hm; omega
    ·rfl
  ·have := h.recT th g tk hrr; exact ⟨by simp only []; omega, this.2⟩
  ·rcases hsub s' hs' with h1 | rfl
   ·exact h.recG th g tk hrr s' h1 ht
   ·have := (h.recT th g tk hrr).1; have ht : th = a.draw := ht; omega
  ·rcases hsub s' hs' with h1 | rfl
   ·exact h.link s' h1 h23
   ·rcases h23 with h2 | h2 <;> simp at h2
  ·have hm := List.mem_singleton.1 hm
   subst hm
   exact ⟨hr, fun _ => ⟨_, List.mem_append_right _ (List.mem_singleton.2 rfl), rfl, rfl⟩⟩
  ·obtain ⟨s, hs, g⟩ := hm.2 h4
   exact ⟨s, List.mem_append_left _ hs, g⟩
 ·intro _
  exact ⟨h, fun m hm => by simp at hm, fun m hm => hm⟩
theorem mgL_PI (e : DEnd) {b : DEnd} : ∀ (l : List DRoad) (o : DEnd) (acc : List DLetter), PI o b → (∀ r ∈ l, r.port ≤ 3) → (∀ m ∈ acc, LA o b m) → PI (mgL e l o acc).1 b ∧ ∀ m ∈ (mgL e l o acc).2, LA (mgL e l o acc).1 b m
 | [], _, _, h, _, hm => ⟨h, hm⟩
 | r :: l, o, acc, h, hl, hm => by
  rw [mgL]
  obtain ⟨h1, h2, h3⟩ := join_PI h (hl r (by simp)) (mSpare e r.far)
  refine mgL_PI e l _ _ h1 (fun q hq => hl q (by simp [hq])) fun m hmm => ?_
  rcases List.mem_append.1 hmm with h4 | h4
  ·exact h3 m (hm m h4)
  ·exact h2 m h4
theorem many4 {p : DPolicy} (hp : mPolicyOk p = true) (h : p.many ≤ 4) : mMany p ≤ 4 := by
 have := (policy_many hp).1
 split at this <;> omega
theorem manage_PI {a b : DEnd} (h : PI a b) : PI (mManage a).1 b ∧ ∀ m ∈ (mManage a).2, LA (mManage a).1 b m := by
 unfold mManage
 split
 ·refine mgL_PI a _ a [] h (fun r hr => ?_) (fun m hm => by simp at hm)
  have he := G_E h.aR.1
  unfold mMissL at hr
  rw [missing_iff ⟨Nat.le_trans (mWanted_len _ _ _) (by decide), haveOf_len he⟩] at hr
  have h1 := (wanted_mem hr.1).2.2
  have h2 := many4 he.pol h.many
  omega
 ·exact ⟨h, fun m hm => by simp at hm⟩
theorem actAddr_bd {x : DEnd} (hs : x.side = 1 ∨ x.side = 2) (c : DCur) : (10 * x.side + 2 ≤ (actAddr x c).addr ∧ (actAddr x c).addr ≤ 10 * x.side + 4) ∧ 1 ≤ (actAddr x c).id ∧ (actAddr x c).id ≤ 3 := by
 have h1 := mBelow_bd (c := c) (n := 3) (by decide)
 have h2 := mBelow_bd (c := mBelowC c 3) (n := 3) (by decide)
 simp only [actAddr]
 rw [w64_id (n := 1 + mBelow c 3) (by omega) (by omega), w64_id (n := 10 * x.side) (by omega) (by omega), w64_id (n := 10 * x.side + 2) (by omega) (by omega), w64_id (by omega) (by omega)]
 omega
theorem actA_PI (k : Int) (c : DCur) (a b : DEnd) (h : PI a b) : PI (actE k a c).1 b ∧ ∀ l ∈ (actE k a c).2, LA (actE k a c).1 b l := by
 have hR := actE_R k c h.aR
 have hp : ∀ s ∈ a.subs, s.road.port ≤ 3 := fun s hs => (h.asubs s hs).2.1
 revert hR
 unfold actE
 repeat' split
 ·intro hR
  obtain ⟨g1, g2, g3, g4, g5⟩ := write_keep a (actText c)
  exact ⟨PI_a h hR (mWriteAll_same _ _) (AKeep_q g3 g4 g2 g5 g1), Tells_LA (write_tells _ hp)⟩
 ·intro hR
  obtain ⟨g1, g2, g3, g4⟩ := addOwn_keep a (actAddr a c)
  have hs := mAddOwn_same a (actAddr a c)
  have hb := actAddr_bd (.inl h.aside) c
  have hA := h.aside
  refine ⟨⟨hR, h.bR, hs.1.trans h.aside, h.bside, by rw [hs.2.2.2.2]; exact h.many, ⟨hs.2.2.2.1.trans h.keys.1, h.keys.2.trans hs.2.2.1.symm⟩, g4.trans h.done, fun x hx => ?_, ?_, g2.trans h.ahalfs, ?_, h.bsubs, h.bhalfs, ?_, ?_, ?_, h.recU⟩, fun m hm => by simp at hm⟩
  ·rcases addOwn_own hx with h1 | h1
   ·exact h.own x h1
   ·omega
  ·rw [g1, g3]; exact h.asubs
  ·rw [g1]; exact h.uniq
  ·rw [g3]; exact h.recT
  ·rw [g1]; exact h.recG
  ·rw [g1]; exact h.link
 ·intro hR
  have hk := tick_akeep a
  refine ⟨PI_a h hR (mTick_same a) hk, fun m hm => ?_⟩
  rcases tick_letters hm hp with h1 | h1
  ·refine LA_a hk ?_
   obtain ⟨s, hs, ⟨_, rfl⟩ | ⟨_, rfl⟩⟩ := tickL_mem h1
   ·exact ⟨hp s hs, fun _ => ⟨s, hs, rfl, rfl⟩⟩
   ·exact ⟨hp s hs, fun h4 => by simp [mDoneLetter, mBetween, ltr] at h4⟩
  ·exact ⟨h1.1, fun h4 => absurd h4 h1.2.1⟩
 ·intro _; exact manage_PI h
 ·intro hR
  obtain ⟨g1, g2, g3, g4, g5⟩ := read_keep a (mBelow c 30)
  exact ⟨PI_a h hR (mRead_same _ _) (AKeep_q g3 g4 g2 g5 g1), fun m hm => by simp at hm⟩
theorem actB_PI (k : Int) (c : DCur) (a b : DEnd) (h : PI a b) : PI a (actE k b c).1 ∧ ∀ l ∈ (actE k b c).2, LB a (actE k b c).1 l := by
 have hR := actE_R k c h.bR
 have hp : ∀ s ∈ b.subs, s.road.port ≤ 3 := fun s hs => (h.bsubs s hs).2
 revert hR
 unfold actE
 repeat' split
 ·intro hR
  obtain ⟨g1, g2, g3, g4, g5⟩ := write_keep b (actText c)
  exact ⟨PI_keep h hR (mWriteAll_same _ _) (BKeep_q h g3 g1 g2) g3, Tells_LB (write_tells _ hp)⟩
 ·intro hR
  obtain ⟨g1, g2, g3, g4⟩ := addOwn_keep b (actAddr b c)
  exact ⟨PI_keep h hR (mAddOwn_same _ _) (BKeep_q h g3 g1 g2) g3, fun m hm => by simp at hm⟩
 ·intro hR
  have hk : BKeep b (mTick b).1 ∧ (mTick b).1.draw = b.draw := by
   unfold mTick
   split
   ·obtain ⟨h1, h2, h3, h4, h5, h6⟩ := tick1_keep b
    obtain ⟨g1, g2, g3, g4, g5⟩ := pushN_keep (mTick1 b) 3
    refine ⟨BKeep_s h (g3.trans h1) (fun s' hs' => ?_) (fun x hx => ?_), g3.trans h1⟩
    ·have hs' : s' ∈ (pushN 3 (mTick1 b)).1.subs := hs'
     rw [g1] at hs'
     rcases h6 with h6 | h6
     ·rw [h6] at hs'
      obtain ⟨s, hs, rfl⟩ := List.mem_map.1 hs'
      have h34 := (h.bsubs s hs).1
      have hg : tickG s = s := by unfold tickG; rw [if_pos (by omega)]
      rw [hg]; exact ⟨s, hs, h34, rfl, rfl, rfl, rfl⟩
     ·rw [h6] at hs'; exact ⟨s', hs', (h.bsubs s' hs').1, rfl, rfl, rfl, rfl⟩
    ·have hx : x ∈ (pushN 3 (mTick1 b)).1.halfs := hx
     rw [g2] at hx; exact h5 x hx
   ·exact ⟨BKeep_q h rfl rfl rfl, rfl⟩
  refine ⟨PI_keep h hR (mTick_same b) hk.1 hk.2, fun m hm => ?_⟩
  rcases tick_letters hm hp with h1 | h1
  ·obtain ⟨s, hs, ⟨h2, _⟩ | ⟨h2, _⟩⟩ := tickL_mem h1
   ·have := (h.bsubs s hs).1; omega
   ·have := (h.bsubs s hs).1; omega
  ·exact ⟨h1.1, h1.2.1, fun h4 => absurd h4 h1.2.2⟩
 ·intro _
  have : mManage b = (b, []) := by unfold mManage; rw [if_neg (fun hc => by have := h.bside; omega)]
  rw [this]; exact ⟨h, fun m hm => by simp at hm⟩
 ·intro hR
  obtain ⟨g1, g2, g3, g4, g5⟩ := read_keep b (mBelow c 30)
  exact ⟨PI_keep h hR (mRead_same _ _) (BKeep_q h g3 g1 g2) g3, fun m hm => by simp at hm⟩
theorem start_PI (p q : DPolicy) (hp : mPolicyOk p = true) (hq : mPolicyOk q = true) (h4 : p.many ≤ 4) : PI (endA p) (endB q) := by
 have hrec : ∀ th g tk, Rec (endB q) th g tk → th = 0 ∧ g = 1003 ∧ tk = 1004 := fun th g tk hr => by
  rcases hr with ⟨s, hs, e1, e2, e3⟩ | ⟨x, hx, _⟩
  ·have := List.mem_singleton.1 hs
   subst this
   exact ⟨e1.symm, e2.symm, e3.symm⟩
  ·simp [endB] at hx
 refine ⟨endA_R hp, endB_R hq, rfl, rfl, h4, ⟨rfl, rfl⟩, rfl, ?_, ?_, rfl, ?_, ?_, ?_, ?_, ?_, ?_, ?_⟩
 ·intro x hx; rw [List.mem_singleton.1 hx]; exact ⟨by show (11 : Int) ≤ 14; decide, by show (0 : Int) ≤ 3; decide⟩
 ·intro s hs; rw [List.mem_singleton.1 hs]; exact ⟨by show (11 : Int) ≤ 14; decide, by show (0 : Int) ≤ 3; decide, by show (0 : Int) < 1005; decide⟩
 ·intro s hs t ht _; rw [List.mem_singleton.1 hs, List.mem_singleton.1 ht]
 ·intro s hs; rw [List.mem_singleton.1 hs]; exact ⟨.inl rfl, by show (0 : Int) ≤ 3; decide⟩
 ·intro x hx; simp [endB] at hx
 ·intro th g tk hr
  obtain ⟨rfl, rfl, rfl⟩ := hrec th g tk hr
  exact ⟨by show (0 : Int) < 1005; decide, by show (1004 : Int) < 1006; decide⟩
 ·intro th g tk hr s hs _
  obtain ⟨rfl, rfl, rfl⟩ := hrec th g tk hr
  rw [List.mem_singleton.1 hs]
 ·intro s hs _
  rw [List.mem_singleton.1 hs]
  refine ⟨by show (1004 : Int) < 1006; decide, fun th g tk hr _ => (hrec th g tk hr).1⟩
 ·intro th g th' g' tk h1 h2
  rw [(hrec th g tk h1).1, (hrec th' g' tk h2).1]
theorem mEnds_PI (c : DCur) : PI (mEnds c).2.1 (mEnds c).2.2 :=
 endsL_ind (I := PI) (A := LA) (A' := LA) (B := LB) (B' := LB) actA_PI actB_PI
  (fun _ _ l h hl => ⟨(hearB l h hl).1, (hearB l h hl).2.1, fun _ hm => hm, (hearB l h hl).2.2⟩)
  (fun _ _ l h hl => ⟨(hearA l h hl).1, Small_LA (hearA l h hl).2.1 hl.1, fun _ hm => hm, (hearA l h hl).2.2⟩)
  (fun _ _ _ h => h) (fun _ _ _ h => h) 13 0 _ _ _ (start_PI _ _ (mDPol_ok _) (mDPol_ok _) (mDPol_many _))
end Go.Eng

namespace Go.Eng

theorem lnums {x : DLetter} (h1 : mNum x.src = true) (h2 : mNum x.dst = true) (h3 : mNum x.port = true) (h4 : mNum x.key = true) (h5 : mNum x.token = true) (h6 : mNum x.nonce = true) (h7 : mNum x.give = true) (h8 : mNum x.sign = true) (h9 : mNum x.id = true) (h10 : mNum x.addr = true) (h11 : mNum x.pos = true)
  (h12 : mNum x.tag.kind = true) (h13 : mNum x.tag.one = true) (h14 : mNum x.tag.two = true) (h15 : mNum x.tag.a = true) (h16 : mNum x.tag.b = true) (hk : 1 ≤ x.kind ∧ x.kind ≤ 13) (ht : x.text.length ≤ 20) : mLetterOk x = true := by
 refine letter_ok hk (fun n hn => ?_) ht
 simp only [lNums, List.mem_cons, List.not_mem_nil, or_false] at hn
 rcases hn with rfl | rfl | rfl | rfl | rfl | rfl | rfl | rfl | rfl | rfl | rfl | rfl | rfl | rfl | rfl | rfl
 all_goals assumption
end Go.Eng

namespace Go.Eng

def hA9 : List DLetter → DEnd → List DLetter → DEnd × List DLetter
 | [], y, e => (y, e)
 | l :: r, y, e => if l.id = 9 then hA9 r (mHearAddr y l).1 (mHearAddr y l).2 else hA9 r y e
def hF (F : DEnd → DLetter → DEnd × List DLetter) : List DLetter → DEnd → DEnd
 | [], x => x
 | l :: r, x => hF F r (F x l).1
theorem hA9_G : ∀ (l : List DLetter) {y : DEnd} {e : List DLetter}, y.G → e.length ≤ 1 → (hA9 l y e).1.G ∧ (hA9 l y e).2.length ≤ 1
 | [], _, _, h, h1 => ⟨h, h1⟩
 | m :: l, y, e, h, h1 => by
  rw [hA9]
  split
  ·exact hA9_G l (mHearAddr_G m h) (mHearAddr_len1 y m)
  ·exact hA9_G l h h1
def adr9 : DAddr := ⟨9, 19, false, false⟩
theorem hA9_skip : ∀ (l r : List DLetter) (y : DEnd) (e : List DLetter), (∀ m ∈ l, m.id ≠ 9) → hA9 (l ++ r) y e = hA9 r y e
 | [], _, _, _, _ => rfl
 | m :: l, r, y, e, h => by
  rw [List.cons_append, hA9, if_neg (h m (by simp))]
  exact hA9_skip l r y e fun x hx => h x (by simp [hx])
theorem plL_all (n : Int) : ∀ (l : List DAddr) (i : Nat), (∀ a ∈ l, a.id < n) → plL n l i = i + l.length
 | [], _, _ => rfl
 | a :: l, i, h => by
  rw [plL, if_pos (h a (by simp)), plL_all n l (i + 1) fun x hx => h x (by simp [hx])]
  simp; omega
theorem put9 {l : List DAddr} (hA : AOk l) (h : ∀ x ∈ l, x.addr ≤ 14 ∧ x.id ≤ 3) (hl : l.length < 6) : mPutAddr l adr9 = (l ++ [adr9], true) := by
 have hn : mAddrAt l 9 < 0 := addrAt_neg.2 fun a ha he => by have := (h a ha).2; omega
 have hL : mPutL l adr9 = l ++ [adr9] := by
  unfold mPutL
  rw [if_neg (by show ¬ 0 ≤ mAddrAt l 9; omega)]
  show l.take (plL 9 l 0) ++ [adr9] ++ l.drop (plL 9 l 0) = _
  rw [plL_all 9 l 0 fun a ha => by have := (h a ha).2; omega]
  simp
 have hO : AOk (l ++ [adr9]) := by
  refine ⟨by simp; omega, fun a ha => ?_, List.pairwise_append.2 ⟨hA.2.2, by simp, fun a ha b hb => ?_⟩⟩
  ·rcases List.mem_append.1 ha with ha | ha
   ·exact hA.2.1 a ha
   ·rw [List.mem_singleton.1 ha]; simp [adr9]
  ·rw [List.mem_singleton.1 hb]
   have := h a ha
   refine ⟨by show a.id < 9; omega, fun he => ?_⟩
   have he : a.addr = 19 := he
   omega
 unfold mPutAddr
 rw [hL, if_pos ((addrsOk_iff _).2 hO)]
theorem colL_app {α β : Type} (f : α → Nat → Option β) : ∀ (l r : List α) (i : Nat), colL f (l ++ r) i = colL f l i ++ colL f r (i + l.length)
 | [], r, i => by simp [colL]
 | x :: l, r, i => by
  rw [List.cons_append]
  cases hx : f x i with
  | some y => rw [colL_some hx, colL_some hx, colL_app f l r (i + 1)]; simp [Nat.add_assoc, Nat.add_comm 1]
  | none => rw [colL_none hx, colL_none hx, colL_app f l r (i + 1)]; simp [Nat.add_assoc, Nat.add_comm 1]
theorem tell_ids (e : DEnd) : ∀ (l : List DAddr) (i : Nat), ∀ m ∈ colL (fTell e) l i, ∃ a ∈ l, m.id = a.id
 | [], _, m, h => by simp [colL] at h
 | x :: l, i, m, h => by
  by_cases ht : x.told = true
  ·rw [colL_none (f := fTell e) (by simp [fTell, ht])] at h
   obtain ⟨a, ha, he⟩ := tell_ids e l (i + 1) m h
   exact ⟨a, by simp [ha], he⟩
  ·rw [colL_some (f := fTell e) (y := mTellOne e x) (by simp [fTell, ht])] at h
   rcases List.mem_cons.1 h with rfl | h
   ·exact ⟨x, by simp, rfl⟩
   ·obtain ⟨a, ha, he⟩ := tell_ids e l (i + 1) m h
    exact ⟨a, by simp [ha], he⟩
theorem hF_keep (F : DEnd → DLetter → DEnd × List DLetter) (Q : DEnd → Prop) (h : ∀ e m, Q e → Q (F e m).1) : ∀ (l : List DLetter) (e : DEnd), Q e → Q (hF F l e)
 | [], _, h0 => h0
 | m :: l, e, h0 => hF_keep F Q h l _ (h e m h0)
theorem sub_first {e : DEnd} (he : EOk e) {j : Nat} (hj : j < e.subs.length) (h3 : (gS e.subs j).state = 3) : mSubAt e (gS e.subs j).road = (j : Int) := by
 have hp := (pw_iff (ETy.zero .sub)).1 he.subs.2.2
 refine (findL_is _ (ETy.zero .sub) e.subs j hj).2 ⟨?_, fun k hk => ?_⟩
 ·have h4 : ((gS e.subs j).state != 4) = true := by rw [h3]; rfl
  simp only [pSub, Bool.and_eq_true, decide_eq_true_eq]
  exact ⟨h4, trivial⟩
 ·have := hp k j hk hj
  simp only [pSub, Bool.and_eq_false_imp, bne_iff_ne, decide_eq_false_iff_not]
  intro h4
  exact this h4 (by have : (gS e.subs j).state = 3 := h3; show (gS e.subs j).state ≠ 4; omega)
theorem goneIf_none {p : DSub → Bool} {l : List DSub} (h : ∀ s ∈ l, p s = false) : goneIf p l = l := by
 unfold goneIf
 have : ∀ s ∈ l, (if p s = true then { s with state := 4 } else s) = s := fun s hs => by rw [if_neg (by rw [h s hs]; simp)]
 exact List.map_id'' (f := fun s => if p s = true then { s with state := 4 } else s) |> fun _ => by
  rw [List.map_congr_left this]; simp
theorem gone_no9 {e : DEnd} {m : DLetter} (h : ∀ a ∈ e.far, a.id ≠ 9) (ho : 9 ∈ e.over) : (∀ a ∈ (mHearGone e m).1.far, a.id ≠ 9) ∧ 9 ∈ (mHearGone e m).1.over := by
 unfold mHearGone
 split
 ·exact ⟨fun a ha => h a ((dropAddr_sub _ _).subset ha), mPut_mem.2 (.inr ho)⟩
 ·exact ⟨h, ho⟩
theorem addr_no9 {e : DEnd} {m : DLetter} (h : ∀ a ∈ e.far, a.id ≠ 9) (ho : 9 ∈ e.over) : (∀ a ∈ (mHearAddr e m).1.far, a.id ≠ 9) ∧ 9 ∈ (mHearAddr e m).1.over := by
 unfold mHearAddr
 split
 ·rename_i hc
  refine ⟨fun a ha => ?_, ho⟩
  rcases putAddr_mem ha with rfl | ha
  ·have := has_iff.1 hc.2.2.2.2.1
   intro h9
   have h9 : m.id = 9 := h9
   rw [h9] at this
   exact this ho
  ·exact h a ha
 ·exact ⟨h, ho⟩
/-- What the law of telling needs. -/
structure ToldOk (a b : DEnd) : Prop where
 ok : (mAddOwn a adr9).2 = true ∨ (a.own.length = 6 ∨ 0 ≤ mAddrAt a.own 9)
 rest : (mAddOwn a adr9).2 = true →
  0 ≤ mAddrAt (hF mHearEcho (hA9 (mTellAddrs (mAddOwn a adr9).1) b []).2 (mAddOwn a adr9).1).own 9 ∧
  (mAddOwn (mDropOwn (hF mHearEcho (hA9 (mTellAddrs (mAddOwn a adr9).1) b []).2 (mAddOwn a adr9).1) 9).1 ⟨9, 18, false, false⟩).2 = false ∧
  mAddrAt (mDropOwn (hF mHearEcho (hA9 (mTellAddrs (mAddOwn a adr9).1) b []).2 (mAddOwn a adr9).1) 9).1.own 9 < 0 ∧
  ((hA9 (mTellAddrs (mAddOwn a adr9).1) b []).2.length = 0 → (gA (hF mHearEcho (hA9 (mTellAddrs (mAddOwn a adr9).1) b []).2 (mAddOwn a adr9).1).own (mAddrAt (hF mHearEcho (hA9 (mTellAddrs (mAddOwn a adr9).1) b []).2 (mAddOwn a adr9).1).own 9).toNat).told = false) ∧
  ((hA9 (mTellAddrs (mAddOwn a adr9).1) b []).2.length ≠ 0 → (gA (hF mHearEcho (hA9 (mTellAddrs (mAddOwn a adr9).1) b []).2 (mAddOwn a adr9).1).own (mAddrAt (hF mHearEcho (hA9 (mTellAddrs (mAddOwn a adr9).1) b []).2 (mAddOwn a adr9).1).own 9).toNat).told = true ∧
   0 ≤ mAddrAt (hA9 (mTellAddrs (mAddOwn a adr9).1) b []).1.far 9 ∧
   mAddrAt (hF mHearAddr (mTellAddrs (mAddOwn a adr9).1) (hF mHearGone (mDropOwn (hF mHearEcho (hA9 (mTellAddrs (mAddOwn a adr9).1) b []).2 (mAddOwn a adr9).1) 9).2 (hA9 (mTellAddrs (mAddOwn a adr9).1) b []).1)).far 9 = -1)
theorem told_law {a b : DEnd} (h : PI a b) : ToldOk a b := by
 have ha := G_E h.aR.1
 have hb := G_E h.bR.1
 by_cases hk : 0 ≤ mAddrAt a.own 9
 ·refine ⟨.inr (.inr hk), fun hok => ?_⟩
  unfold mAddOwn at hok
  rw [if_neg (fun hc => by have : mAddrAt a.own 9 < 0 := hc.2.1; omega)] at hok
  cases hok
 have hdone : mHas a.done 9 = false := by rw [h.done]; rfl
 have hc : mEndOk a = true ∧ mAddrAt a.own adr9.id < 0 ∧ mHas a.done adr9.id = false := ⟨h.aR.1.1, by show mAddrAt a.own 9 < 0; omega, hdone⟩
 by_cases h6 : a.own.length = 6
 ·refine ⟨.inr (.inl h6), fun hok => ?_⟩
  unfold mAddOwn at hok
  rw [if_pos hc] at hok
  have hok : (mPutAddr a.own adr9).2 = true := hok
  unfold mPutAddr at hok
  split at hok
  ·rename_i hh
   have h1 := mAddrsOk_len hh
   have hn : ¬ 0 ≤ mAddrAt a.own adr9.id := by show ¬ 0 ≤ mAddrAt a.own 9; omega
   unfold mPutL at h1
   rw [if_neg hn] at h1
   simp only [List.length_append, List.length_take, List.length_drop, List.length_cons, List.length_nil] at h1
   omega
  ·cases hok
 have h6' : a.own.length < 6 := by have := ha.own.1; omega
 have hput := put9 ha.own h.own h6'
 have hX : mAddOwn a adr9 = ({ a with own := a.own ++ [adr9] }, true) := by
  unfold mAddOwn
  rw [if_pos hc]
  show ({ a with own := (mPutAddr a.own adr9).1 }, (mPutAddr a.own adr9).2) = _
  rw [hput]
 refine ⟨.inl (by rw [hX]), fun _ => ?_⟩
 have hXG : ({ a with own := a.own ++ [adr9] } : DEnd).G := by have := mAddOwn_G adr9 h.aR.1; rw [hX] at this; exact this
 rw [hX]
 dsimp only
 generalize hXX : ({ a with own := a.own ++ [adr9] } : DEnd) = X at *
 have hXs : X.subs = a.subs ∧ X.state = 2 ∧ X.own = a.own ++ [adr9] ∧ X.done = [] := by rw [← hXX]; exact ⟨rfl, h.aR.2, rfl, h.done⟩
 obtain ⟨x1, x2, x3, x4⟩ := hXs
 have hXE := G_E hXG
 have h9no : ∀ y ∈ a.own, y.id ≠ 9 := fun y hy => by have := (h.own y hy).2; omega
 have hat : mAddrAt X.own 9 = (a.own.length : Int) := by
  rw [x3]
  unfold mAddrAt
  refine (findL_is _ (ETy.zero .addr) _ _ (by simp)).2 ⟨by simp [List.getD, adr9], fun k hk => ?_⟩
  have hg : (a.own ++ [adr9]).getD k (ETy.zero .addr) = a.own[k] := by simp [List.getD, List.getElem?_append_left hk, hk]
  rw [hg]
  simpa using h9no _ (List.getElem_mem hk)
 have hgA : gA X.own a.own.length = adr9 := by rw [x3]; simp [gA, List.getD]
 -- any end that heard echoes, then the drop
 have hdrop : ∀ Z : DEnd, Z.G → Z.state = 2 → 0 ≤ mAddrAt Z.own 9 → (mAddOwn (mDropOwn Z 9).1 ⟨9, 18, false, false⟩).2 = false ∧ mAddrAt (mDropOwn Z 9).1.own 9 < 0 := by
  intro Z hZ hZ2 hZ9
  have hd : mDropOwn Z 9 = (mDropEnd Z 9, (mOnOf (mDropEnd Z 9)).map fun k => mDropLetter 9 (gSub (mDropEnd Z 9) k)) := by unfold mDropOwn; rw [if_pos ⟨hZ.1, hZ2, hZ9⟩]
  rw [hd]
  refine ⟨?_, addrAt_neg.2 (dropAddr_no (G_E hZ).own 9)⟩
  have hm : mHas (mDropEnd Z 9).done 9 = true := by
   by_cases hh : mHas (mDropEnd Z 9).done 9 = true
   ·exact hh
   ·exact absurd (mPut_mem.2 (.inl rfl)) (has_iff.1 ((Bool.not_eq_true _).mp hh))
  unfold mAddOwn
  rw [if_neg (fun hc => by have : mHas (mDropEnd Z 9).done 9 = false := hc.2.2; rw [hm] at this; cases this)]
 by_cases hon : (mOnOf X).length = 0
 ·have htl : mTellAddrs X = [] := by unfold mTellAddrs; rw [if_neg (fun hc => hc.2.2 hon)]
  rw [htl]
  simp only [hA9, hF]
  obtain ⟨d1, d2⟩ := hdrop X hXG x2 (by rw [hat]; omega)
  refine ⟨by rw [hat]; omega, d1, d2, fun _ => ?_, fun hh => absurd rfl hh⟩
  rw [hat, Int.toNat_natCast, hgA]; rfl
 -- there is a path
 have htl : mTellAddrs X = colL (fTell X) a.own 0 ++ [mTellOne X adr9] := by
  unfold mTellAddrs
  rw [if_pos ⟨hXG.1, x2, hon⟩, x3, colL_app, colL_some (f := fTell X) (x := adr9) (y := mTellOne X adr9) rfl]
  rfl
 have hskip : ∀ (y : DEnd) (e : List DLetter), hA9 (mTellAddrs X) y e = ((mHearAddr y (mTellOne X adr9)).1, (mHearAddr y (mTellOne X adr9)).2) := fun y e => by
  rw [htl, hA9_skip _ _ _ _ fun m hm => by obtain ⟨c, hc, he⟩ := tell_ids X a.own 0 m hm; rw [he]; exact h9no c hc]
  rw [hA9, if_pos (show (mTellOne X adr9).id = 9 from rfl), hA9]
 rw [hskip]
 dsimp only
 have hmem : (mOnOf X).getD 0 (ETy.zero .int) ∈ mOnOf X := by rw [List.getD, List.getElem?_eq_getElem (by omega)]; exact List.getElem_mem _
 obtain ⟨j, hj, hjl, hj3⟩ := onOf_mem hmem
 have hgs : gSub X ((mOnOf X).getD 0 (ETy.zero .int)) = gS X.subs j := by rw [hj]; simp [gSub, gS]
 have hsm : gS X.subs j ∈ a.subs := by rw [← x1]; simp only [gS, List.getD]; rw [List.getElem?_eq_getElem hjl]; exact List.getElem_mem _
 have hL : mTellOne X adr9 = mBetween (gS X.subs j).road ⟨8, 0, 0, 0, 0, 0, 0, 0, (gS X.subs j).give, mTagAddr X.key X.peer 9 19, 9, 19, false, 0, []⟩ := by unfold mTellOne; rw [hgs]; rfl
 have hro : mRoadOf (mTellOne X adr9) = mBack (gS X.subs j).road := by rw [hL]; rfl
 have hsg : (mTellOne X adr9).sign = (gS X.subs j).give := by rw [hL]; rfl
 have hid : (mTellOne X adr9).id = 9 ∧ (mTellOne X adr9).addr = 19 ∧ (mTellOne X adr9).spare = false := by rw [hL]; exact ⟨rfl, rfl, rfl⟩
 by_cases hA : mEndOk b = true ∧ mLetterOk (mTellOne X adr9) = true ∧ 0 ≤ mSignedOn b (mTellOne X adr9) ∧ (mTellOne X adr9).tag = mTagAddr b.peer b.key (mTellOne X adr9).id (mTellOne X adr9).addr ∧ mHas b.over (mTellOne X adr9).id = false ∧ ¬(0 ≤ mAddrAt b.far (mTellOne X adr9).id ∧ (b.far.getD (mAddrAt b.far (mTellOne X adr9).id).toNat (ETy.zero .addr)).addr ≠ (mTellOne X adr9).addr) ∧ (mPutAddr b.far ⟨(mTellOne X adr9).id, (mTellOne X adr9).addr, (mTellOne X adr9).spare, true⟩).2 = true
 ·have hH : mHearAddr b (mTellOne X adr9) = ({ b with far := (mPutAddr b.far ⟨(mTellOne X adr9).id, (mTellOne X adr9).addr, (mTellOne X adr9).spare, true⟩).1 }, [mBetween (mRoadOf (mTellOne X adr9)) (ltr 9 0 0 0 0 (gSub b (mSignedOn b (mTellOne X adr9))).give tg0 (mTellOne X adr9).id (mTellOne X adr9).addr false 0 [])]) := by
   unfold mHearAddr; rw [if_pos hA]
  obtain ⟨A1, A2, A3, A4, A5, A6, A7⟩ := hA
  have hYG := mHearAddr_G (mTellOne X adr9) h.bR.1
  rw [hH] at hYG ⊢
  obtain ⟨i, hi, hil, hiat, hiro, hi3, hit⟩ := signed_at A3
  have hgb : gSub b (mSignedOn b (mTellOne X adr9)) = gS b.subs i := by rw [hi]; simp [gSub, gS]
  have hbm : gS b.subs i ∈ b.subs := by simp only [gS, List.getD]; rw [List.getElem?_eq_getElem hil]; exact List.getElem_mem _
  have hrec : Rec b (gS b.subs i).theirs (gS b.subs i).give (gS b.subs i).take := .inl ⟨_, hbm, rfl, rfl, rfl⟩
  have hth := (h.link _ hsm (.inr hj3)).2 _ _ _ hrec (hit.trans hsg)
  have hgive := h.recG _ _ _ hrec _ hsm hth
  have hbn := SNum_nums (hb.subs.2.1 _ hbm)
  have hsn := SNum_nums (hXE.subs.2.1 _ (by rw [x1]; exact hsm))
  -- the echo
  have hE : mBetween (mRoadOf (mTellOne X adr9)) (ltr 9 0 0 0 0 (gSub b (mSignedOn b (mTellOne X adr9))).give tg0 (mTellOne X adr9).id (mTellOne X adr9).addr false 0 []) = mBetween (mBack (gS X.subs j).road) (ltr 9 0 0 0 0 (gS X.subs j).take tg0 9 19 false 0 []) := by
   rw [hro, hgb, hgive, hid.1, hid.2.1]
  rw [hE]
  have hlo : mLetterOk (mBetween (mBack (gS X.subs j).road) (ltr 9 0 0 0 0 (gS X.subs j).take tg0 9 19 false 0 [])) = true :=
   lnums hsn.2.1 hsn.1 hsn.2.2.1 num0 num0 num0 num0 hsn.2.2.2.2.2.2 rfl rfl num0 num0 num0 num0 num0 num0 ⟨by show (1 : Int) ≤ 9; decide, by show (9 : Int) ≤ 13; decide⟩ (by show 0 ≤ 20; decide)
  have hXat := sub_first hXE hjl hj3
  have hso : mSignedOn X (mBetween (mBack (gS X.subs j).road) (ltr 9 0 0 0 0 (gS X.subs j).take tg0 9 19 false 0 [])) = (j : Int) := signedOn_is hXat hj3 rfl
  have hEc : mHearEcho X (mBetween (mBack (gS X.subs j).road) (ltr 9 0 0 0 0 (gS X.subs j).take tg0 9 19 false 0 [])) = ({ X with own := X.own.set a.own.length { adr9 with told := true } }, []) := by
   unfold mHearEcho
   have e1 : (mBetween (mBack (gS X.subs j).road) (ltr 9 0 0 0 0 (gS X.subs j).take tg0 9 19 false 0 [])).id = 9 := rfl
   have e2 : X.own.getD (mAddrAt X.own 9).toNat (ETy.zero .addr) = adr9 := by rw [hat, Int.toNat_natCast]; exact hgA
   rw [e1, if_pos ⟨hXG.1, hlo, by rw [hso]; omega, by rw [hat]; omega, by rw [e2]; rfl⟩, e2, hat, Int.toNat_natCast]
  have hX2G := mHearEcho_G (mBetween (mBack (gS X.subs j).road) (ltr 9 0 0 0 0 (gS X.subs j).take tg0 9 19 false 0 [])) hXG
  simp only [hF]
  rw [hEc] at hX2G ⊢
  have hlo2 : a.own.length < X.own.length := by rw [x3]; simp
  generalize hX2 : ({ X with own := X.own.set a.own.length { adr9 with told := true } } : DEnd) = X2 at *
  dsimp only at hX2G ⊢
  have y1 : X2.own = X.own.set a.own.length { adr9 with told := true } := by rw [← hX2]
  have y2 : X2.state = 2 ∧ X2.subs = X.subs := by rw [← hX2]; exact ⟨x2, rfl⟩
  clear hX2
  have hat2 : mAddrAt X2.own 9 = (a.own.length : Int) := by
   rw [y1, ← hat]
   unfold mAddrAt
   refine findL_same _ _ _ 0 ?_
   rw [List.map_set]
   apply List.ext_getElem?
   intro q
   rw [List.getElem?_set]
   split
   ·rename_i hq; subst hq
    have : X.own[a.own.length] = adr9 := by simpa [gA, List.getD, hlo2] using hgA
    simp [hlo2, this, adr9]
   ·rfl
  obtain ⟨d1, d2⟩ := hdrop X2 hX2G y2.1 (by rw [hat2]; omega)
  refine ⟨by rw [hat2]; omega, d1, d2, fun hh => by simp at hh, fun _ => ⟨?_, ?_, ?_⟩⟩
  ·rw [hat2, Int.toNat_natCast, y1]
   simp only [gA]
   rw [set_get _ _ _ _ hlo2]
  ·have : ¬ mAddrAt (mPutAddr b.far ⟨(mTellOne X adr9).id, (mTellOne X adr9).addr, (mTellOne X adr9).spare, true⟩).1 9 < 0 := by
    rw [addrAt_neg]
    intro hall
    refine hall ⟨(mTellOne X adr9).id, (mTellOne X adr9).addr, (mTellOne X adr9).spare, true⟩ ?_ hid.1
    unfold mPutAddr at A7 ⊢
    split at A7
    ·rename_i hk2
     rw [if_pos hk2]
     show _ ∈ mPutL _ _
     unfold mPutL
     split
     ·rename_i h0
      have hb2 := mAddrAt_bd b.far (⟨(mTellOne X adr9).id, (mTellOne X adr9).addr, (mTellOne X adr9).spare, true⟩ : DAddr).id
      exact List.mem_set (by omega) _
     ·simp
    ·cases A7
   show 0 ≤ mAddrAt (mPutAddr b.far _).1 9
   omega
  ·-- the drop is heard
   have hDE : (mDropEnd X2 9).subs = X2.subs := by
    show goneIf _ X2.subs = X2.subs
    refine goneIf_none fun s hs => ?_
    have hs' : s ∈ a.subs := by rw [y2.2, x1] at hs; exact hs
    have h1 := (h.asubs s hs').1
    have e2 : (X2.own.getD (mAddrAt X2.own 9).toNat (ETy.zero .addr)).addr = 19 := by
     rw [hat2, Int.toNat_natCast, y1, set_get _ _ _ _ hlo2]; rfl
    simp only [beq_eq_false_iff_ne, e2]
    omega
   have hdr : mDropOwn X2 9 = (mDropEnd X2 9, (mOnOf X).map fun k => mDropLetter 9 (gSub X k)) := by
    unfold mDropOwn
    rw [if_pos ⟨hX2G.1, y2.1, by rw [hat2]; omega⟩]
    have e3 : mOnOf (mDropEnd X2 9) = mOnOf X := by unfold mOnOf; rw [hDE, y2.2]
    have e4 : ∀ k, gSub (mDropEnd X2 9) k = gSub X k := fun k => by unfold gSub; rw [hDE, y2.2]
    rw [e3]
    simp only [e4]
   rw [hdr]
   dsimp only
   obtain ⟨k0, rest, hkr⟩ : ∃ k0 rest, mOnOf X = k0 :: rest := by
    cases hm : mOnOf X with
    | nil => rw [hm] at hon; exact absurd rfl hon
    | cons k0 rest => exact ⟨k0, rest, rfl⟩
   have hk0 : k0 = (j : Int) := by rw [hkr] at hj; simpa [List.getD] using hj
   rw [hkr, List.map_cons, hF]
   have hg0 : gSub X k0 = gS X.subs j := by rw [hk0]; simp [gSub, gS]
   rw [hg0]
   generalize hYY : ({ b with far := (mPutAddr b.far ⟨(mTellOne X adr9).id, (mTellOne X adr9).addr, (mTellOne X adr9).spare, true⟩).1 } : DEnd) = Y at *
   have z1 : Y.subs = b.subs := by rw [← hYY]
   have hYf : 0 ≤ mAddrAt Y.far 9 := by
    rw [← hYY]
    have : ¬ mAddrAt (mPutAddr b.far ⟨(mTellOne X adr9).id, (mTellOne X adr9).addr, (mTellOne X adr9).spare, true⟩).1 9 < 0 := by
     rw [addrAt_neg]
     intro hall
     refine hall ⟨(mTellOne X adr9).id, (mTellOne X adr9).addr, (mTellOne X adr9).spare, true⟩ ?_ hid.1
     unfold mPutAddr at A7 ⊢
     split at A7
     ·rename_i hk2
      rw [if_pos hk2]
      show _ ∈ mPutL _ _
      unfold mPutL
      split
      ·rename_i h0
       have hb2 := mAddrAt_bd b.far (⟨(mTellOne X adr9).id, (mTellOne X adr9).addr, (mTellOne X adr9).spare, true⟩ : DAddr).id
       exact List.mem_set (by omega) _
      ·simp
     ·cases A7
    show 0 ≤ mAddrAt (mPutAddr b.far _).1 9
    omega
   have hlg : mLetterOk (mDropLetter 9 (gS X.subs j)) = true :=
    lnums hsn.1 hsn.2.1 hsn.2.2.1 num0 num0 num0 num0 hsn.2.2.2.2.2.1 rfl num0 num0 num0 num0 num0 num0 num0 ⟨by show (1 : Int) ≤ 10; decide, by show (10 : Int) ≤ 13; decide⟩ (by show 0 ≤ 20; decide)
   have hsY : mSignedOn Y (mDropLetter 9 (gS X.subs j)) = (i : Int) := by
    refine signedOn_is ?_ (by rw [z1]; exact hi3) (by rw [z1, hit, hsg]; rfl)
    have hr : mRoadOf (mDropLetter 9 (gS X.subs j)) = mRoadOf (mTellOne X adr9) := by rw [hro]; rfl
    rw [hr]
    unfold mSubAt at hiat ⊢
    rw [z1]; exact hiat
   have hgo : (∀ c ∈ (mHearGone Y (mDropLetter 9 (gS X.subs j))).1.far, c.id ≠ 9) ∧ 9 ∈ (mHearGone Y (mDropLetter 9 (gS X.subs j))).1.over := by
    unfold mHearGone
    rw [if_pos ⟨hYG.1, hlg, by rw [hsY]; omega, hYf⟩]
    exact ⟨dropAddr_no (G_E hYG).far 9, mPut_mem.2 (.inl rfl)⟩
   have h1 := hF_keep mHearGone (fun e => (∀ c ∈ e.far, c.id ≠ 9) ∧ 9 ∈ e.over) (fun e m hq => gone_no9 hq.1 hq.2) (rest.map fun k => mDropLetter 9 (gSub X k)) _ hgo
   have h2 := hF_keep mHearAddr (fun e => (∀ c ∈ e.far, c.id ≠ 9) ∧ 9 ∈ e.over) (fun e m hq => addr_no9 hq.1 hq.2) (mTellAddrs X) _ h1
   have h3 := addrAt_neg.2 h2.1
   have h4 := mAddrAt_bd (hF mHearAddr (mTellAddrs X) (hF mHearGone (rest.map fun k => mDropLetter 9 (gSub X k)) (mHearGone Y (mDropLetter 9 (gS X.subs j))).1)).far 9
   omega
 ·have hH : mHearAddr b (mTellOne X adr9) = (b, []) := by unfold mHearAddr; rw [if_neg hA]
  rw [hH]
  simp only [hF]
  obtain ⟨d1, d2⟩ := hdrop X hXG x2 (by rw [hat]; omega)
  refine ⟨by rw [hat]; omega, d1, d2, fun _ => ?_, fun hh => absurd rfl hh⟩
  rw [hat, Int.toNat_natCast, hgA]; rfl
end Go.Eng
