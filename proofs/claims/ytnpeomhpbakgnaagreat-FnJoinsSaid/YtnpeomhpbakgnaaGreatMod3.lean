/- Plain models of what the functions compute; part 3. No program in sight. -/
import Derived.Test.YtnpeomhpbakgnaaGreatMod2
set_option linter.unusedVariables false
set_option linter.unusedSimpArgs false
namespace Go.Eng

theorem BKeep_s {a b o : DEnd} (h : PI a b) (h1 : o.draw = b.draw) (h2 : ∀ s' ∈ o.subs, ∃ s ∈ b.subs, (s'.state = 3 ∨ s'.state = 4) ∧ s'.road = s.road ∧ s'.theirs = s.theirs ∧ s'.give = s.give ∧ s'.take = s.take) (h3 : ∀ x ∈ o.halfs, x ∈ b.halfs) : BKeep b o := by
 refine ⟨by omega, fun s' hs' => ?_, fun x hx => h.bhalfs x (h3 x hx), fun th g tk hr => .inl ?_⟩
 ·obtain ⟨s, hs, g1, g2, _⟩ := h2 s' hs'
  rw [g2]; exact ⟨g1, (h.bsubs s hs).2⟩
 ·rcases hr with ⟨s', hs', e1, e2, e3⟩ | ⟨x, hx, e⟩
  ·obtain ⟨s, hs, _, _, g1, g2, g3⟩ := h2 s' hs'
   exact .inl ⟨s, hs, by omega, by omega, by omega⟩
  ·exact .inr ⟨x, h3 x hx, e⟩
theorem BKeep_q {a b o : DEnd} (h : PI a b) (h1 : o.draw = b.draw) (h2 : o.subs = b.subs) (h3 : o.halfs = b.halfs) : BKeep b o :=
 BKeep_s h h1 (fun s' hs' => ⟨s', h2 ▸ hs', (h.bsubs s' (h2 ▸ hs')).1, rfl, rfl, rfl, rfl⟩) (fun x hx => h3 ▸ hx)
theorem PI_keep {a b o : DEnd} (h : PI a b) (hR : o.R) (hs : Same b o) (k : BKeep b o) (hq : o.draw = b.draw) : PI a o := by
 have hr : ∀ th g tk, Rec o th g tk → Rec b th g tk := fun th g tk hr => by
  rcases k.recs th g tk hr with h1 | h1
  ·exact h1
  ·omega
 exact PI_b h hR hs k (fun th g tk h1 h2 => absurd (hr th g tk h1) h2) (fun th g th' g' tk h1 h2 _ => h.recU th g th' g' tk (hr th g tk h1) (hr th' g' tk h2))
/-- What the second end answers is small, and it keeps what it holds. -/
def BOk (b : DEnd) (x : DLetter) (z : DEnd × List DLetter) : Prop := BKeep b z.1 ∧ z.1.draw = b.draw ∧ Small x z.2
theorem BOk_refl {a b : DEnd} (h : PI a b) (x : DLetter) : BOk b x (b, []) := ⟨BKeep_q h rfl rfl rfl, rfl, Small_nil _⟩
theorem b_back {a b : DEnd} (x : DLetter) (h : PI a b) : mHearJoinBack b x = (b, []) := by
 unfold mHearJoinBack
 rw [if_neg]
 rintro ⟨_, _, _, h4, h5, _⟩
 obtain ⟨j, hj, hl⟩ := subAt_nat h4
 rw [hj] at h5
 have hm : gS b.subs j ∈ b.subs := by simp only [gS, List.getD]; rw [List.getElem?_eq_getElem hl]; exact List.getElem_mem _
 have := (h.bsubs _ hm).1
 have h5 : (gS b.subs j).state = 1 := by simpa [gSub, gS] using h5
 omega
theorem b_ack {a b : DEnd} (x : DLetter) (h : PI a b) : mHearJoinAck b x = (b, []) := by
 unfold mHearJoinAck
 rw [if_neg]
 rintro ⟨_, _, h4, h5, _⟩
 obtain ⟨j, hj, hl⟩ := subAt_nat h4
 rw [hj] at h5
 have hm : gS b.subs j ∈ b.subs := by simp only [gS, List.getD]; rw [List.getElem?_eq_getElem hl]; exact List.getElem_mem _
 have := (h.bsubs _ hm).1
 have h5 : (gS b.subs j).state = 2 := by simpa [gSub, gS] using h5
 omega
theorem b_addr {a b : DEnd} (x : DLetter) (h : PI a b) : BOk b x (mHearAddr b x) := by
 unfold mHearAddr
 split
 ·exact ⟨BKeep_q h rfl rfl rfl, rfl, Small_one ⟨rfl, .inr (.inl rfl)⟩⟩
 ·exact BOk_refl h x
theorem b_echo {a b : DEnd} (x : DLetter) (h : PI a b) : BOk b x (mHearEcho b x) := by
 unfold mHearEcho
 split
 ·exact ⟨BKeep_q h rfl rfl rfl, rfl, Small_nil _⟩
 ·exact BOk_refl h x
theorem goneIf_b {a b : DEnd} (h : PI a b) (p : DSub → Bool) : ∀ s' ∈ goneIf p b.subs, ∃ s ∈ b.subs, (s'.state = 3 ∨ s'.state = 4) ∧ s'.road = s.road ∧ s'.theirs = s.theirs ∧ s'.give = s.give ∧ s'.take = s.take := fun s' hs' => by
 obtain ⟨s, hs, rfl⟩ := List.mem_map.1 hs'
 refine ⟨s, hs, ?_⟩
 split
 ·exact ⟨.inr rfl, rfl, rfl, rfl, rfl⟩
 ·exact ⟨(h.bsubs s hs).1, rfl, rfl, rfl, rfl⟩
theorem b_gone {a b : DEnd} (x : DLetter) (h : PI a b) : BOk b x (mHearGone b x) := by
 unfold mHearGone
 split
 ·exact ⟨BKeep_s h rfl (goneIf_b h _) (fun _ h => h), rfl, Small_nil _⟩
 ·exact BOk_refl h x
theorem b_data {a b : DEnd} (x : DLetter) (h : PI a b) : BOk b x (mHearData b x) := by
 unfold mHearData
 repeat' split
 ·exact BOk_refl h x
 ·exact ⟨BKeep_q h rfl rfl rfl, rfl, Small_one ⟨rfl, .inr (.inr (.inl rfl))⟩⟩
 ·exact BOk_refl h x
theorem b_came {a b : DEnd} (x : DLetter) (h : PI a b) : BOk b x (mHearCame b x) := by
 unfold mHearCame
 split
 ·exact ⟨BKeep_q h rfl rfl rfl, rfl, Small_nil _⟩
 ·exact BOk_refl h x
theorem goneAt_b {a b : DEnd} (h : PI a b) {k : Nat} (hk : k < b.subs.length) : ∀ s' ∈ b.subs.set k { b.subs.getD k (ETy.zero .sub) with state := 4 }, ∃ s ∈ b.subs, (s'.state = 3 ∨ s'.state = 4) ∧ s'.road = s.road ∧ s'.theirs = s.theirs ∧ s'.give = s.give ∧ s'.take = s.take := fun s' hs' => by
 have hm : gS b.subs k ∈ b.subs := by simp only [gS, List.getD]; rw [List.getElem?_eq_getElem hk]; exact List.getElem_mem _
 rcases List.mem_or_eq_of_mem_set hs' with h1 | h1
 ·exact ⟨s', h1, (h.bsubs s' h1).1, rfl, rfl, rfl, rfl⟩
 ·subst h1; exact ⟨_, hm, .inr rfl, rfl, rfl, rfl, rfl⟩
theorem b_reset {a b : DEnd} (x : DLetter) (h : PI a b) : BOk b x (mHearReset b x) := by
 unfold mHearReset
 split
 ·rename_i hc
  obtain ⟨j, hj, hl, _⟩ := signed_at hc.2.2
  refine ⟨BKeep_s h rfl ?_ (fun _ h => h), rfl, Small_nil _⟩
  have := goneAt_b h hl
  rw [hj]
  simpa [setSub, gSub] using this
 ·exact BOk_refl h x
theorem b_done {a b : DEnd} (x : DLetter) (h : PI a b) (hp : x.port ≤ 3) : BOk b x (mHearJoinDone b x) := by
 unfold mHearJoinDone
 split
 ·split
  ·rename_i hd
   have he := G_E h.bR.1
   obtain ⟨k, hk, hl, g1, _⟩ := half_get he.halfs hd.1
   have hm : gH b.halfs k ∈ b.halfs := by simp only [gH, List.getD]; rw [List.getElem?_eq_getElem hl]; exact List.getElem_mem _
   have hgh : gHalf b (mHalfAt b.halfs (mRoadOf x)) = gH b.halfs k := by rw [hk]; simp [gHalf, gH]
   have hold : ∀ s' ∈ mGoneAt b.subs (mSubAt b (mRoadOf x)), ∃ s ∈ b.subs, (s'.state = 3 ∨ s'.state = 4) ∧ s'.road = s.road ∧ s'.theirs = s.theirs ∧ s'.give = s.give ∧ s'.take = s.take := by
    unfold mGoneAt
    split
    ·rename_i h0
     obtain ⟨j, hj, hjl⟩ := subAt_nat h0
     rw [hj, Int.toNat_natCast]; exact goneAt_b h hjl
    ·intro s' hs'; exact ⟨s', hs', (h.bsubs s' hs').1, rfl, rfl, rfl, rfl⟩
   refine ⟨⟨Int.le_refl _, fun s' hs' => ?_, fun y hy => h.bhalfs y ((dropHalf_sub _ _).subset hy), fun th g tk hr => .inl ?_⟩, rfl, Small_one ⟨rfl, .inl rfl⟩⟩
   ·rcases List.mem_append.1 hs' with h1 | h1
    ·obtain ⟨s, hs, g1, g2, _⟩ := hold s' h1
     rw [g2]; exact ⟨g1, (h.bsubs s hs).2⟩
    ·rw [List.mem_singleton.1 h1]; exact ⟨.inl rfl, hp⟩
   ·rcases hr with ⟨s', hs', e1, e2, e3⟩ | ⟨y, hy, e⟩
    ·rcases List.mem_append.1 hs' with h1 | h1
     ·obtain ⟨s, hs, _, _, f1, f2, f3⟩ := hold s' h1
      exact .inl ⟨s, hs, by omega, by omega, by omega⟩
     ·have h1 := List.mem_singleton.1 h1
      subst h1
      rw [hgh] at e1 e2 e3
      exact .inr ⟨_, hm, e1, e2, e3⟩
    ·exact .inr ⟨y, (dropHalf_sub _ _).subset hy, e⟩
  ·split
   ·exact ⟨BKeep_q h rfl rfl rfl, rfl, Small_one ⟨rfl, .inl rfl⟩⟩
   ·exact BOk_refl h x
 ·exact BOk_refl h x
theorem putHalf_mem {l : List DHalf} {x y : DHalf} (h : y ∈ (mPutHalf l x).1) : y = x ∨ y ∈ l := by
 unfold mPutHalf at h
 split at h
 ·have h : y ∈ mPutHalfL l x := h
  unfold mPutHalfL at h
  split at h
  ·rcases List.mem_or_eq_of_mem_set h with h1 | h1
   ·exact .inr h1
   ·exact .inl h1
  ·rcases List.mem_append.1 h with h1 | h1
   ·exact .inr h1
   ·exact .inl (List.mem_singleton.1 h1)
 ·exact .inr h
theorem b_join {a b : DEnd} (x : DLetter) (h : PI a b) (hl : LA a b x) (h4 : x.kind = 4) : PI a (mHearJoin b x).1 ∧ (∀ m ∈ (mHearJoin b x).2, LB a (mHearJoin b x).1 m) ∧ (∀ m, LB a b m → LB a (mHearJoin b x).1 m) := by
 have hR : (mHearJoin b x).1.R := R_of h.bR (mHearJoin_G x h.bR.1) (mHearJoin_same b x)
 have hS := mHearJoin_same b x
 revert hR hS
 unfold mHearJoin
 split
 ·rename_i hc
  intro hR hS
  have he := G_E h.bR.1
  obtain ⟨s0, hs0, n1, n2⟩ := hl.2 h4
  have hnew : x.nonce < a.draw ∧ ∀ s ∈ a.subs, x.nonce = s.mine → x.give = s.take := by
   refine ⟨by have := (h.asubs s0 hs0).2.2; omega, fun s hs hn => ?_⟩
   rw [n2]; exact h.uniq s0 hs0 s hs (by omega)
  by_cases hre : 0 ≤ mHalfAt b.halfs (mRoadOf x) ∧ (gHalf b (mHalfAt b.halfs (mRoadOf x))).theirs = x.nonce ∧ (gHalf b (mHalfAt b.halfs (mRoadOf x))).give = x.give
  ·obtain ⟨k, hk, hkl, g1, _⟩ := half_get he.halfs hre.1
   have hm : gH b.halfs k ∈ b.halfs := by simp only [gH, List.getD]; rw [List.getElem?_eq_getElem hkl]; exact List.getElem_mem _
   have hgh : gHalf b (mHalfAt b.halfs (mRoadOf x)) = gH b.halfs k := by rw [hk]; simp [gHalf, gH]
   have hjh : mJoinHalf b x = { gH b.halfs k with til := b.now + 6 } := by unfold mJoinHalf; rw [if_pos hre, hgh]
   have hjd : mJoinDraw b x = b.draw := by unfold mJoinDraw; rw [if_pos hre]
   rw [hjh, hjd] at hR hS ⊢
   have hrec : ∀ th g tk, Rec { b with bucket := (mTakeOne b.bucket).1, draw := b.draw, halfs := (mPutHalf b.halfs { gH b.halfs k with til := b.now + 6 }).1 } th g tk → Rec b th g tk := fun th g tk hr => by
    rcases hr with hr | ⟨y, hy, e⟩
    ·exact .inl hr
    ·rcases putHalf_mem hy with rfl | hy
     ·exact .inr ⟨_, hm, e⟩
     ·exact .inr ⟨y, hy, e⟩
   have hk2 : BKeep b { b with bucket := (mTakeOne b.bucket).1, draw := b.draw, halfs := (mPutHalf b.halfs { gH b.halfs k with til := b.now + 6 }).1 } := by
    refine ⟨Int.le_refl _, h.bsubs, fun y hy => ?_, fun th g tk hr => .inl (hrec th g tk hr)⟩
    rcases putHalf_mem hy with rfl | hy
    ·exact h.bhalfs (gH b.halfs k) hm
    ·exact h.bhalfs y hy
   have hrk : Rec b (gH b.halfs k).theirs (gH b.halfs k).give (gH b.halfs k).take := .inr ⟨_, hm, rfl, rfl, rfl⟩
   refine ⟨PI_keep h hR hS hk2 rfl, fun m hmm => ?_, fun m hmm => LB_b hk2 hmm⟩
   have hmm := List.mem_singleton.1 hmm
   subst hmm
   refine ⟨hl.1, by simp [mBetween, ltr], fun _ => ⟨(h.recT _ _ _ hrk).2, fun th g tk hr ht => ?_⟩⟩
   have ht : tk = (gH b.halfs k).take := ht
   subst ht
   exact h.recU _ _ _ _ _ (hrec _ _ _ hr) hrk
  ·have hjh : mJoinHalf b x = ⟨mRoadOf x, x.nonce, b.draw, x.give, b.draw + 2, b.now + 6⟩ := by unfold mJoinHalf; rw [if_neg hre]
   have hjd : mJoinDraw b x = b.draw + 4 := by unfold mJoinDraw; rw [if_neg hre]
   rw [hjh, hjd] at hR hS ⊢
   have hrec : ∀ th g tk, Rec { b with bucket := (mTakeOne b.bucket).1, draw := b.draw + 4, halfs := (mPutHalf b.halfs ⟨mRoadOf x, x.nonce, b.draw, x.give, b.draw + 2, b.now + 6⟩).1 } th g tk → Rec b th g tk ∨ (th = x.nonce ∧ g = x.give ∧ tk = b.draw + 2) := fun th g tk hr => by
    rcases hr with hr | ⟨y, hy, e1, e2, e3⟩
    ·exact .inl (.inl hr)
    ·rcases putHalf_mem hy with rfl | hy
     ·exact .inr ⟨e1.symm, e2.symm, e3.symm⟩
     ·exact .inl (.inr ⟨y, hy, e1, e2, e3⟩)
   have hk2 : BKeep b { b with bucket := (mTakeOne b.bucket).1, draw := b.draw + 4, halfs := (mPutHalf b.halfs ⟨mRoadOf x, x.nonce, b.draw, x.give, b.draw + 2, b.now + 6⟩).1 } := by
    refine ⟨by simp only []; omega, h.bsubs, fun y hy => ?_, fun th g tk hr => ?_⟩
    ·rcases putHalf_mem hy with rfl | hy
     ·exact hl.1
     ·exact h.bhalfs y hy
    ·rcases hrec th g tk hr with h1 | h1
     ·exact .inl h1
     ·exact .inr (by simp only []; omega)
   refine ⟨PI_b h hR hS hk2 (fun th g tk h1 h2 => ?_) (fun th g th' g' tk h1 h2 h3 => ?_), fun m hmm => ?_, fun m hmm => LB_b hk2 hmm⟩
   ·rcases hrec th g tk h1 with h3 | ⟨rfl, rfl, rfl⟩
    ·exact absurd h3 h2
    ·exact hnew
   ·rcases hrec th g tk h1 with g1 | ⟨rfl, rfl, rfl⟩
    ·have := (h.recT _ _ _ g1).2; omega
    ·rcases hrec th' g' _ h2 with g2 | ⟨rfl, rfl, _⟩
     ·have := (h.recT _ _ _ g2).2; omega
     ·rfl
   ·have hmm := List.mem_singleton.1 hmm
    subst hmm
    refine ⟨hl.1, by simp [mBetween, ltr], fun _ => ⟨?_, fun th g tk hr ht => ?_⟩⟩
    ·show b.draw + 2 < b.draw + 4; omega
    ·have ht : tk = b.draw + 2 := ht
     rcases hrec th g tk hr with h1 | ⟨rfl, _⟩
     ·have := (h.recT _ _ _ h1).2; omega
     ·rfl
 ·intro _ _
  exact ⟨h, fun m hm => by simp at hm, fun m hm => hm⟩
theorem hearB {a b : DEnd} (x : DLetter) (h : PI a b) (hl : LA a b x) : PI a (mHear b x).1 ∧ (∀ m ∈ (mHear b x).2, LB a (mHear b x).1 m) ∧ (∀ m, LB a b m → LB a (mHear b x).1 m) := by
 have P := @iteP (DEnd × List DLetter) (fun z => PI a z.1 ∧ (∀ m ∈ z.2, LB a z.1 m) ∧ (∀ m, LB a b m → LB a z.1 m))
 have h0 : PI a b ∧ (∀ m ∈ ([] : List DLetter), LB a b m) ∧ (∀ m, LB a b m → LB a b m) := ⟨h, fun m hm => by simp at hm, fun m hm => hm⟩
 have q : ∀ {z : DEnd × List DLetter}, z.1.G → Same b z.1 → BOk b x z → PI a z.1 ∧ (∀ m ∈ z.2, LB a z.1 m) ∧ (∀ m, LB a b m → LB a z.1 m) :=
  fun hg hs hk => ⟨PI_keep h (R_of h.bR hg hs) hs hk.1 hk.2.1, Small_LB hk.2.2 hl.1, fun m hm => LB_b hk.1 hm⟩
 have hG := h.bR.1
 unfold mHear
 by_cases h4 : x.kind = 4
 ·rw [if_neg (by omega : ¬ x.kind = 1), if_neg (by omega : ¬ x.kind = 2), if_pos h4]
  exact P (b_join x h hl h4) h0
 ·rw [if_neg h4]
  refine P (P ?_ (P ?_ (P ?_ (P (q (mHearJoinDone_G x hG) (mHearJoinDone_same b x) (b_done x h hl.1)) (P ?_ (P (q (mHearAddr_G x hG) (mHearAddr_same b x) (b_addr x h)) (P (q (mHearEcho_G x hG) (mHearEcho_same b x) (b_echo x h)) (P (q (mHearGone_G x hG) (mHearGone_same b x) (b_gone x h)) (P (q (mHearData_G x hG) (mHearData_same b x) (b_data x h)) (P (q (mHearCame_G x hG) (mHearCame_same b x) (b_came x h)) (P (q (mHearReset_G x hG) (mHearReset_same b x) (b_reset x h)) h0))))))))))) h0
  ·rw [mHearHello_2 x h.bR.2]; exact h0
  ·rw [mHearBack_2 x h.bR.2]; exact h0
  ·rw [b_back x h]; exact h0
  ·rw [b_ack x h]; exact h0
/-! what each end does -/
theorem road_in {e : DEnd} {k : Int} (h0 : 0 ≤ k) (hk : k < e.subs.length) : gSub e k ∈ e.subs := by
 have : k.toNat < e.subs.length := by omega
 simp only [gSub, List.getD]
 rw [List.getElem?_eq_getElem this]
 exact List.getElem_mem _
/-- Letters that only tell: a small port, no asking. -/
def Tells (ls : List DLetter) : Prop := ∀ m ∈ ls, m.port ≤ 3 ∧ m.kind ≠ 4 ∧ m.kind ≠ 5
theorem push_keep (e : DEnd) : (mPush e).1.subs = e.subs ∧ (mPush e).1.halfs = e.halfs ∧ (mPush e).1.draw = e.draw ∧ (mPush e).1.done = e.done ∧ (mPush e).1.own = e.own := by
 unfold mPush; split <;> exact ⟨rfl, rfl, rfl, rfl, rfl⟩
theorem pushN_keep (e : DEnd) : ∀ n, (pushN n e).1.subs = e.subs ∧ (pushN n e).1.halfs = e.halfs ∧ (pushN n e).1.draw = e.draw ∧ (pushN n e).1.done = e.done ∧ (pushN n e).1.own = e.own
 | 0 => ⟨rfl, rfl, rfl, rfl, rfl⟩
 | n + 1 => by
  have h1 := pushN_keep e n
  have h2 := push_keep (pushN n e).1
  exact ⟨h2.1.trans h1.1, h2.2.1.trans h1.2.1, h2.2.2.1.trans h1.2.2.1, h2.2.2.2.1.trans h1.2.2.2.1, h2.2.2.2.2.trans h1.2.2.2.2⟩
theorem push_tells {e : DEnd} (h : ∀ s ∈ e.subs, s.road.port ≤ 3) : Tells (mPush e).2 := by
 unfold mPush
 split
 ·rename_i hc
  have hb := mNextSub_bd e
  intro m hm
  have hm := List.mem_singleton.1 hm
  subst hm
  exact ⟨h _ (road_in hc.2 (by omega)), by simp [mBetween, ltr], by simp [mBetween, ltr]⟩
 ·intro m hm; simp at hm
theorem pushN_tells {e : DEnd} (h : ∀ s ∈ e.subs, s.road.port ≤ 3) : ∀ n, Tells (pushN n e).2
 | 0 => fun m hm => by simp [pushN] at hm
 | n + 1 => fun m hm => by
  rcases List.mem_append.1 hm with h1 | h1
  ·exact pushN_tells h n m h1
  ·exact push_tells (by rw [(pushN_keep e n).1]; exact h) m h1
theorem tell_tells {e : DEnd} (h : ∀ s ∈ e.subs, s.road.port ≤ 3) : Tells (mTellAddrs e) := by
 unfold mTellAddrs
 split
 ·rename_i hc
  have hmem : (mOnOf e).getD 0 (ETy.zero .int) ∈ mOnOf e := by
   rw [List.getD, List.getElem?_eq_getElem (by omega)]; exact List.getElem_mem _
  have hb := mOnOf_mem e _ hmem
  have hp := h _ (road_in hb.1 hb.2)
  have gen : ∀ (l : List DAddr) (i : Nat), Tells (colL (fTell e) l i) := by
   intro l
   induction l with
   | nil => intro i m hm; simp [colL] at hm
   | cons x l ih =>
    intro i m hm
    by_cases ht : x.told = true
    ·rw [colL_none (f := fTell e) (by simp [fTell, ht])] at hm; exact ih _ m hm
    ·rw [colL_some (f := fTell e) (y := mTellOne e x) (by simp [fTell, ht])] at hm
     rcases List.mem_cons.1 hm with rfl | hm
     ·exact ⟨hp, by simp [mTellOne, mBetween], by simp [mTellOne, mBetween]⟩
     ·exact ih _ m hm
  exact gen _ _
 ·intro m hm; simp at hm
theorem Tells_LA {a b : DEnd} {ls : List DLetter} (h : Tells ls) : ∀ m ∈ ls, LA a b m := fun m hm => ⟨(h m hm).1, fun h4 => absurd h4 (h m hm).2.1⟩
theorem Tells_LB {a b : DEnd} {ls : List DLetter} (h : Tells ls) : ∀ m ∈ ls, LB a b m := fun m hm => ⟨(h m hm).1, (h m hm).2.1, fun h4 => absurd h4 (h m hm).2.2⟩
theorem write_keep (e : DEnd) (t : List UInt8) : (mWriteAll e t).1.subs = e.subs ∧ (mWriteAll e t).1.halfs = e.halfs ∧ (mWriteAll e t).1.draw = e.draw ∧ (mWriteAll e t).1.done = e.done ∧ (mWriteAll e t).1.own = e.own := by
 have h1 := pushN_keep (mWrite e t).1 3
 have h2 : (mWrite e t).1.subs = e.subs ∧ (mWrite e t).1.halfs = e.halfs ∧ (mWrite e t).1.draw = e.draw ∧ (mWrite e t).1.done = e.done ∧ (mWrite e t).1.own = e.own := by
  unfold mWrite; split <;> exact ⟨rfl, rfl, rfl, rfl, rfl⟩
 exact ⟨h1.1.trans h2.1, h1.2.1.trans h2.2.1, h1.2.2.1.trans h2.2.2.1, h1.2.2.2.1.trans h2.2.2.2.1, h1.2.2.2.2.trans h2.2.2.2.2⟩
theorem write_tells {e : DEnd} (t : List UInt8) (h : ∀ s ∈ e.subs, s.road.port ≤ 3) : Tells (mWriteAll e t).2 := by
 refine pushN_tells ?_ 3
 have : (mWrite e t).1.subs = e.subs := by unfold mWrite; split <;> rfl
 rw [this]; exact h
theorem read_keep (e : DEnd) (n : Int) : (mRead e n).1.subs = e.subs ∧ (mRead e n).1.halfs = e.halfs ∧ (mRead e n).1.draw = e.draw ∧ (mRead e n).1.done = e.done ∧ (mRead e n).1.own = e.own := by
 unfold mRead; split <;> exact ⟨rfl, rfl, rfl, rfl, rfl⟩
theorem addOwn_keep (e : DEnd) (a : DAddr) : (mAddOwn e a).1.subs = e.subs ∧ (mAddOwn e a).1.halfs = e.halfs ∧ (mAddOwn e a).1.draw = e.draw ∧ (mAddOwn e a).1.done = e.done := by
 unfold mAddOwn; split <;> exact ⟨rfl, rfl, rfl, rfl⟩
theorem addOwn_own {e : DEnd} {a x : DAddr} (h : x ∈ (mAddOwn e a).1.own) : x ∈ e.own ∨ (x.addr = a.addr ∧ x.id = a.id) := by
 unfold mAddOwn at h
 split at h
 ·rcases putAddr_mem h with rfl | h
  ·exact .inr ⟨rfl, rfl⟩
  ·exact .inl h
 ·exact .inl h
theorem tick1_keep (e : DEnd) : (mTick1 e).draw = e.draw ∧ (mTick1 e).done = e.done ∧ (mTick1 e).own = e.own ∧ (e.halfs = [] → (mTick1 e).halfs = []) ∧ (∀ h ∈ (mTick1 e).halfs, h ∈ e.halfs) ∧ ((mTick1 e).subs = e.subs.map tickG ∨ (mTick1 e).subs = e.subs) := by
 have hs : ∀ h ∈ (mTick0 e).halfs, h ∈ e.halfs := fun h hh => (younger_sub _ _).subset hh
 have hn : e.halfs = [] → (mTick0 e).halfs = [] := fun h => by simp only [mTick0, h]; rfl
 unfold mTick1
 split
 ·exact ⟨rfl, rfl, rfl, hn, hs, .inl rfl⟩
 ·exact ⟨rfl, rfl, rfl, hn, hs, .inr rfl⟩
theorem tickG_keep (s : DSub) : (tickG s).road = s.road ∧ (tickG s).mine = s.mine ∧ (tickG s).take = s.take ∧ (tickG s).give = s.give ∧ (tickG s).theirs = s.theirs ∧ (((tickG s).state = 2 ∨ (tickG s).state = 3) → (s.state = 2 ∨ s.state = 3)) := by
 unfold tickG
 repeat' split
 ·exact ⟨rfl, rfl, rfl, rfl, rfl, fun h => h⟩
 ·exact ⟨rfl, rfl, rfl, rfl, rfl, fun h => by rcases h with h | h <;> simp at h⟩
 ·exact ⟨rfl, rfl, rfl, rfl, rfl, fun h => h⟩
theorem tick_akeep (e : DEnd) : AKeep e (mTick e).1 := by
 unfold mTick
 split
 ·obtain ⟨h1, h2, h3, h4, h5, h6⟩ := tick1_keep e
  obtain ⟨g1, g2, g3, g4, g5⟩ := pushN_keep (mTick1 e) 3
  refine ⟨g3.trans h1, g4.trans h2, fun h => g2.trans (h4 h), fun x hx => ⟨x, ?_, rfl, rfl⟩, ?_⟩
  ·have hx : x ∈ (pushN 3 (mTick1 e)).1.own := hx
   rw [g5, h3] at hx; exact hx
  ·show SubRel e.subs (pushN 3 (mTick1 e)).1.subs
   rw [g1]
   rcases h6 with h6 | h6
   ·rw [h6]
    refine SubRel_map _ _ fun s _ => ?_
    have := tickG_keep s
    exact ⟨this.1, this.2.1, this.2.2.1, fun h => ⟨this.2.2.2.2.2 h, this.2.2.2.1⟩⟩
   ·rw [h6]; exact SubRel.refl _
 ·exact AKeep.refl e
theorem tickL_mem {e : DEnd} {m : DLetter} (h : m ∈ mTickL e) : ∃ s ∈ e.subs, (s.state = 1 ∧ m = mJoinLetter e s) ∨ (s.state = 2 ∧ m = mDoneLetter e s) := by
 have gen : ∀ (l : List DSub) (i : Nat), m ∈ colL (tickF e) l i → ∃ s ∈ l, (s.state = 1 ∧ m = mJoinLetter e s) ∨ (s.state = 2 ∧ m = mDoneLetter e s) := by
  intro l
  induction l with
  | nil => intro i h; simp [colL] at h
  | cons s l ih =>
   intro i h
   rw [colL] at h
   split at h
   ·rename_i y hy
    rcases List.mem_cons.1 h with h | h
    ·subst h
     refine ⟨s, by simp, ?_⟩
     unfold tickF at hy
     repeat' split at hy
     all_goals first | cases hy; done | skip
     ·rename_i h1; cases hy; exact .inl ⟨h1, rfl⟩
     ·rename_i h0 _ _ h1; cases hy
      right
      refine ⟨?_, rfl⟩
      by_cases h2 : s.state = 2
      ·exact h2
      ·exact absurd ⟨h1, h2⟩ h0
    ·obtain ⟨s', hs', h'⟩ := ih _ h
     exact ⟨s', by simp [hs'], h'⟩
   ·obtain ⟨s', hs', h'⟩ := ih _ h
    exact ⟨s', by simp [hs'], h'⟩
 unfold mTickL at h
 split at h
 ·exact gen _ _ h
 ·simp at h
theorem tick1_ports {e : DEnd} (h : ∀ s ∈ e.subs, s.road.port ≤ 3) : ∀ s ∈ (mTick1 e).subs, s.road.port ≤ 3 := by
 rcases (tick1_keep e).2.2.2.2.2 with h6 | h6
 ·rw [h6]
  intro s hs
  obtain ⟨s', hs', rfl⟩ := List.mem_map.1 hs
  rw [(tickG_keep s').1]; exact h s' hs'
 ·rw [h6]; exact h
theorem tick_letters {e : DEnd} {m : DLetter} (h : m ∈ (mTick e).2) (hp : ∀ s ∈ e.subs, s.road.port ≤ 3) : m ∈ mTickL e ∨ (m.port ≤ 3 ∧ m.kind ≠ 4 ∧ m.kind ≠ 5) := by
 unfold mTick at h
 split at h
 ·rcases List.mem_append.1 h with h | h
  ·rcases List.mem_append.1 h with h | h
   ·exact .inl h
   ·exact .inr (tell_tells (tick1_ports hp) m h)
  ·exact .inr (pushN_tells (tick1_ports hp) 3 m h)
 ·simp at h
theorem join_PI {a b : DEnd} (h : PI a b) {r : DRoad} (hr : r.port ≤ 3) (p : Bool) : PI (mJoin a r p).1 b ∧ (∀ m ∈ (mJoin a r p).2, LA (mJoin a r p).1 b m) ∧ (∀ m, LA a b m → LA (mJoin a r p).1 b m) := by
 have hR : (mJoin a r p).1.R := R_of h.aR (mJoin_G r p h.aR.1) (mJoin_same a r p)
 revert hR
 unfold mJoin
 split
 ·rename_i hc
  intro hR
  obtain ⟨_, _, _, _, c5, _, _, c8⟩ := hc
  have hd := room_bd c8
  have hown : r.own ≤ 14 := by
   obtain ⟨x, hx, hxa⟩ := owns_iff.1 c5
   have := (h.own x hx).1; omega
  have hsub : ∀ s' ∈ a.subs ++ [(⟨r, 1, p, a.draw, 0, 0, a.draw + 2, 0⟩ : DSub)], s' ∈ a.subs ∨ s' = ⟨r, 1, p, a.draw, 0, 0, a.draw + 2, 0⟩ := fun s' hs' => by
   rcases List.mem_append.1 hs' with h1 | h1
   ·exact .inl h1
   ·exact .inr (List.mem_singleton.1 h1)
  refine ⟨⟨hR, h.bR, h.aside, h.bside, h.many, h.keys, h.done, h.own, fun s' hs' => ?_, h.ahalfs, fun s' hs' t' ht' hm => ?_, h.bsubs, h.bhalfs, fun th g tk hrr => ?_, fun th g tk hrr s' hs' ht => ?_, fun s' hs' h23 => ?_, h.recU⟩, fun m hm => ?_, fun m hm => ⟨hm.1, fun h4 => ?_⟩⟩
  ·rcases hsub s' hs' with h1 | rfl
   ·have := h.asubs s' h1; exact ⟨this.1, this.2.1, by simp only []; omega⟩
   ·exact ⟨hown, hr, by simp only []; omega⟩
  ·rcases hsub s' hs' with h1 | rfl
   ·rcases hsub t' ht' with h2 | rfl
    ·exact h.uniq s' h1 t' h2 hm
    ·have := (h.asubs s' h1).2.2; have hm : s'.mine = a.draw := hm; omega
   ·rcases hsub t' ht' with h2 | rfl
    ·have := (h.asubs t' h2).2.2; have hm : a.draw = t'.mine := hm; omega
    ·rfl
  ·have := h.recT th g tk hrr; exact ⟨by simp only []; omega, this.2⟩
  ·rcases hsub s' hs' with h1 | rfl
   ·exact h.recG th g tk hrr s' h1 ht
   ·have := (h.recT th g tk hrr).1; have ht : th = a.draw := ht; omega
  ·rcases hsub s' hs' with h1 | rfl
   ·exact h.link s' h1 h23
   ·rcases h23 with h2 | h2 <;> simp at h2
  ·have hm := List.mem_singleton.1 hm
   subst hm
   exact ⟨hr, fun _ => ⟨_, List.mem_append_right _ (List.mem_singleton.2 rfl), rfl, rfl⟩⟩
  ·obtain ⟨s, hs, g⟩ := hm.2 h4
   exact ⟨s, List.mem_append_left _ hs, g⟩
 ·intro _
  exact ⟨h, fun m hm => by simp at hm, fun m hm => hm⟩
theorem mgL_PI (e : DEnd) {b : DEnd} : ∀ (l : List DRoad) (o : DEnd) (acc : List DLetter), PI o b → (∀ r ∈ l, r.port ≤ 3) → (∀ m ∈ acc, LA o b m) → PI (mgL e l o acc).1 b ∧ ∀ m ∈ (mgL e l o acc).2, LA (mgL e l o acc).1 b m
 | [], _, _, h, _, hm => ⟨h, hm⟩
 | r :: l, o, acc, h, hl, hm => by
  rw [mgL]
  obtain ⟨h1, h2, h3⟩ := join_PI h (hl r (by simp)) (mSpare e r.far)
  refine mgL_PI e l _ _ h1 (fun q hq => hl q (by simp [hq])) fun m hmm => ?_
  rcases List.mem_append.1 hmm with h4 | h4
  ·exact h3 m (hm m h4)
  ·exact h2 m h4
theorem many4 {p : DPolicy} (hp : mPolicyOk p = true) (h : p.many ≤ 4) : mMany p ≤ 4 := by
 have := (policy_many hp).1
 split at this <;> omega
theorem manage_PI {a b : DEnd} (h : PI a b) : PI (mManage a).1 b ∧ ∀ m ∈ (mManage a).2, LA (mManage a).1 b m := by
 unfold mManage
 split
 ·refine mgL_PI a _ a [] h (fun r hr => ?_) (fun m hm => by simp at hm)
  have he := G_E h.aR.1
  unfold mMissL at hr
  rw [missing_iff ⟨Nat.le_trans (mWanted_len _ _ _) (by decide), haveOf_len he⟩] at hr
  have h1 := (wanted_mem hr.1).2.2
  have h2 := many4 he.pol h.many
  omega
 ·exact ⟨h, fun m hm => by simp at hm⟩
theorem actAddr_bd {x : DEnd} (hs : x.side = 1 ∨ x.side = 2) (c : DCur) : (10 * x.side + 2 ≤ (actAddr x c).addr ∧ (actAddr x c).addr ≤ 10 * x.side + 4) ∧ 1 ≤ (actAddr x c).id ∧ (actAddr x c).id ≤ 3 := by
 have h1 := mBelow_bd (c := c) (n := 3) (by decide)
 have h2 := mBelow_bd (c := mBelowC c 3) (n := 3) (by decide)
 simp only [actAddr]
 rw [w64_id (n := 1 + mBelow c 3) (by omega) (by omega), w64_id (n := 10 * x.side) (by omega) (by omega), w64_id (n := 10 * x.side + 2) (by omega) (by omega), w64_id (by omega) (by omega)]
 omega
theorem actA_PI (k : Int) (c : DCur) (a b : DEnd) (h : PI a b) : PI (actE k a c).1 b ∧ ∀ l ∈ (actE k a c).2, LA (actE k a c).1 b l := by
 have hR := actE_R k c h.aR
 have hp : ∀ s ∈ a.subs, s.road.port ≤ 3 := fun s hs => (h.asubs s hs).2.1
 revert hR
 unfold actE
 repeat' split
 ·intro hR
  obtain ⟨g1, g2, g3, g4, g5⟩ := write_keep a (actText c)
  exact ⟨PI_a h hR (mWriteAll_same _ _) (AKeep_q g3 g4 g2 g5 g1), Tells_LA (write_tells _ hp)⟩
 ·intro hR
  obtain ⟨g1, g2, g3, g4⟩ := addOwn_keep a (actAddr a c)
  have hs := mAddOwn_same a (actAddr a c)
  have hb := actAddr_bd (.inl h.aside) c
  have hA := h.aside
  refine ⟨⟨hR, h.bR, hs.1.trans h.aside, h.bside, by rw [hs.2.2.2.2]; exact h.many, ⟨hs.2.2.2.1.trans h.keys.1, h.keys.2.trans hs.2.2.1.symm⟩, g4.trans h.done, fun x hx => ?_, ?_, g2.trans h.ahalfs, ?_, h.bsubs, h.bhalfs, ?_, ?_, ?_, h.recU⟩, fun m hm => by simp at hm⟩
  ·rcases addOwn_own hx with h1 | h1
   ·exact h.own x h1
   ·omega
  ·rw [g1, g3]; exact h.asubs
  ·rw [g1]; exact h.uniq
  ·rw [g3]; exact h.recT
  ·rw [g1]; exact h.recG
  ·rw [g1]; exact h.link
 ·intro hR
  have hk := tick_akeep a
  refine ⟨PI_a h hR (mTick_same a) hk, fun m hm => ?_⟩
  rcases tick_letters hm hp with h1 | h1
  ·refine LA_a hk ?_
   obtain ⟨s, hs, ⟨_, rfl⟩ | ⟨_, rfl⟩⟩ := tickL_mem h1
   ·exact ⟨hp s hs, fun _ => ⟨s, hs, rfl, rfl⟩⟩
   ·exact ⟨hp s hs, fun h4 => by simp [mDoneLetter, mBetween, ltr] at h4⟩
  ·exact ⟨h1.1, fun h4 => absurd h4 h1.2.1⟩
 ·intro _; exact manage_PI h
 ·intro hR
  obtain ⟨g1, g2, g3, g4, g5⟩ := read_keep a (mBelow c 30)
  exact ⟨PI_a h hR (mRead_same _ _) (AKeep_q g3 g4 g2 g5 g1), fun m hm => by simp at hm⟩
theorem actB_PI (k : Int) (c : DCur) (a b : DEnd) (h : PI a b) : PI a (actE k b c).1 ∧ ∀ l ∈ (actE k b c).2, LB a (actE k b c).1 l := by
 have hR := actE_R k c h.bR
 have hp : ∀ s ∈ b.subs, s.road.port ≤ 3 := fun s hs => (h.bsubs s hs).2
 revert hR
 unfold actE
 repeat' split
 ·intro hR
  obtain ⟨g1, g2, g3, g4, g5⟩ := write_keep b (actText c)
  exact ⟨PI_keep h hR (mWriteAll_same _ _) (BKeep_q h g3 g1 g2) g3, Tells_LB (write_tells _ hp)⟩
 ·intro hR
  obtain ⟨g1, g2, g3, g4⟩ := addOwn_keep b (actAddr b c)
  exact ⟨PI_keep h hR (mAddOwn_same _ _) (BKeep_q h g3 g1 g2) g3, fun m hm => by simp at hm⟩
 ·intro hR
  have hk : BKeep b (mTick b).1 ∧ (mTick b).1.draw = b.draw := by
   unfold mTick
   split
   ·obtain ⟨h1, h2, h3, h4, h5, h6⟩ := tick1_keep b
    obtain ⟨g1, g2, g3, g4, g5⟩ := pushN_keep (mTick1 b) 3
    refine ⟨BKeep_s h (g3.trans h1) (fun s' hs' => ?_) (fun x hx => ?_), g3.trans h1⟩
    ·have hs' : s' ∈ (pushN 3 (mTick1 b)).1.subs := hs'
     rw [g1] at hs'
     rcases h6 with h6 | h6
     ·rw [h6] at hs'
      obtain ⟨s, hs, rfl⟩ := List.mem_map.1 hs'
      have h34 := (h.bsubs s hs).1
      have hg : tickG s = s := by unfold tickG; rw [if_pos (by omega)]
      rw [hg]; exact ⟨s, hs, h34, rfl, rfl, rfl, rfl⟩
     ·rw [h6] at hs'; exact ⟨s', hs', (h.bsubs s' hs').1, rfl, rfl, rfl, rfl⟩
    ·have hx : x ∈ (pushN 3 (mTick1 b)).1.halfs := hx
     rw [g2] at hx; exact h5 x hx
   ·exact ⟨BKeep_q h rfl rfl rfl, rfl⟩
  refine ⟨PI_keep h hR (mTick_same b) hk.1 hk.2, fun m hm => ?_⟩
  rcases tick_letters hm hp with h1 | h1
  ·obtain ⟨s, hs, ⟨h2, _⟩ | ⟨h2, _⟩⟩ := tickL_mem h1
   ·have := (h.bsubs s hs).1; omega
   ·have := (h.bsubs s hs).1; omega
  ·exact ⟨h1.1, h1.2.1, fun h4 => absurd h4 h1.2.2⟩
 ·intro _
  have : mManage b = (b, []) := by unfold mManage; rw [if_neg (fun hc => by have := h.bside; omega)]
  rw [this]; exact ⟨h, fun m hm => by simp at hm⟩
 ·intro hR
  obtain ⟨g1, g2, g3, g4, g5⟩ := read_keep b (mBelow c 30)
  exact ⟨PI_keep h hR (mRead_same _ _) (BKeep_q h g3 g1 g2) g3, fun m hm => by simp at hm⟩
theorem start_PI (p q : DPolicy) (hp : mPolicyOk p = true) (hq : mPolicyOk q = true) (h4 : p.many ≤ 4) : PI (endA p) (endB q) := by
 have hrec : ∀ th g tk, Rec (endB q) th g tk → th = 0 ∧ g = 1003 ∧ tk = 1004 := fun th g tk hr => by
  rcases hr with ⟨s, hs, e1, e2, e3⟩ | ⟨x, hx, _⟩
  ·have := List.mem_singleton.1 hs
   subst this
   exact ⟨e1.symm, e2.symm, e3.symm⟩
  ·simp [endB] at hx
 refine ⟨endA_R hp, endB_R hq, rfl, rfl, h4, ⟨rfl, rfl⟩, rfl, ?_, ?_, rfl, ?_, ?_, ?_, ?_, ?_, ?_, ?_⟩
 ·intro x hx; rw [List.mem_singleton.1 hx]; exact ⟨by show (11 : Int) ≤ 14; decide, by show (0 : Int) ≤ 3; decide⟩
 ·intro s hs; rw [List.mem_singleton.1 hs]; exact ⟨by show (11 : Int) ≤ 14; decide, by show (0 : Int) ≤ 3; decide, by show (0 : Int) < 1005; decide⟩
 ·intro s hs t ht _; rw [List.mem_singleton.1 hs, List.mem_singleton.1 ht]
 ·intro s hs; rw [List.mem_singleton.1 hs]; exact ⟨.inl rfl, by show (0 : Int) ≤ 3; decide⟩
 ·intro x hx; simp [endB] at hx
 ·intro th g tk hr
  obtain ⟨rfl, rfl, rfl⟩ := hrec th g tk hr
  exact ⟨by show (0 : Int) < 1005; decide, by show (1004 : Int) < 1006; decide⟩
 ·intro th g tk hr s hs _
  obtain ⟨rfl, rfl, rfl⟩ := hrec th g tk hr
  rw [List.mem_singleton.1 hs]
 ·intro s hs _
  rw [List.mem_singleton.1 hs]
  refine ⟨by show (1004 : Int) < 1006; decide, fun th g tk hr _ => (hrec th g tk hr).1⟩
 ·intro th g th' g' tk h1 h2
  rw [(hrec th g tk h1).1, (hrec th' g' tk h2).1]
theorem mEnds_PI (c : DCur) : PI (mEnds c).2.1 (mEnds c).2.2 :=
 endsL_ind (I := PI) (A := LA) (A' := LA) (B := LB) (B' := LB) actA_PI actB_PI
  (fun _ _ l h hl => ⟨(hearB l h hl).1, (hearB l h hl).2.1, fun _ hm => hm, (hearB l h hl).2.2⟩)
  (fun _ _ l h hl => ⟨(hearA l h hl).1, Small_LA (hearA l h hl).2.1 hl.1, fun _ hm => hm, (hearA l h hl).2.2⟩)
  (fun _ _ _ h => h) (fun _ _ _ h => h) 13 0 _ _ _ (start_PI _ _ (mDPol_ok _) (mDPol_ok _) (mDPol_many _))
end Go.Eng

namespace Go.Eng

def jT (t : Nat) (x y : DEnd) (l : DLetter) : DEnd × DEnd × List DLetter :=
 if t = 0 then (x, (mHearJoin y l).1, (mHearJoin y l).2) else if t = 1 then ((mHearJoinBack x l).1, y, (mHearJoinBack x l).2)
 else if t = 2 then (x, (mHearJoinDone y l).1, (mHearJoinDone y l).2) else ((mHearJoinAck x l).1, y, (mHearJoinAck x l).2)
/-- The turns of an asking, as long as there is one answer. -/
def jL : Nat → Nat → DEnd → DEnd → List DLetter → DEnd × DEnd × List DLetter
 | 0, _, x, y, ls => (x, y, ls)
 | k + 1, t, x, y, ls => if ls.length = 1 then jL k (t + 1) (jT t x y (ls.getD 0 (ETy.zero .letter))).1 (jT t x y (ls.getD 0 (ETy.zero .letter))).2.1 (jT t x y (ls.getD 0 (ETy.zero .letter))).2.2 else (x, y, ls)
theorem jT_B {t : Nat} {x y : DEnd} (l : DLetter) (hx : x.B) (hy : y.B) : (jT t x y l).1.B ∧ (jT t x y l).2.1.B ∧ (jT t x y l).2.2.length ≤ 1 := by
 unfold jT
 repeat' split
 ·exact ⟨hx, mHearJoin_B l hy, mHearJoin_len1 y l⟩
 ·exact ⟨mHearJoinBack_B l hx, hy, mHearJoinBack_len1 x l⟩
 ·exact ⟨hx, mHearJoinDone_B l hy, mHearJoinDone_len1 y l⟩
 ·exact ⟨mHearJoinAck_B l hx, hy, mHearJoinAck_len1 x l⟩
theorem jL_one {k t : Nat} {x y : DEnd} (l : DLetter) : jL (k + 1) t x y [l] = jL k (t + 1) (jT t x y l).1 (jT t x y l).2.1 (jT t x y l).2.2 := by
 rw [jL, if_pos (show [l].length = 1 from rfl)]; rfl
theorem jL_nil {k t : Nat} {x y : DEnd} : jL k t x y [] = (x, y, []) := by
 cases k with
 | zero => rfl
 | succ k => rw [jL, if_neg (by simp)]
theorem subAt_app {e o : DEnd} {r : DRoad} {s : DSub} (h : mSubAt e r < 0) (ho : o.subs = e.subs ++ [s]) (hr : s.road = r) (h4 : s.state ≠ 4) : mSubAt o r = (e.subs.length : Int) := by
 unfold mSubAt
 rw [ho]
 refine (findL_is (pSub r) (ETy.zero .sub) _ _ (by simp)).2 ⟨?_, fun k hk => ?_⟩
 ·simp [List.getD, pSub, hr, h4]
 ·have := (findL_none (pSub r) e.subs 0).1 h
  have hg : (e.subs ++ [s]).getD k (ETy.zero .sub) = e.subs[k] := by simp [List.getD, List.getElem?_append_left hk, hk]
  rw [hg]; exact this _ (List.getElem_mem hk)
theorem subAt_set {e o : DEnd} {r : DRoad} {s : DSub} {n : Nat} (ho : o.subs = e.subs.set n s) (hn : n < e.subs.length) (hs : s.road = (gS e.subs n).road) (h4 : (gS e.subs n).state ≠ 4) (h4' : s.state ≠ 4) : mSubAt o r = mSubAt e r := by
 unfold mSubAt
 rw [ho]
 refine findL_same _ _ _ 0 ?_
 rw [List.map_set]
 apply List.ext_getElem?
 intro j
 rw [List.getElem?_set]
 split
 ·rename_i hj; subst hj
  have : gS e.subs n = e.subs[n] := by simp [gS, List.getD, hn]
  rw [this] at hs h4
  have e1 : (s.state != 4) = true := by simpa using h4'
  have e2 : (e.subs[n].state != 4) = true := by simpa using h4
  simp [hn, pSub, hs, e1, e2]
 ·rfl
theorem gS_app {l : List DSub} {s : DSub} : gS (l ++ [s]) l.length = s := by simp [gS, List.getD]
theorem lnums {x : DLetter} (h1 : mNum x.src = true) (h2 : mNum x.dst = true) (h3 : mNum x.port = true) (h4 : mNum x.key = true) (h5 : mNum x.token = true) (h6 : mNum x.nonce = true) (h7 : mNum x.give = true) (h8 : mNum x.sign = true) (h9 : mNum x.id = true) (h10 : mNum x.addr = true) (h11 : mNum x.pos = true)
  (h12 : mNum x.tag.kind = true) (h13 : mNum x.tag.one = true) (h14 : mNum x.tag.two = true) (h15 : mNum x.tag.a = true) (h16 : mNum x.tag.b = true) (hk : 1 ≤ x.kind ∧ x.kind ≤ 13) (ht : x.text.length ≤ 20) : mLetterOk x = true := by
 refine letter_ok hk (fun n hn => ?_) ht
 simp only [lNums, List.mem_cons, List.not_mem_nil, or_false] at hn
 rcases hn with rfl | rfl | rfl | rfl | rfl | rfl | rfl | rfl | rfl | rfl | rfl | rfl | rfl | rfl | rfl | rfl
 all_goals assumption
def JEnd (b : DEnd) (z : DEnd × DEnd × List DLetter) : Prop :=
 if b.bucket.hav = 0 ∨ b.subs.length = 8 ∨ b.halfs.length = 4 then mSubAt z.2.1 ⟨21, 11, 7⟩ < 0 ∧ 0 ≤ mSubAt z.1 ⟨11, 21, 7⟩ ∧ (gSub z.1 (mSubAt z.1 ⟨11, 21, 7⟩)).state = 1
 else 0 ≤ mSubAt z.1 ⟨11, 21, 7⟩ ∧ 0 ≤ mSubAt z.2.1 ⟨21, 11, 7⟩ ∧ (gSub z.1 (mSubAt z.1 ⟨11, 21, 7⟩)).state = 3 ∧ (gSub z.2.1 (mSubAt z.2.1 ⟨21, 11, 7⟩)).state = 3 ∧
  (gSub z.1 (mSubAt z.1 ⟨11, 21, 7⟩)).give = (gSub z.2.1 (mSubAt z.2.1 ⟨21, 11, 7⟩)).take ∧ (gSub z.1 (mSubAt z.1 ⟨11, 21, 7⟩)).take = (gSub z.2.1 (mSubAt z.2.1 ⟨21, 11, 7⟩)).give ∧ z.2.1.subs.length = b.subs.length + 1
theorem joins_law {a b : DEnd} (h : PI a b) (hda : Bd 7000 20 a) (hdb : Bd 7000 20 b) {L0 : DLetter} (hj : (mJoin a ⟨11, 21, 7⟩ false).2 = [L0]) (ho : mOwns b 21 = true) : JEnd b (jL 4 0 (mJoin a ⟨11, 21, 7⟩ false).1 b [L0]) := by
 have ha := G_E h.aR.1
 have hb := G_E h.bR.1
 have hXG := mJoin_G ⟨11, 21, 7⟩ false h.aR.1
 have hX : mJoin a ⟨11, 21, 7⟩ false = ({ a with draw := a.draw + 4, subs := a.subs ++ [⟨⟨11, 21, 7⟩, 1, false, a.draw, 0, 0, a.draw + 2, 0⟩] }, [mJoinLetter a ⟨⟨11, 21, 7⟩, 1, false, a.draw, 0, 0, a.draw + 2, 0⟩]) ∧ mSubAt a ⟨11, 21, 7⟩ < 0 := by
  unfold mJoin at hj ⊢
  split
  ·rename_i hc; exact ⟨rfl, hc.2.2.2.1⟩
  ·rename_i hc; rw [if_neg hc] at hj; simp at hj
 obtain ⟨hX, hn0⟩ := hX
 have hL0 : L0 = mJoinLetter a ⟨⟨11, 21, 7⟩, 1, false, a.draw, 0, 0, a.draw + 2, 0⟩ := by
  rw [hX] at hj; exact (List.cons.inj hj).1.symm
 rw [hX] at hXG ⊢
 clear hj hX
 have htok : mTokenFor (w64 (3 - a.side)) = 102 := by rw [h.aside]; rfl
 have hL0' : L0 = mBetween ⟨11, 21, 7⟩ (ltr 4 0 102 a.draw (a.draw + 2) 0 tg0 0 0 false 0 []) := by rw [hL0, mJoinLetter, htok]
 clear hL0
 subst hL0'
 have hd1 := hda.1
 have hd2 := hdb.1
 have hk1 := mNum_iff.1 ha.key
 have hk2 := mNum_iff.1 ha.peer
 have hk3 := mNum_iff.1 hb.key
 have hk4 := mNum_iff.1 hb.peer
 have N : ∀ {n : Int}, 0 ≤ n ∧ n ≤ 1000000000 → mNum n = true := fun h => mNum_iff.2 h
 have hhf : mHalfAt b.halfs ⟨21, 11, 7⟩ < 0 := halfAt_neg.2 fun y hy hr => by have := h.bhalfs y hy; rw [hr] at this; simp at this
 have hbs : mSubAt b ⟨21, 11, 7⟩ < 0 := subAt_neg.2 fun s hs _ hr => by have := (h.bsubs s hs).2; rw [hr] at this; simp at this
 have hXat : mSubAt { a with draw := a.draw + 4, subs := a.subs ++ [⟨⟨11, 21, 7⟩, 1, false, a.draw, 0, 0, a.draw + 2, 0⟩] } ⟨11, 21, 7⟩ = (a.subs.length : Int) := subAt_app hn0 rfl rfl (by simp)
 generalize hXX : ({ a with draw := a.draw + 4, subs := a.subs ++ [⟨⟨11, 21, 7⟩, 1, false, a.draw, 0, 0, a.draw + 2, 0⟩] } : DEnd) = X at *
 have hXs : X.subs = a.subs ++ [⟨⟨11, 21, 7⟩, 1, false, a.draw, 0, 0, a.draw + 2, 0⟩] := by rw [← hXX]
 have hXk : X.key = a.key ∧ X.peer = a.peer ∧ X.state = 2 := by rw [← hXX]; exact ⟨rfl, rfl, h.aR.2⟩
 clear hXX
 have hXg : gS X.subs a.subs.length = ⟨⟨11, 21, 7⟩, 1, false, a.draw, 0, 0, a.draw + 2, 0⟩ := by rw [hXs]; exact gS_app
 have hXl : a.subs.length < X.subs.length := by rw [hXs]; simp
 have hro : mRoadOf (mBetween ⟨11, 21, 7⟩ (ltr 4 0 102 a.draw (a.draw + 2) 0 tg0 0 0 false 0 [])) = ⟨21, 11, 7⟩ := rfl
 rw [jL_one]
 unfold JEnd
 by_cases hc : b.bucket.hav = 0 ∨ b.subs.length = 8 ∨ b.halfs.length = 4
 ·rw [if_pos hc]
  have hno : mHearJoin b (mBetween ⟨11, 21, 7⟩ (ltr 4 0 102 a.draw (a.draw + 2) 0 tg0 0 0 false 0 [])) = (b, []) := by
   unfold mHearJoin
   rw [if_neg]
   rintro ⟨⟨_, _, _, _, _, c6, c7, _, _⟩, c9⟩
   rw [hro] at c7
   unfold mTakeOne at c9
   split at c9
   ·rename_i hh; rcases hc with h1 | h1 | h1
    ·exact hh.2 h1
    ·omega
    ·rcases c7 with c7 | c7 <;> omega
   ·cases c9
  have hz : jT 0 X b (mBetween ⟨11, 21, 7⟩ (ltr 4 0 102 a.draw (a.draw + 2) 0 tg0 0 0 false 0 [])) = (X, b, []) := by unfold jT; rw [if_pos rfl, hno]
  rw [hz, jL_nil]
  refine ⟨hbs, by rw [hXat]; omega, ?_⟩
  show (gSub X (mSubAt X ⟨11, 21, 7⟩)).state = 1
  rw [hXat]
  have : gSub X (a.subs.length : Int) = gS X.subs a.subs.length := by simp [gSub, gS]
  rw [this, hXg]
 ·rw [if_neg hc]
  simp only [not_or] at hc
  obtain ⟨hc1, hc2, hc3⟩ := hc
  have h8 := hb.subs.1
  have h4 := hb.halfs.1
  have hjd : mJoinDraw b (mBetween ⟨11, 21, 7⟩ (ltr 4 0 102 a.draw (a.draw + 2) 0 tg0 0 0 false 0 [])) = b.draw + 4 := by
   unfold mJoinDraw; rw [if_neg (by rw [hro]; omega)]
  have hjh : mJoinHalf b (mBetween ⟨11, 21, 7⟩ (ltr 4 0 102 a.draw (a.draw + 2) 0 tg0 0 0 false 0 [])) = ⟨⟨21, 11, 7⟩, a.draw, b.draw, a.draw + 2, b.draw + 2, b.now + 6⟩ := by
   unfold mJoinHalf; rw [if_neg (by rw [hro]; omega)]; rfl
  have hnw := hdb.2.1
  have hnw0 := mNum_iff.1 hb.now
  have hput : (mPutHalf b.halfs ⟨⟨21, 11, 7⟩, a.draw, b.draw, a.draw + 2, b.draw + 2, b.now + 6⟩).1 = b.halfs ++ [⟨⟨21, 11, 7⟩, a.draw, b.draw, a.draw + 2, b.draw + 2, b.now + 6⟩] := by
   have hL : mPutHalfL b.halfs ⟨⟨21, 11, 7⟩, a.draw, b.draw, a.draw + 2, b.draw + 2, b.now + 6⟩ = b.halfs ++ [⟨⟨21, 11, 7⟩, a.draw, b.draw, a.draw + 2, b.draw + 2, b.now + 6⟩] := by
    unfold mPutHalfL; rw [if_neg (by simp only []; omega)]
   have hO : HOk (b.halfs ++ [⟨⟨21, 11, 7⟩, a.draw, b.draw, a.draw + 2, b.draw + 2, b.now + 6⟩]) := by
    refine ⟨by simp; omega, fun x hx => ?_, List.pairwise_append.2 ⟨hb.halfs.2.2, by simp, fun x hx y hy => ?_⟩⟩
    ·rcases List.mem_append.1 hx with hx | hx
     ·exact hb.halfs.2.1 x hx
     ·rw [List.mem_singleton.1 hx]
      exact ⟨rfl, N (by simp only []; omega), N (by simp only []; omega), N (by simp only []; omega), N (by simp only []; omega), N (by simp only []; omega)⟩
    ·rw [List.mem_singleton.1 hy]
     exact halfAt_neg.1 hhf x hx
   unfold mPutHalf
   rw [hL, if_pos ((halfsOk_iff _).2 hO)]
  have hlo : mLetterOk (mBetween ⟨11, 21, 7⟩ (ltr 4 0 102 a.draw (a.draw + 2) 0 tg0 0 0 false 0 [])) = true := by
   refine lnums rfl rfl rfl num0 rfl (N ?_) (N ?_) num0 num0 num0 num0 num0 num0 num0 num0 num0 ⟨by show (1 : Int) ≤ 4; decide, by show (4 : Int) ≤ 13; decide⟩ (by show 0 ≤ 20; decide)
   ·show 0 ≤ a.draw ∧ a.draw ≤ 1000000000; omega
   ·show 0 ≤ a.draw + 2 ∧ a.draw + 2 ≤ 1000000000; omega
  have hH : ∃ bk, mHearJoin b (mBetween ⟨11, 21, 7⟩ (ltr 4 0 102 a.draw (a.draw + 2) 0 tg0 0 0 false 0 [])) = ({ b with bucket := bk, draw := b.draw + 4, halfs := b.halfs ++ [⟨⟨21, 11, 7⟩, a.draw, b.draw, a.draw + 2, b.draw + 2, b.now + 6⟩] }, [mBetween ⟨21, 11, 7⟩ (ltr 5 0 0 b.draw (b.draw + 2) 0 (mTagBack b.key b.peer b.draw a.draw) 0 0 false 0 [])]) := by
   refine ⟨(mTakeOne b.bucket).1, ?_⟩
   unfold mHearJoin
   rw [if_pos, hjd, hjh, hput, hro]
   refine ⟨⟨h.bR.1.1, hlo, h.bR.2, ?_, ho, by omega, .inr (by omega), room_of hb (by omega) (by omega), by omega⟩, ?_⟩
   ·rw [h.bside]; rfl
   ·unfold mTakeOne; rw [if_pos ⟨hb.bucket, hc1⟩]
  obtain ⟨bk, hH⟩ := hH
  have hYG : ({ b with bucket := bk, draw := b.draw + 4, halfs := b.halfs ++ [⟨⟨21, 11, 7⟩, a.draw, b.draw, a.draw + 2, b.draw + 2, b.now + 6⟩] } : DEnd).G := by
   have := mHearJoin_G (mBetween ⟨11, 21, 7⟩ (ltr 4 0 102 a.draw (a.draw + 2) 0 tg0 0 0 false 0 [])) h.bR.1
   rw [hH] at this; exact this
  generalize hYY : ({ b with bucket := bk, draw := b.draw + 4, halfs := b.halfs ++ [⟨⟨21, 11, 7⟩, a.draw, b.draw, a.draw + 2, b.draw + 2, b.now + 6⟩] } : DEnd) = Y at *
  have hYs : Y.subs = b.subs ∧ Y.halfs = b.halfs ++ [⟨⟨21, 11, 7⟩, a.draw, b.draw, a.draw + 2, b.draw + 2, b.now + 6⟩] ∧ Y.key = b.key ∧ Y.peer = b.peer ∧ Y.state = 2 := by rw [← hYY]; exact ⟨rfl, rfl, rfl, rfl, h.bR.2⟩
  clear hYY
  have hz0 : jT 0 X b (mBetween ⟨11, 21, 7⟩ (ltr 4 0 102 a.draw (a.draw + 2) 0 tg0 0 0 false 0 [])) = (X, Y, [mBetween ⟨21, 11, 7⟩ (ltr 5 0 0 b.draw (b.draw + 2) 0 (mTagBack b.key b.peer b.draw a.draw) 0 0 false 0 [])]) := by unfold jT; rw [if_pos rfl, hH]
  rw [hz0, jL_one]
  -- the answer
  have hgX : gSub X (a.subs.length : Int) = ⟨⟨11, 21, 7⟩, 1, false, a.draw, 0, 0, a.draw + 2, 0⟩ := by
   have : gSub X (a.subs.length : Int) = gS X.subs a.subs.length := by simp [gSub, gS]
   rw [this, hXg]
  have hro1 : mRoadOf (mBetween ⟨21, 11, 7⟩ (ltr 5 0 0 b.draw (b.draw + 2) 0 (mTagBack b.key b.peer b.draw a.draw) 0 0 false 0 [])) = ⟨11, 21, 7⟩ := rfl
  have hlo1 : mLetterOk (mBetween ⟨21, 11, 7⟩ (ltr 5 0 0 b.draw (b.draw + 2) 0 (mTagBack b.key b.peer b.draw a.draw) 0 0 false 0 [])) = true := by
   refine lnums rfl rfl rfl num0 num0 (N ?_) (N ?_) num0 num0 num0 num0 rfl hb.key hb.peer (N ?_) (N ?_) ⟨by show (1 : Int) ≤ 5; decide, by show (5 : Int) ≤ 13; decide⟩ (by show 0 ≤ 20; decide)
   ·show 0 ≤ b.draw ∧ b.draw ≤ 1000000000; omega
   ·show 0 ≤ b.draw + 2 ∧ b.draw + 2 ≤ 1000000000; omega
   ·show 0 ≤ b.draw ∧ b.draw ≤ 1000000000; omega
   ·show 0 ≤ a.draw ∧ a.draw ≤ 1000000000; omega
  have hH1 : mHearJoinBack X (mBetween ⟨21, 11, 7⟩ (ltr 5 0 0 b.draw (b.draw + 2) 0 (mTagBack b.key b.peer b.draw a.draw) 0 0 false 0 [])) =
    (setSub X (a.subs.length : Int) (fun s => { s with state := 2, theirs := b.draw, give := b.draw + 2, tries := 0 }), [mBetween ⟨11, 21, 7⟩ (ltr 6 0 0 0 0 0 (mTagDone a.key a.peer a.draw b.draw) 0 0 false 0 [])]) := by
   unfold mHearJoinBack
   rw [if_pos, hro1, hXat, hgX]
   ·simp only [mDoneLetter, hXk.1, hXk.2.1]; rfl
   ·rw [hro1, hXat, hgX]
    refine ⟨hXG.1, hlo1, hXk.2.2, by omega, rfl, ?_⟩
    rw [hXk.1, hXk.2.1, h.keys.1, ← h.keys.2]; rfl
  have hx1s : (setSub X (a.subs.length : Int) (fun s => { s with state := 2, theirs := b.draw, give := b.draw + 2, tries := 0 })).subs = X.subs.set a.subs.length ⟨⟨11, 21, 7⟩, 2, false, a.draw, b.draw, b.draw + 2, a.draw + 2, 0⟩ := by
   simp only [setSub, hgX, Int.toNat_natCast]
  have hx1G : (setSub X (a.subs.length : Int) (fun s => { s with state := 2, theirs := b.draw, give := b.draw + 2, tries := 0 })).G := by
   have := mHearJoinBack_G (mBetween ⟨21, 11, 7⟩ (ltr 5 0 0 b.draw (b.draw + 2) 0 (mTagBack b.key b.peer b.draw a.draw) 0 0 false 0 [])) hXG
   rw [hH1] at this; exact this
  generalize hX1 : setSub X (a.subs.length : Int) (fun s => { s with state := 2, theirs := b.draw, give := b.draw + 2, tries := 0 }) = X1 at *
  have hz1 : jT (0 + 1) X Y (mBetween ⟨21, 11, 7⟩ (ltr 5 0 0 b.draw (b.draw + 2) 0 (mTagBack b.key b.peer b.draw a.draw) 0 0 false 0 [])) = (X1, Y, [mBetween ⟨11, 21, 7⟩ (ltr 6 0 0 0 0 0 (mTagDone a.key a.peer a.draw b.draw) 0 0 false 0 [])]) := by
   unfold jT; rw [if_neg (by omega), if_pos rfl, hH1]
  rw [hz1, jL_one]
  -- the proof
  have hx1at : mSubAt X1 ⟨11, 21, 7⟩ = (a.subs.length : Int) := by
   rw [subAt_set (e := X) (o := X1) hx1s hXl (by rw [hXg]) (by rw [hXg]; simp) (by simp), hXat]
  have hgX1 : gSub X1 (a.subs.length : Int) = ⟨⟨11, 21, 7⟩, 2, false, a.draw, b.draw, b.draw + 2, a.draw + 2, 0⟩ := by
   have : gSub X1 (a.subs.length : Int) = gS X1.subs a.subs.length := by simp [gSub, gS]
   rw [this, hx1s, gS_set hXl]
  have hro2 : mRoadOf (mBetween ⟨11, 21, 7⟩ (ltr 6 0 0 0 0 0 (mTagDone a.key a.peer a.draw b.draw) 0 0 false 0 [])) = ⟨21, 11, 7⟩ := rfl
  have hlo2 : mLetterOk (mBetween ⟨11, 21, 7⟩ (ltr 6 0 0 0 0 0 (mTagDone a.key a.peer a.draw b.draw) 0 0 false 0 [])) = true := by
   refine lnums rfl rfl rfl num0 num0 num0 num0 num0 num0 num0 num0 rfl ha.key ha.peer (N ?_) (N ?_) ⟨by show (1 : Int) ≤ 6; decide, by show (6 : Int) ≤ 13; decide⟩ (by show 0 ≤ 20; decide)
   ·show 0 ≤ a.draw ∧ a.draw ≤ 1000000000; omega
   ·show 0 ≤ b.draw ∧ b.draw ≤ 1000000000; omega
  have hYh : mHalfAt Y.halfs ⟨21, 11, 7⟩ = (b.halfs.length : Int) := by
   unfold mHalfAt
   rw [hYs.2.1]
   refine (findL_is _ (ETy.zero .half) _ _ (by simp)).2 ⟨by simp [List.getD], fun k hk => ?_⟩
   have hg : (b.halfs ++ [(⟨⟨21, 11, 7⟩, a.draw, b.draw, a.draw + 2, b.draw + 2, b.now + 6⟩ : DHalf)]).getD k (ETy.zero .half) = b.halfs[k] := by simp [List.getD, List.getElem?_append_left hk, hk]
   rw [hg]
   simpa using halfAt_neg.1 hhf _ (List.getElem_mem hk)
  have hgY : gHalf Y (b.halfs.length : Int) = ⟨⟨21, 11, 7⟩, a.draw, b.draw, a.draw + 2, b.draw + 2, b.now + 6⟩ := by
   simp only [gHalf, hYs.2.1, Int.toNat_natCast]; simp [List.getD]
  have hYat : mSubAt Y ⟨21, 11, 7⟩ < 0 := by unfold mSubAt at hbs ⊢; rw [hYs.1]; exact hbs
  have hH2 : ∃ hh, mHearJoinDone Y (mBetween ⟨11, 21, 7⟩ (ltr 6 0 0 0 0 0 (mTagDone a.key a.peer a.draw b.draw) 0 0 false 0 [])) =
    ({ Y with subs := Y.subs ++ [⟨⟨21, 11, 7⟩, 3, false, b.draw, a.draw, a.draw + 2, b.draw + 2, 0⟩], halfs := hh }, [mAck ⟨21, 11, 7⟩ (a.draw + 2)]) := by
   refine ⟨mDropHalf Y.halfs ⟨21, 11, 7⟩, ?_⟩
   unfold mHearJoinDone
   rw [if_pos ⟨hYG.1, hlo2, hYs.2.2.2.2⟩, hro2, hYh, hgY, if_pos]
   ·have : mGoneAt Y.subs (mSubAt Y ⟨21, 11, 7⟩) = Y.subs := by unfold mGoneAt; rw [if_neg (by omega)]
    rw [this]
   ·refine ⟨by omega, by rw [hYs.1]; omega, ?_⟩
    rw [hYs.2.2.1, hYs.2.2.2.1, h.keys.2, ← h.keys.1]; rfl
  obtain ⟨hh, hH2⟩ := hH2
  have hz2 : jT (0 + 1 + 1) X1 Y (mBetween ⟨11, 21, 7⟩ (ltr 6 0 0 0 0 0 (mTagDone a.key a.peer a.draw b.draw) 0 0 false 0 [])) = (X1, { Y with subs := Y.subs ++ [⟨⟨21, 11, 7⟩, 3, false, b.draw, a.draw, a.draw + 2, b.draw + 2, 0⟩], halfs := hh }, [mAck ⟨21, 11, 7⟩ (a.draw + 2)]) := by
   unfold jT; rw [if_neg (by omega), if_neg (by omega), if_pos rfl, hH2]
  rw [hz2, jL_one]
  have hY2at : mSubAt { Y with subs := Y.subs ++ [⟨⟨21, 11, 7⟩, 3, false, b.draw, a.draw, a.draw + 2, b.draw + 2, 0⟩], halfs := hh } ⟨21, 11, 7⟩ = (Y.subs.length : Int) := subAt_app hYat rfl rfl (by simp)
  have hgY2 : gSub { Y with subs := Y.subs ++ [⟨⟨21, 11, 7⟩, 3, false, b.draw, a.draw, a.draw + 2, b.draw + 2, 0⟩], halfs := hh } (Y.subs.length : Int) = ⟨⟨21, 11, 7⟩, 3, false, b.draw, a.draw, a.draw + 2, b.draw + 2, 0⟩ := by
   simp only [gSub, Int.toNat_natCast]; exact gS_app
  -- the last answer
  have hro3 : mRoadOf (mAck ⟨21, 11, 7⟩ (a.draw + 2)) = ⟨11, 21, 7⟩ := rfl
  have hlo3 : mLetterOk (mAck ⟨21, 11, 7⟩ (a.draw + 2)) = true := by
   refine lnums rfl rfl rfl num0 num0 num0 num0 (N ?_) num0 num0 num0 num0 num0 num0 num0 num0 ⟨by show (1 : Int) ≤ 7; decide, by show (7 : Int) ≤ 13; decide⟩ (by show 0 ≤ 20; decide)
   show 0 ≤ a.draw + 2 ∧ a.draw + 2 ≤ 1000000000; omega
  have hH3 : mHearJoinAck X1 (mAck ⟨21, 11, 7⟩ (a.draw + 2)) = (setSub X1 (a.subs.length : Int) (fun s => { s with state := 3 }), []) := by
   unfold mHearJoinAck
   rw [if_pos, hro3, hx1at]
   rw [hro3, hx1at, hgX1]
   exact ⟨hx1G.1, hlo3, by omega, rfl, rfl⟩
  have hz3 : jT (0 + 1 + 1 + 1) X1 { Y with subs := Y.subs ++ [⟨⟨21, 11, 7⟩, 3, false, b.draw, a.draw, a.draw + 2, b.draw + 2, 0⟩], halfs := hh } (mAck ⟨21, 11, 7⟩ (a.draw + 2)) =
    (setSub X1 (a.subs.length : Int) (fun s => { s with state := 3 }), { Y with subs := Y.subs ++ [⟨⟨21, 11, 7⟩, 3, false, b.draw, a.draw, a.draw + 2, b.draw + 2, 0⟩], halfs := hh }, []) := by
   unfold jT; rw [if_neg (by omega), if_neg (by omega), if_neg (by omega), hH3]
  rw [hz3, jL_nil]
  have hx1l : a.subs.length < X1.subs.length := by rw [hx1s]; simpa using hXl
  have hX1g : gS X1.subs a.subs.length = ⟨⟨11, 21, 7⟩, 2, false, a.draw, b.draw, b.draw + 2, a.draw + 2, 0⟩ := by rw [hx1s]; exact gS_set hXl _
  have hx2s : (setSub X1 (a.subs.length : Int) (fun s => { s with state := 3 })).subs = X1.subs.set a.subs.length ⟨⟨11, 21, 7⟩, 3, false, a.draw, b.draw, b.draw + 2, a.draw + 2, 0⟩ := by
   simp only [setSub, hgX1, Int.toNat_natCast]
  have hx2at : mSubAt (setSub X1 (a.subs.length : Int) (fun s => { s with state := 3 })) ⟨11, 21, 7⟩ = (a.subs.length : Int) := by
   rw [subAt_set (e := X1) hx2s hx1l (by rw [hX1g]) (by rw [hX1g]; simp) (by simp), hx1at]
  have hgX2 : gSub (setSub X1 (a.subs.length : Int) (fun s => { s with state := 3 })) (a.subs.length : Int) = ⟨⟨11, 21, 7⟩, 3, false, a.draw, b.draw, b.draw + 2, a.draw + 2, 0⟩ := by
   have : gSub (setSub X1 (a.subs.length : Int) (fun s => { s with state := 3 })) (a.subs.length : Int) = gS (setSub X1 (a.subs.length : Int) (fun s => { s with state := 3 })).subs a.subs.length := by simp [gSub, gS]
   rw [this, hx2s, gS_set hx1l]
  dsimp only
  rw [hx2at, hY2at, hgX2, hgY2]
  exact ⟨by omega, by omega, rfl, rfl, rfl, rfl, by simp [hYs.1]⟩
end Go.Eng
