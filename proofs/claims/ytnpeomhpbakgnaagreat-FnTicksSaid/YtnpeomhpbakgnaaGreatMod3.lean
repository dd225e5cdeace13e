/- Plain models of what the functions compute; part 3. No program in sight. -/
import Derived.Test.YtnpeomhpbakgnaaGreatMod2
set_option linter.unusedVariables false
set_option linter.unusedSimpArgs false
namespace Go.Eng
/-- Few of each. -/
structure DEnd.U (e : DEnd) : Prop where
 own : e.own.length ≤ 20
 far : e.far.length ≤ 20
 subs : e.subs.length ≤ 20
 halfs : e.halfs.length ≤ 20
 done : e.done.length ≤ 1000
 over : e.over.length ≤ 1000
 inn : e.inn.F
 tries : ∀ s ∈ e.subs, s.tries ≤ 20
theorem U_B {e : DEnd} (h : e.U) : e.B := by
 have := h.own; have := h.far; have := h.subs; have := h.halfs; have := h.done; have := h.over; have := h.inn.2.1
 exact ⟨by omega, by omega, by omega, by omega, by omega, by omega, by omega⟩
theorem dEnd_U (c : DCur) : (dEnd c).U := by
 have hR := dEnd_R c
 have he := G_E hR.1
 have hi := endOk_ids hR.1.1
 have hp := (piecesOk_bd he.inn).2
 exact ⟨by have := he.own.1; omega, by have := he.far.1; omega, by have := he.subs.1; omega, by have := he.halfs.1; omega, by omega, by omega, ⟨by have := hR.1.2.1; omega, by omega, hR.1.2.2⟩, (dEnd_Bd c).2.2⟩
theorem setTries {l : List DSub} {x : Int} (h : ∀ s ∈ l, s.tries ≤ 20) : ∀ s ∈ l.set 0 { l.getD 0 (ETy.zero .sub) with state := x }, s.tries ≤ 20 := by
 intro s hs
 cases l with
 | nil => cases hs
 | cons a l =>
  rw [List.set_cons_zero] at hs
  rcases List.mem_cons.1 hs with rfl | hs
  ·exact h a (by simp)
  ·exact h s (by simp [hs])
theorem altK_U (k : Int) {e : DEnd} (c : DCur) (h : e.U) (h8 : e.subs.length ≤ 9) (hd : e.done.length ≤ 999) (ho : e.over.length ≤ 999) : (altK k e c).1.U := by
 obtain ⟨h1, h2, h3, h4, h5, h6, h7, h9⟩ := h
 have a1 := dAddrsAny_len c
 have a2 := dHalfsAny_len c
 have a3 := subFill_len 10 e.subs c h8
 exact iteP (P := fun z : DEnd × DCur => z.1.U) (⟨h1, h2, h3, h4, h5, h6, h7, h9⟩) (iteP (P := fun z : DEnd × DCur => z.1.U) (⟨h1, h2, h3, h4, h5, h6, h7, h9⟩) (iteP (P := fun z : DEnd × DCur => z.1.U) (⟨h1, h2, h3, h4, h5, h6, h7, h9⟩) (iteP (P := fun z : DEnd × DCur => z.1.U) (⟨h1, h2, h3, h4, h5, h6, h7, h9⟩) (iteP (P := fun z : DEnd × DCur => z.1.U) (⟨by simp only []; omega, h2, h3, h4, h5, h6, h7, h9⟩) (iteP (P := fun z : DEnd × DCur => z.1.U) (⟨h1, h2, h3, by simp only []; omega, h5, h6, h7, h9⟩) (iteP (P := fun z : DEnd × DCur => z.1.U) (⟨h1, h2, h3, h4, h5, h6, h7, h9⟩) (iteP (P := fun z : DEnd × DCur => z.1.U) (⟨h1, h2, h3, h4, h5, h6, dPcsAny_F c, h9⟩) (iteP (P := fun z : DEnd × DCur => z.1.U) (⟨h1, h2, by simp only []; omega, h4, h5, h6, h7, fun s hs => h9 s (subFill_mem _ _ _ s hs)⟩) (iteP (P := fun z : DEnd × DCur => z.1.U) (iteP (P := fun z : DEnd × DCur => z.1.U) ⟨h1, h2, by simp only [List.length_set]; omega, h4, h5, h6, h7, setTries h9⟩ ⟨h1, h2, h3, h4, h5, h6, h7, h9⟩) (iteP (P := fun z : DEnd × DCur => z.1.U) (⟨h1, h2, h3, h4, by simp only [List.length_append, List.length_cons, List.length_nil]; omega, h6, h7, h9⟩) (iteP (P := fun z : DEnd × DCur => z.1.U) (⟨h1, h2, h3, h4, h5, by simp only [List.length_append, List.length_cons, List.length_nil]; omega, h7, h9⟩) (iteP (P := fun z : DEnd × DCur => z.1.U) (⟨h1, h2, h3, h4, h5, h6, h7, h9⟩) (⟨h1, h2, h3, h4, h5, h6, h7, h9⟩)))))))))))))
theorem dAny_U (c : DCur) : (dAny c).1.U := by
 have hR := dEnd_R c
 have he := G_E hR.1
 have hi := endOk_ids hR.1.1
 exact altK_U _ _ (dEnd_U c) (by have := he.subs.1; omega) (by omega) (by omega)
theorem U_G {e : DEnd} (h : e.U) (ho : mEndOk e = true) : e.G := by
 have hF := F_S h.inn
 exact ⟨ho, K_of hF.1 hF.2.2 ((endOk_iff e).1 ho).inn⟩
theorem tired_U {e : DEnd} (h : e.U) : mTired e = false := by
 unfold mTired
 have : ∀ (l : List DSub), (∀ s ∈ l, s.tries ≤ 20) → anyL (fun s : DSub => decide (s.tries ≥ 1000000000)) l = false := by
  intro l
  induction l with
  | nil => intro _; rfl
  | cons s l ih =>
   intro hl
   rw [anyL, if_neg (by have := hl s (by simp); simp; omega)]
   exact ih fun x hx => hl x (by simp [hx])
 exact this _ h.tries
theorem onL_tick : ∀ (l : List DSub) (i : Nat), colL fOn (l.map tickG) i = colL fOn l i
 | [], _ => rfl
 | s :: l, i => by
  have h3 : (tickG s).state = 3 ↔ s.state = 3 := by
   unfold tickG
   repeat' split
   ·exact Iff.rfl
   ·rename_i h1 h2; simp; omega
   ·exact Iff.rfl
  have hf : fOn (tickG s) i = fOn s i := by
   unfold fOn
   by_cases h : s.state = 3
   ·rw [if_pos h, if_pos (h3.2 h)]
   ·rw [if_neg h, if_neg (fun hh => h (h3.1 hh))]
  rw [List.map_cons, colL, colL, hf, onL_tick l]
theorem tick1_on (e : DEnd) : mOnOf (mTick1 e) = mOnOf e := by
 unfold mTick1 mOnOf
 split
 ·exact onL_tick _ _
 ·rfl
theorem push_more (e : DEnd) : e.out.sent ≤ (mPush e).1.out.sent ∧ (mPush e).1.now = e.now ∧ (mPush e).1.halfs = e.halfs ∧ (mPush e).1.bucket = e.bucket := by
 unfold mPush; split
 ·exact ⟨by simp only [mWasSent]; omega, rfl, rfl, rfl⟩
 ·exact ⟨Int.le_refl _, rfl, rfl, rfl⟩
theorem pushN_more (e : DEnd) : ∀ n, e.out.sent ≤ (pushN n e).1.out.sent ∧ (pushN n e).1.now = e.now ∧ (pushN n e).1.halfs = e.halfs ∧ (pushN n e).1.bucket = e.bucket
 | 0 => ⟨Int.le_refl _, rfl, rfl, rfl⟩
 | n + 1 => by
  obtain ⟨h1, h2, h3, h4⟩ := pushN_more e n
  obtain ⟨g1, g2, g3, g4⟩ := push_more (pushN n e).1
  exact ⟨Int.le_trans h1 g1, g2.trans h2, g3.trans h3, g4.trans h4⟩
theorem young_mem {l : List DHalf} {n : Int} {h : DHalf} (hh : h ∈ mYounger l n) : n < h.til := by
 have gen : ∀ (l : List DHalf) (i : Nat), h ∈ colL (fYoung n) l i → n < h.til := by
  intro l
  induction l with
  | nil => intro i h; simp [colL] at h
  | cons x l ih =>
   intro i h
   rw [colL] at h
   split at h
   ·rename_i y hy
    unfold fYoung at hy
    split at hy
    ·rename_i ht
     cases hy
     rcases List.mem_cons.1 h with h | h
     ·subst h; exact ht
     ·exact ih _ h
    ·cases hy
   ·exact ih _ h
 exact gen l 0 hh
theorem tick1_keep2 (e : DEnd) : (mTick1 e).now = e.now + 1 ∧ (mTick1 e).halfs = mYounger e.halfs (e.now + 1) ∧ (mTick1 e).bucket = mFilled e.bucket ∧ (mTick1 e).out = mAnew e.out := by
 unfold mTick1; split <;> exact ⟨rfl, rfl, rfl, rfl⟩
theorem filled_more {b : DBucket} (h : mBucketOk b = true) : b.hav ≤ (mFilled b).hav := by
 simp only [mBucketOk, Bool.and_eq_true, mIn_iff] at h
 unfold mFilled
 split
 ·dsimp only; split <;> omega
 ·exact Int.le_refl _
theorem ticks_law {e : DEnd} (hU : e.U) (ho : mEndOk e = true) (hn : e.now ≠ 1000000000) :
  (mTick e).1.G ∧ (mTick e).1.now = e.now + 1 ∧ (∀ h ∈ (mTick e).1.halfs, e.now + 1 < h.til) ∧ e.bucket.hav ≤ (mTick e).1.bucket.hav ∧
  ((mOnOf e).length = 0 ∨ e.out.text.length = 0 ∨ (mTick e).1.out.base < (mTick e).1.out.sent) := by
 have hG := U_G hU ho
 have he := G_E hG
 have hnow := mNum_iff.1 he.now
 have ht := tired_U hU
 have h1 := mTick1_G hG (by omega) ht
 have hT : (mTick e).1 = (pushN 3 (mTick1 e)).1 := by
  unfold mTick; rw [if_pos ⟨ho, by omega, ht⟩]; rfl
 obtain ⟨k1, k2, k3, k4⟩ := tick1_keep2 e
 obtain ⟨p1, p2, p3, p4⟩ := pushN_more (mTick1 e) 3
 refine ⟨mTick_G hG, by rw [hT, p2, k1], fun h hh => ?_, by rw [hT, p4, k3]; exact filled_more he.bucket, ?_⟩
 ·rw [hT, p3, k2] at hh; exact young_mem hh
 ·by_cases hon : (mOnOf e).length = 0
  ·exact .inl hon
  ·by_cases htx : e.out.text.length = 0
   ·exact .inr (.inl htx)
   ·refine .inr (.inr ?_)
    have hob := outOk_bd he.out
    have hA : (mTick1 e).out = { e.out with sent := e.out.base } := by rw [k4, mAnew, if_pos he.out]
    have hns := nextSub_pos h1.1 (by rw [tick1_on]; exact hon)
    have hoo : mOutOk (mTick1 e).out = true := (G_E h1).out
    have hnp : mNextPiece (mTick1 e).out = (⟨e.out.base, (e.out.text.drop 0).take 20⟩, true) := by
     unfold mNextPiece
     rw [if_pos ⟨hoo, by rw [hA]; dsimp only; omega⟩, hA]
     simp
    have hs1 : (mPush (mTick1 e)).1.out.sent = e.out.base + (((e.out.text.drop 0).take 20).length : Int) := by
     unfold mPush
     rw [if_pos ⟨by rw [hnp], hns⟩]
     show (mTick1 e).out.sent + ((mNextPiece (mTick1 e).out).1.text.length : Int) = _
     rw [hnp, hA]
    have hl : 0 < ((e.out.text.drop 0).take 20).length := by
     rw [List.drop_zero, List.length_take]; omega
    have hb := (pushN_out (mTick1 e) 3).2.1
    have hb2 : (mTick1 e).out.base = e.out.base := by rw [hA]
    have m1 := (push_more (pushN 1 (mTick1 e)).1).1
    have m2 := (push_more (pushN 2 (mTick1 e)).1).1
    have e1 : (pushN 1 (mTick1 e)).1 = (mPush (mTick1 e)).1 := rfl
    have e2 : (pushN 2 (mTick1 e)).1 = (mPush (pushN 1 (mTick1 e)).1).1 := rfl
    have e3 : (pushN 3 (mTick1 e)).1 = (mPush (pushN 2 (mTick1 e)).1).1 := rfl
    rw [hT, hb, hb2, e3]
    rw [← e2] at m1
    rw [e1] at m1
    omega
theorem tick_no {e : DEnd} (h : mEndOk e = false ∨ e.now = 1000000000) : mTick e = (e, []) := by
 unfold mTick
 rw [if_neg]
 rintro ⟨h1, h2, _⟩
 rcases h with h | h
 ·rw [h] at h1; cases h1
 ·omega
end Go.Eng

namespace Go.Eng
theorem spps : (ByteArray.mk #[]).data.toList = [] ∧ (∀ x : Int, mNums [x] = mNum x) ∧ (∀ (n : Nat) (l : List UInt8), (l.drop n == []) = decide (l.length ≤ n)) ∧ (∀ {p : Prop} [Decidable p], (decide p = true) = p) ∧ (∀ {p : Prop} {_ : Decidable p}, decide p = false ↔ ¬ p) ∧
  (¬ True) = False ∧ (¬ False) = True ∧ (∀ h : Decidable True, @decide True h = true) ∧ (∀ h : Decidable False, @decide False h = false) ∧
  (∀ p : Prop, (True ∧ p) = p) ∧ (∀ p : Prop, (p ∧ True) = p) ∧ (∀ p : Prop, (False ∧ p) = False) ∧ (∀ p : Prop, (p ∧ False) = False) ∧ (∀ {a : Prop}, a → a ↔ True) ∧ (∀ p : Prop, (False → p) = True) ∧ (∀ p : Prop, (True → p) = p) ∧ (∀ {a : Prop}, a → False ↔ ¬ a) :=
 ⟨bytes_nil, mNums1, drop_nil_beq, decide_eq_true_eq, decide_eq_false_iff_not, not_true_eq_false, not_false_eq_true, decide_true, decide_false, true_and, and_true, false_and, and_false, imp_self, false_implies, true_implies, imp_false⟩
theorem cfa : (∀ x : DCur, (⟨x.b, x.i, x.h⟩ : DCur) = x) ∧ (∀ {b : List Int} {x : DCur}, x.b = b → (⟨b, x.i, x.h⟩ : DCur) = x) ∧ (∀ c : DCur, (mByteC c).b = c.b) ∧ (∀ (c : DCur) (n : Int), (mBelowC c n).b = c.b) ∧ (∀ (c : DCur) (l : List Int), (mPickIntC c l).b = c.b) ∧ (∀ c : DCur, (mDPolC c).b = c.b) ∧ (∀ c : DCur, (mDAny1C c).b = c.b) ∧ (∀ c : DCur, (mDAnyC c).b = c.b) :=
 ⟨dCur_eta, dCur_fold, mByteC_b, mBelowC_b, mPickIntC_b, mDPolC_b, mDAny1C_b, mDAnyC_b⟩
theorem cfb : (∀ c : DCur, (dAddrC c).b = c.b) ∧ (∀ c : DCur, (dRoadC c).b = c.b) ∧ (∀ c : DCur, (dHalf5C c).b = c.b) ∧ (∀ c : DCur, (dHalfC c).b = c.b) ∧ (∀ c : DCur, (dTagC c).b = c.b) ∧ (∀ (c : DCur) (n : Int), (dTextC c n).b = c.b) :=
 ⟨dAddrC_b, dRoadC_b, dHalf5C_b, dHalfC_b, dTagC_b, dTextC_b⟩
theorem cfc : (∀ b : List Int, (mCur b).b = b) ∧ (∀ b : List Int, (⟨b, (mNew b).i, (mNew b).h⟩ : DCur) = mCur b) ∧ (∀ c : DCur, (mEnds c).1.b = c.b) ∧ (∀ c : DCur, (dAddrs c).2.b = c.b) ∧ (∀ c : DCur, (dHalfs c).2.b = c.b) ∧ (∀ c : DCur, (dEndC c).b = c.b) ∧ (∀ c : DCur, (dHalfsAny c).2.b = c.b) ∧ (∀ c : DCur, (dOutL c).2.b = c.b) ∧ (∀ c : DCur, (dOutAny c).2.b = c.b) ∧ (∀ c : DCur, (dPcs c).2.b = c.b) ∧ (∀ c : DCur, (dPcsAny c).2.b = c.b) ∧ (∀ (c : DCur) (l : List (List UInt8)), (mPickSC c l).b = c.b) ∧ (∀ c : DCur, (dAny c).2.b = c.b) ∧ (∀ c : DCur, (dAddrsAny c).2.b = c.b) :=
 ⟨mCur_b, mCur_fold, mEnds_b, dAddrs_b, dHalfs_b, dEndC_b, dHalfsAny_b, dOutL_b, dOutAny_b, dPcs_b, dPcsAny_b, mPickSC_b, dAny_b, dAddrsAny_b⟩
end Go.Eng
