/- Plain models of what the functions compute; part 3. No program in sight. -/
import Derived.Test.YtnpeomhpbakgnaaGreatMod2
set_option linter.unusedVariables false
set_option linter.unusedSimpArgs false
namespace Go.Eng
theorem spps : (ByteArray.mk #[]).data.toList = [] ∧ (∀ x : Int, mNums [x] = mNum x) ∧ (∀ (n : Nat) (l : List UInt8), (l.drop n == []) = decide (l.length ≤ n)) ∧ (∀ {p : Prop} [Decidable p], (decide p = true) = p) ∧ (∀ {p : Prop} {_ : Decidable p}, decide p = false ↔ ¬ p) ∧
  (¬ True) = False ∧ (¬ False) = True ∧ (∀ h : Decidable True, @decide True h = true) ∧ (∀ h : Decidable False, @decide False h = false) ∧
  (∀ p : Prop, (True ∧ p) = p) ∧ (∀ p : Prop, (p ∧ True) = p) ∧ (∀ p : Prop, (False ∧ p) = False) ∧ (∀ p : Prop, (p ∧ False) = False) ∧ (∀ {a : Prop}, a → a ↔ True) ∧ (∀ p : Prop, (False → p) = True) ∧ (∀ p : Prop, (True → p) = p) ∧ (∀ {a : Prop}, a → False ↔ ¬ a) :=
 ⟨bytes_nil, mNums1, drop_nil_beq, decide_eq_true_eq, decide_eq_false_iff_not, not_true_eq_false, not_false_eq_true, decide_true, decide_false, true_and, and_true, false_and, and_false, imp_self, false_implies, true_implies, imp_false⟩
theorem cfa : (∀ x : DCur, (⟨x.b, x.i, x.h⟩ : DCur) = x) ∧ (∀ {b : List Int} {x : DCur}, x.b = b → (⟨b, x.i, x.h⟩ : DCur) = x) ∧ (∀ c : DCur, (mByteC c).b = c.b) ∧ (∀ (c : DCur) (n : Int), (mBelowC c n).b = c.b) ∧ (∀ (c : DCur) (l : List Int), (mPickIntC c l).b = c.b) ∧ (∀ c : DCur, (mDPolC c).b = c.b) ∧ (∀ c : DCur, (mDAny1C c).b = c.b) ∧ (∀ c : DCur, (mDAnyC c).b = c.b) :=
 ⟨dCur_eta, dCur_fold, mByteC_b, mBelowC_b, mPickIntC_b, mDPolC_b, mDAny1C_b, mDAnyC_b⟩
theorem cfb : (∀ c : DCur, (dAddrC c).b = c.b) ∧ (∀ c : DCur, (dRoadC c).b = c.b) ∧ (∀ c : DCur, (dHalf5C c).b = c.b) ∧ (∀ c : DCur, (dHalfC c).b = c.b) ∧ (∀ c : DCur, (dTagC c).b = c.b) ∧ (∀ (c : DCur) (n : Int), (dTextC c n).b = c.b) :=
 ⟨dAddrC_b, dRoadC_b, dHalf5C_b, dHalfC_b, dTagC_b, dTextC_b⟩
theorem cfc : (∀ b : List Int, (mCur b).b = b) ∧ (∀ b : List Int, (⟨b, (mNew b).i, (mNew b).h⟩ : DCur) = mCur b) ∧ (∀ c : DCur, (mEnds c).1.b = c.b) ∧ (∀ c : DCur, (dAddrs c).2.b = c.b) ∧ (∀ c : DCur, (dHalfs c).2.b = c.b) ∧ (∀ c : DCur, (dEndC c).b = c.b) ∧ (∀ c : DCur, (dHalfsAny c).2.b = c.b) ∧ (∀ c : DCur, (dOutL c).2.b = c.b) ∧ (∀ c : DCur, (dOutAny c).2.b = c.b) ∧ (∀ c : DCur, (dPcs c).2.b = c.b) ∧ (∀ c : DCur, (dPcsAny c).2.b = c.b) ∧ (∀ (c : DCur) (l : List (List UInt8)), (mPickSC c l).b = c.b) ∧ (∀ c : DCur, (dAny c).2.b = c.b) ∧ (∀ c : DCur, (dAddrsAny c).2.b = c.b) :=
 ⟨mCur_b, mCur_fold, mEnds_b, dAddrs_b, dHalfs_b, dEndC_b, dHalfsAny_b, dOutL_b, dOutAny_b, dPcs_b, dPcsAny_b, mPickSC_b, dAny_b, dAddrsAny_b⟩
end Go.Eng

namespace Go.Eng
def lFive : List Int := [11, 12, 21, 22, 31]
def lTok : List Int := [101, 102, 7]
def lSeven : List Int := [11, 12, 13, 21, 22, 23, 31]
def dLet0 (c : DCur) : DLetter := ⟨w64 (1 + mBelow c 13), mPickInt (mBelowC c 13) lFive, mPickInt (mPickIntC (mBelowC c 13) lFive) lFive, mBelow (mPickIntC (mPickIntC (mBelowC c 13) lFive) lFive) 3, mBelow (mBelowC (mPickIntC (mPickIntC (mBelowC c 13) lFive) lFive) 3) 3, mPickInt (mBelowC (mBelowC (mPickIntC (mPickIntC (mBelowC c 13) lFive) lFive) 3) 3) lTok, mBelow (mPickIntC (mBelowC (mBelowC (mPickIntC (mPickIntC (mBelowC c 13) lFive) lFive) 3) 3) lTok) 9, mBelow (mBelowC (mPickIntC (mBelowC (mBelowC (mPickIntC (mPickIntC (mBelowC c 13) lFive) lFive) 3) 3) lTok) 9) 9, mBelow (mBelowC (mBelowC (mPickIntC (mBelowC (mBelowC (mPickIntC (mPickIntC (mBelowC c 13) lFive) lFive) 3) 3) lTok) 9) 9) 9, ⟨0, 0, 0, 0, 0⟩, mBelow (mBelowC (mBelowC (mBelowC (mPickIntC (mBelowC (mBelowC (mPickIntC (mPickIntC (mBelowC c 13) lFive) lFive) 3) 3) lTok) 9) 9) 9) 4, mPickInt (mBelowC (mBelowC (mBelowC (mBelowC (mPickIntC (mBelowC (mBelowC (mPickIntC (mPickIntC (mBelowC c 13) lFive) lFive) 3) 3) lTok) 9) 9) 9) 4) lSeven, false, mBelow (mPickIntC (mBelowC (mBelowC (mBelowC (mBelowC (mPickIntC (mBelowC (mBelowC (mPickIntC (mPickIntC (mBelowC c 13) lFive) lFive) 3) 3) lTok) 9) 9) 9) 4) lSeven) 30, []⟩
def dLet0C (c : DCur) : DCur := mBelowC (mPickIntC (mBelowC (mBelowC (mBelowC (mBelowC (mPickIntC (mBelowC (mBelowC (mPickIntC (mPickIntC (mBelowC c 13) lFive) lFive) 3) 3) lTok) 9) 9) 9) 4) lSeven) 30
theorem dLet0C_B {c : DCur} (h : c.B) : (dLet0C c).B := by
 unfold dLet0C mPickIntC
 repeat' (refine mBelowC_B _ ?_)
 exact h
theorem dLet0C_b (c : DCur) : (dLet0C c).b = c.b := by simp only [dLet0C, mPickIntC_b, mBelowC_b]
def dLetTag (x : DLetter) (c : DCur) : DLetter × DCur := if mOnce c 3 = true then ({ x with tag := dTag (mBelowC c 3) }, dTagC (mBelowC c 3)) else (x, mBelowC c 3)
theorem dLetTag_B (x : DLetter) {c : DCur} (h : c.B) : (dLetTag x c).2.B := by
 unfold dLetTag; split
 ·exact dTagC_B (mBelowC_B _ h)
 ·exact mBelowC_B _ h
theorem dLetTag_b (x : DLetter) (c : DCur) : (dLetTag x c).2.b = c.b := by
 unfold dLetTag; split
 ·simp only [dTagC_b, mBelowC_b]
 ·exact mBelowC_b _ _
def lEvil : List (List UInt8) := [[97], [101, 118, 105, 108], [122, 122], []]
def dLetText (x : DLetter) (c : DCur) : DLetter × DCur := if x.kind = 11 then ({ x with text := mPickS c lEvil }, mPickSC c lEvil) else (x, c)
theorem dLetText_B (x : DLetter) {c : DCur} (h : c.B) : (dLetText x c).2.B := by
 unfold dLetText; split
 ·exact mBelowC_B _ h
 ·exact h
theorem dLetText_b (x : DLetter) (c : DCur) : (dLetText x c).2.b = c.b := by
 unfold dLetText; split
 ·exact mPickSC_b _ _
 ·rfl
def dLet (c : DCur) : DLetter × DCur := dLetText (dLetTag (dLet0 c) (dLet0C c)).1 (dLetTag (dLet0 c) (dLet0C c)).2
theorem dLet_B {c : DCur} (h : c.B) : (dLet c).2.B := dLetText_B _ (dLetTag_B _ (dLet0C_B h))
theorem dLet_b (c : DCur) : (dLet c).2.b = c.b := by rw [dLet, dLetText_b, dLetTag_b, dLet0C_b]
def lKind : List Int := [0, 14, 13]
def lLen : List Int := [20, 21]
def dLet2 (x : DLetter) (c : DCur) : DLetter × DCur :=
 if mBelow c 12 = 0 then ({ x with kind := mPickInt (mBelowC c 12) lKind }, mPickIntC (mBelowC c 12) lKind)
 else if mBelow c 12 = 1 then ({ x with text := mLong (mPickInt (mBelowC c 12) lLen) 97 }, mPickIntC (mBelowC c 12) lLen)
 else if mBelow c 12 = 2 then ({ x with sign := mPickInt (mBelowC c 12) lTil }, mPickIntC (mBelowC c 12) lTil)
 else if mBelow c 12 = 3 then ({ x with tag := { x.tag with a := -1 } }, mBelowC c 12)
 else (x, mBelowC c 12)
def dLetAny (c : DCur) : DLetter × DCur := dLet2 (dLet c).1 (dLet c).2
theorem dLet2_B (x : DLetter) {c : DCur} (h : c.B) : (dLet2 x c).2.B := by
 have h4 := mBelowC_B 12 h
 unfold dLet2; repeat' split
 all_goals first | exact h4 | exact mBelowC_B _ h4
theorem dLet2_b (x : DLetter) (c : DCur) : (dLet2 x c).2.b = c.b := by
 unfold dLet2; repeat' split
 all_goals simp only [mPickIntC_b, mBelowC_b]
theorem dLetAny_B {c : DCur} (h : c.B) : (dLetAny c).2.B := dLet2_B _ (dLet_B h)
theorem dLetAny_b (c : DCur) : (dLetAny c).2.b = c.b := by rw [dLetAny, dLet2_b, dLet_b]
/-- A letter that fits the end, for the most part. -/
def dFit1 (e : DEnd) (x : DLetter) (c : DCur) : DLetter × DCur :=
 if 0 < e.subs.length then (if mOnce c 4 = true then (x, mBelowC c 4) else
  ({ mBetween (mBack (gSub e (mBelow (mBelowC c 4) (e.subs.length : Int))).road) x with sign := (gSub e (mBelow (mBelowC c 4) (e.subs.length : Int))).take }, mBelowC (mBelowC c 4) (e.subs.length : Int))) else (x, c)
def dFit (e : DEnd) (c : DCur) : DLetter × DCur := dFit1 e (dLetAny c).1 (dLetAny c).2
theorem dFit1_B (e : DEnd) (x : DLetter) {c : DCur} (h : c.B) : (dFit1 e x c).2.B := by
 unfold dFit1; repeat' split
 ·exact mBelowC_B _ h
 ·exact mBelowC_B _ (mBelowC_B _ h)
 ·exact h
theorem dFit1_b (e : DEnd) (x : DLetter) (c : DCur) : (dFit1 e x c).2.b = c.b := by
 unfold dFit1; repeat' split
 ·exact mBelowC_b _ _
 ·simp only [mBelowC_b]
 ·rfl
theorem dFit_B (e : DEnd) {c : DCur} (h : c.B) : (dFit e c).2.B := dFit1_B _ _ (dLetAny_B h)
theorem dFit_b (e : DEnd) (c : DCur) : (dFit e c).2.b = c.b := by rw [dFit, dFit1_b, dLetAny_b]
/-- A letter of a kind, for the most part. -/
def hrA (k : Int) (x : DLetter) (c : DCur) : DLetter := if mOnce c 12 = true then x else { x with kind := k }
def hrB (e : DEnd) (x : DLetter) (c : DCur) : DLetter × DCur :=
 if 0 < e.own.length then (if mOnce c 2 = true then ({ x with dst := (e.own.getD (mBelow (mBelowC c 2) (e.own.length : Int)).toNat (ETy.zero .addr)).addr }, mBelowC (mBelowC c 2) (e.own.length : Int)) else (x, mBelowC c 2)) else (x, c)
def hrC (e : DEnd) (x : DLetter) (c : DCur) : DLetter := if mOnce c 2 = true then { x with token := mTokenFor e.side } else x
theorem hrB_B (e : DEnd) (x : DLetter) {c : DCur} (h : c.B) : (hrB e x c).2.B := by
 unfold hrB; repeat' split
 ·exact mBelowC_B _ (mBelowC_B _ h)
 ·exact mBelowC_B _ h
 ·exact h
def hr1 (e : DEnd) : List DSub → DLetter → DCur → DLetter × DCur
 | [], x, c => (x, c)
 | s :: l, x, c => if s.state = 1 then (if mOnce c 2 = true then hr1 e l { mBetween (mBack s.road) x with tag := mTagBack e.peer e.key x.nonce s.mine } (mBelowC c 2) else hr1 e l x (mBelowC c 2)) else hr1 e l x c
def hr2 (e : DEnd) : List DHalf → DLetter → DCur → DLetter × DCur
 | [], x, c => (x, c)
 | h :: l, x, c => if mOnce c 2 = true then hr2 e l { mBetween (mBack h.road) x with tag := mTagDone e.peer e.key h.theirs h.mine, nonce := h.theirs, give := h.give } (mBelowC c 2) else hr2 e l x (mBelowC c 2)
def hr3 (e : DEnd) : List DSub → DLetter → DCur → DLetter × DCur
 | [], x, c => (x, c)
 | s :: l, x, c => if s.state = 3 then (if mOnce c 4 = true then hr3 e l { mBetween (mBack s.road) x with tag := mTagDone e.peer e.key s.theirs s.mine } (mBelowC c 4) else hr3 e l x (mBelowC c 4)) else hr3 e l x c
/-- What is to be heard: each list only for its kinds. -/
def hr1L (k : Int) (e : DEnd) (l : List DSub) (x : DLetter) (c : DCur) : DLetter × DCur := if k = 5 then hr1 e l x c else (x, c)
def hr2L (k : Int) (e : DEnd) (l : List DHalf) (x : DLetter) (c : DCur) : DLetter × DCur := if k = 6 ∨ k = 4 then hr2 e l x c else (x, c)
def hr3L (k : Int) (e : DEnd) (l : List DSub) (x : DLetter) (c : DCur) : DLetter := if k = 6 then (hr3 e l x c).1 else x
def hrX0 (k : Int) (e : DEnd) (c : DCur) : DLetter × DCur :=
 (hrC e (hrB e (hrA k (dFit e c).1 (dFit e c).2) (mBelowC (dFit e c).2 12)).1 (hrB e (hrA k (dFit e c).1 (dFit e c).2) (mBelowC (dFit e c).2 12)).2, mBelowC (hrB e (hrA k (dFit e c).1 (dFit e c).2) (mBelowC (dFit e c).2 12)).2 2)
def hrX1 (k : Int) (e : DEnd) (c : DCur) : DLetter × DCur := hr1L k e e.subs (hrX0 k e c).1 (hrX0 k e c).2
def hrX2 (k : Int) (e : DEnd) (c : DCur) : DLetter × DCur := hr2L k e e.halfs (hrX1 k e c).1 (hrX1 k e c).2
def hrX (k : Int) (e : DEnd) (c : DCur) : DLetter := hr3L k e e.subs (hrX2 k e c).1 (hrX2 k e c).2
def hE (b : List Int) : DEnd := (dAny (mCur b)).1
def hX (k : Int) (b : List Int) : DLetter := hrX k (hE b) (dAny (mCur b)).2
theorem hrX0_B (k : Int) (e : DEnd) {c : DCur} (h : c.B) : (hrX0 k e c).2.B := mBelowC_B _ (hrB_B _ _ (mBelowC_B _ (dFit_B _ h)))
theorem cfd : (∀ c : DCur, (dLet0C c).b = c.b) ∧ (∀ c : DCur, (dLet c).2.b = c.b) ∧ (∀ c : DCur, (dLetAny c).2.b = c.b) ∧ (∀ (e : DEnd) (c : DCur), (dFit e c).2.b = c.b) ∧ (∀ (x : DLetter) (c : DCur), (dLetTag x c).2.b = c.b) :=
 ⟨dLet0C_b, dLet_b, dLetAny_b, dFit_b, dLetTag_b⟩
/-- Roads that meet again. -/
theorem joins {K : Type} {inv Q : K → Prop} {G : Prop} (step : (∀ z, inv z → Q z) → G) (pf : ∀ z, inv z → Q z) : G := step pf
/-- Numbers of 0 .. 9999. -/
def placesL : Nat → DCur → List Int → List Int × DCur
 | 0, c, l => (l, c)
 | k + 1, c, l => placesL k (mBelowC c 10000) (l ++ [mBelow c 10000])
def mPlaces (b : List Int) : List Int := (placesL 12 (mCur b) []).1
theorem placesL_bd : ∀ (k : Nat) (c : DCur) (l : List Int), (∀ x ∈ l, 0 ≤ x ∧ x < 10000) → (∀ x ∈ (placesL k c l).1, 0 ≤ x ∧ x < 10000) ∧ (placesL k c l).1.length = l.length + k
 | 0, _, _, h => ⟨h, rfl⟩
 | k + 1, c, l, h => by
  have hb := mBelow_bd (c := c) (n := 10000) (by decide)
  have := placesL_bd k (mBelowC c 10000) (l ++ [mBelow c 10000]) (fun x hx => by
   rcases List.mem_append.1 hx with hx | hx
   ·exact h x hx
   ·rw [List.mem_singleton.1 hx]; exact hb)
  rw [placesL]
  refine ⟨this.1, this.2.trans ?_⟩
  simp only [List.length_append, List.length_cons, List.length_nil]; omega
end Go.Eng

namespace Go.Eng
theorem forged_done {e : DEnd} {x : DLetter} (h : x.tag.one ≠ e.peer) : mHearJoinDone e x = (e, []) := by
 have h1 : ∀ a b, x.tag ≠ mTagDone e.peer e.key a b := fun a b hh => h (by rw [hh]; rfl)
 unfold mHearJoinDone
 repeat' split
 all_goals first | rfl | (rename_i hc; exact absurd hc.2.2 (h1 _ _))
theorem forged_back {e : DEnd} {x : DLetter} (h : x.tag.one ≠ e.peer) : mHearJoinBack e x = (e, []) := by
 have h1 : ∀ a b, x.tag ≠ mTagBack e.peer e.key a b := fun a b hh => h (by rw [hh]; rfl)
 unfold mHearJoinBack
 split
 ·rename_i hc; exact absurd hc.2.2.2.2.2 (h1 _ _)
 ·rfl
theorem mPlaces_bd (b : List Int) : (∀ x ∈ mPlaces b, 0 ≤ x ∧ x < 10000) ∧ (mPlaces b).length = 12 := by
 have := placesL_bd 12 (mCur b) [] (fun x hx => by cases hx)
 exact ⟨this.1, this.2⟩
theorem place_key {l : List Int} (h : (∀ x ∈ l, 0 ≤ x ∧ x < 10000) ∧ l.length = 12) (i : Nat) (hi : i < 12) : 1 ≤ w64 (1 + (l.getD i (ETy.zero .int)).tmod 900) ∧ w64 (1 + (l.getD i (ETy.zero .int)).tmod 900) ≤ 900 := by
 have h0 := h.1 _ (getD_mem (ETy.zero .int) (show i < l.length by omega))
 have h1 := Int.tmod_nonneg 900 h0.1
 have h2 := Int.tmod_lt_of_pos (l.getD i (ETy.zero .int)) (show (0 : Int) < 900 by decide)
 rw [w64_id (by omega) (by omega)]
 omega
end Go.Eng
