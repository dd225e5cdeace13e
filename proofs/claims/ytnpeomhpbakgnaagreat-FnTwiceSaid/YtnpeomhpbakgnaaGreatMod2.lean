/- Plain models of what the functions compute; part 2. No program in sight. -/
import Derived.Test.YtnpeomhpbakgnaaGreatMod1
set_option linter.unusedVariables false
set_option linter.unusedSimpArgs false
namespace Go.Eng
def dAddr (c : DCur) : DAddr := ⟨mBelow c 7, w64 (11 + mBelow (mBelowC c 7) 9), mOnce (mBelowC (mBelowC c 7) 9) 4, mOnce (mBelowC (mBelowC (mBelowC c 7) 9) 4) 2⟩
def dAddrC (c : DCur) : DCur := mBelowC (mBelowC (mBelowC (mBelowC c 7) 9) 4) 2
theorem dAddrC_B {c : DCur} (h : c.B) : (dAddrC c).B := mBelowC_B _ (mBelowC_B _ (mBelowC_B _ (mBelowC_B _ h)))
theorem dAddrC_b (c : DCur) : (dAddrC c).b = c.b := by simp only [dAddrC, mBelowC_b]
def dRoad (c : DCur) : DRoad := ⟨w64 (11 + mBelow c 3), w64 (21 + mBelow (mBelowC c 3) 3), mBelow (mBelowC (mBelowC c 3) 3) 3⟩
def dRoadC (c : DCur) : DCur := mBelowC (mBelowC (mBelowC c 3) 3) 3
theorem dRoadC_B {c : DCur} (h : c.B) : (dRoadC c).B := mBelowC_B _ (mBelowC_B _ (mBelowC_B _ h))
theorem dRoadC_b (c : DCur) : (dRoadC c).b = c.b := by simp only [dRoadC, mBelowC_b]
def dHalf5 (c : DCur) (r : DRoad) : DHalf := ⟨r, mBelow c 9, w64 (1000 + mBelow (mBelowC c 9) 9), w64 (1000 + mBelow (mBelowC (mBelowC c 9) 9) 9), mBelow (mBelowC (mBelowC (mBelowC c 9) 9) 9) 9, mBelow (mBelowC (mBelowC (mBelowC (mBelowC c 9) 9) 9) 9) 9⟩
def dHalf5C (c : DCur) : DCur := mBelowC (mBelowC (mBelowC (mBelowC (mBelowC c 9) 9) 9) 9) 9
theorem dHalf5C_B {c : DCur} (h : c.B) : (dHalf5C c).B := mBelowC_B _ (mBelowC_B _ (mBelowC_B _ (mBelowC_B _ (mBelowC_B _ h))))
theorem dHalf5C_b (c : DCur) : (dHalf5C c).b = c.b := by simp only [dHalf5C, mBelowC_b]
def dHalf (c : DCur) : DHalf := dHalf5 (dRoadC c) (dRoad c)
def dHalfC (c : DCur) : DCur := dHalf5C (dRoadC c)
theorem dHalfC_B {c : DCur} (h : c.B) : (dHalfC c).B := dHalf5C_B (dRoadC_B h)
theorem dHalfC_b (c : DCur) : (dHalfC c).b = c.b := by simp only [dHalfC, dHalf5C_b, dRoadC_b]
def dTag (c : DCur) : DTag := ⟨mBelow c 4, w64 (1 + mBelow (mBelowC c 4) 3), w64 (1 + mBelow (mBelowC (mBelowC c 4) 3) 3), mBelow (mBelowC (mBelowC (mBelowC c 4) 3) 3) 4, mBelow (mBelowC (mBelowC (mBelowC (mBelowC c 4) 3) 3) 4) 4⟩
def dTagC (c : DCur) : DCur := mBelowC (mBelowC (mBelowC (mBelowC (mBelowC c 4) 3) 3) 4) 4
theorem dTagC_B {c : DCur} (h : c.B) : (dTagC c).B := mBelowC_B _ (mBelowC_B _ (mBelowC_B _ (mBelowC_B _ (mBelowC_B _ h))))
theorem dTagC_b (c : DCur) : (dTagC c).b = c.b := by simp only [dTagC, mBelowC_b]
def mBack (r : DRoad) : DRoad := ⟨r.far, r.own, r.port⟩
/-- A list drawn: as long as the place is below the number that is drawn anew. -/
def dList {α : Type} (n : Int) (f : DCur → List α → List α) (fc : DCur → DCur) : Nat → Nat → DCur → List α → List α × DCur
 | 0, _, c, out => (out, c)
 | k + 1, i, c, out => if (i : Int) < mBelow c n then dList n f fc k (i + 1) (fc (mBelowC c n)) (f (mBelowC c n) out) else (out, mBelowC c n)
def dAddrs (c : DCur) : List DAddr × DCur := dList 8 (fun c l => (mPutAddr l (dAddr c)).1) dAddrC 9 0 c []
def dHalfs (c : DCur) : List DHalf × DCur := dList 6 (fun c l => (mPutHalf l (dHalf c)).1) dHalfC 7 0 c []
theorem dList_B {α : Type} {n : Int} {f : DCur → List α → List α} {fc : DCur → DCur} (hf : ∀ c : DCur, c.B → (fc c).B) : ∀ (k i : Nat) (c : DCur) (l : List α), c.B → (dList n f fc k i c l).2.B
 | 0, _, _, _, h => h
 | k + 1, i, c, l, h => by
  rw [dList]
  split
  ·exact dList_B hf k _ _ _ (hf _ (mBelowC_B _ h))
  ·exact mBelowC_B _ h
theorem dList_b {α : Type} {n : Int} {f : DCur → List α → List α} {fc : DCur → DCur} (hf : ∀ c : DCur, (fc c).b = c.b) : ∀ (k i : Nat) (c : DCur) (l : List α), (dList n f fc k i c l).2.b = c.b
 | 0, _, _, _ => rfl
 | k + 1, i, c, l => by
  rw [dList]
  split
  ·rw [dList_b hf k, hf, mBelowC_b]
  ·exact mBelowC_b _ _
theorem dAddrs_B {c : DCur} (h : c.B) : (dAddrs c).2.B := dList_B (fun _ h => dAddrC_B h) _ _ _ _ h
theorem dAddrs_b (c : DCur) : (dAddrs c).2.b = c.b := dList_b (fun _ => dAddrC_b _) _ _ _ _
theorem dHalfs_B {c : DCur} (h : c.B) : (dHalfs c).2.B := dList_B (fun _ h => dHalfC_B h) _ _ _ _ h
theorem dHalfs_b (c : DCur) : (dHalfs c).2.b = c.b := dList_b (fun _ => dHalfC_b _) _ _ _ _
theorem dList_len {α : Type} {n : Int} {f : DCur → List α → List α} {fc : DCur → DCur} (hf : ∀ (c : DCur) (l : List α), (f c l).length ≤ l.length + 1) : ∀ (k i : Nat) (c : DCur) (l : List α), (dList n f fc k i c l).1.length ≤ l.length + k
 | 0, _, _, _ => Nat.le_refl _
 | k + 1, i, c, l => by
  rw [dList]
  split
  ·have h1 := dList_len (n := n) (fc := fc) hf k (i + 1) (fc (mBelowC c n)) (f (mBelowC c n) l)
   have h2 := hf (mBelowC c n) l
   omega
  ·exact Nat.le_add_right _ _
theorem dAddrs_len (c : DCur) : (dAddrs c).1.length ≤ 9 := by
 have := dList_len (n := 8) (f := fun c l => (mPutAddr l (dAddr c)).1) (fc := dAddrC) (fun c l => mPutAddr_len l _) 9 0 c []
 exact Nat.le_trans this (by decide)
theorem dHalfs_len (c : DCur) : (dHalfs c).1.length ≤ 7 := by
 have := dList_len (n := 6) (f := fun c l => (mPutHalf l (dHalf c)).1) (fc := dHalfC) (fun c l => mPutHalf_len l _) 7 0 c []
 exact Nat.le_trans this (by decide)
def lIds : List Int := [-1, 256, 255]
def lOdd : List Int := [0, 65536, 500]
def dAddrs2 (l : List DAddr) (c : DCur) : List DAddr × DCur :=
 if mBelow c 12 = 0 then (l ++ [dAddr (mBelowC c 12)], dAddrC (mBelowC c 12))
 else if mBelow c 12 = 1 then (l ++ [⟨mPickInt (mBelowC c 12) lIds, mPickInt (mPickIntC (mBelowC c 12) lIds) lOdd, false, false⟩], mPickIntC (mPickIntC (mBelowC c 12) lIds) lOdd)
 else (l, mBelowC c 12)
def dAddrsAny (c : DCur) : List DAddr × DCur := dAddrs2 (dAddrs c).1 (dAddrs c).2
theorem dAddrs2_B (l : List DAddr) {c : DCur} (h : c.B) : (dAddrs2 l c).2.B := by
 unfold dAddrs2
 split
 ·exact dAddrC_B (mBelowC_B _ h)
 ·split
  ·exact mBelowC_B _ (mBelowC_B _ (mBelowC_B _ h))
  ·exact mBelowC_B _ h
theorem dAddrs2_b (l : List DAddr) (c : DCur) : (dAddrs2 l c).2.b = c.b := by
 unfold dAddrs2
 split
 ·simp only [dAddrC_b, mBelowC_b]
 ·split
  ·simp only [mPickIntC_b, mBelowC_b]
  ·simp only [mBelowC_b]
theorem dAddrsAny_B {c : DCur} (h : c.B) : (dAddrsAny c).2.B := dAddrs2_B _ (dAddrs_B h)
theorem dAddrsAny_b (c : DCur) : (dAddrsAny c).2.b = c.b := by rw [dAddrsAny, dAddrs2_b, dAddrs_b]
theorem dAddrsAny_len (c : DCur) : (dAddrsAny c).1.length ≤ 10 := by
 have := dAddrs_len c
 unfold dAddrsAny dAddrs2
 repeat' split
 all_goals simp
 all_goals omega
/-- Bytes drawn, one by one. -/
def dBytes : Nat → DCur → List Int → List Int × DCur
 | 0, c, l => (l, c)
 | k + 1, c, l => dBytes k (mByteC c) (l ++ [IntKind.u8.wrap (mByte c)])
theorem dBytes_B : ∀ (k : Nat) (c : DCur) (l : List Int), c.B → (dBytes k c l).2.B
 | 0, _, _, h => h
 | k + 1, c, l, h => dBytes_B k _ _ (mByteC_B h)
theorem dBytes_b : ∀ (k : Nat) (c : DCur) (l : List Int), (dBytes k c l).2.b = c.b
 | 0, _, _ => rfl
 | k + 1, c, l => by rw [dBytes, dBytes_b k, mByteC_b]
def dTextN (n : Int) : Nat := (if n > 5000 then 5000 else n).toNat
def dText (c : DCur) (n : Int) : List UInt8 := (dBytes (dTextN n) c []).1.map fun n => UInt8.ofNat n.toNat
def dTextC (c : DCur) (n : Int) : DCur := (dBytes (dTextN n) c []).2
theorem dTextC_B {c : DCur} (n : Int) (h : c.B) : (dTextC c n).B := dBytes_B _ _ _ h
theorem dTextC_b (c : DCur) (n : Int) : (dTextC c n).b = c.b := dBytes_b _ _ _
end Go.Eng

namespace Go.Eng
theorem mHearData_len1 (e : DEnd) (x : DLetter) : (mHearData e x).2.length ≤ 1 := by
 unfold mHearData
 repeat' split
 all_goals simp
theorem mHearBack_len1 (e : DEnd) (x : DLetter) : (mHearBack e x).2.length ≤ 1 := by
 unfold mHearBack
 repeat' split
 all_goals simp
theorem mHearJoin_len1 (e : DEnd) (x : DLetter) : (mHearJoin e x).2.length ≤ 1 := by
 unfold mHearJoin
 repeat' split
 all_goals simp
theorem mHearJoinBack_len1 (e : DEnd) (x : DLetter) : (mHearJoinBack e x).2.length ≤ 1 := by
 unfold mHearJoinBack
 repeat' split
 all_goals simp
theorem mHearJoinDone_len1 (e : DEnd) (x : DLetter) : (mHearJoinDone e x).2.length ≤ 1 := by
 unfold mHearJoinDone
 repeat' split
 all_goals simp
theorem mHearJoinAck_len1 (e : DEnd) (x : DLetter) : (mHearJoinAck e x).2.length ≤ 1 := by
 unfold mHearJoinAck
 repeat' split
 all_goals simp
theorem mHearAddr_len1 (e : DEnd) (x : DLetter) : (mHearAddr e x).2.length ≤ 1 := by
 unfold mHearAddr
 repeat' split
 all_goals simp
theorem mHearEcho_len1 (e : DEnd) (x : DLetter) : (mHearEcho e x).2.length ≤ 1 := by
 unfold mHearEcho
 repeat' split
 all_goals simp
theorem mHearGone_len1 (e : DEnd) (x : DLetter) : (mHearGone e x).2.length ≤ 1 := by
 unfold mHearGone
 repeat' split
 all_goals simp
theorem mHearCame_len1 (e : DEnd) (x : DLetter) : (mHearCame e x).2.length ≤ 1 := by
 unfold mHearCame
 repeat' split
 all_goals simp
theorem mHearReset_len1 (e : DEnd) (x : DLetter) : (mHearReset e x).2.length ≤ 1 := by
 unfold mHearReset
 repeat' split
 all_goals simp
theorem mHear_len1 (e : DEnd) (x : DLetter) : (mHear e x).2.length ≤ 1 :=
 iteP (P := fun z : DEnd × List DLetter => z.2.length ≤ 1) (iteP (P := fun z : DEnd × List DLetter => z.2.length ≤ 1) (mHearHello_len1 e x) (iteP (P := fun z : DEnd × List DLetter => z.2.length ≤ 1) (mHearBack_len1 e x) (iteP (P := fun z : DEnd × List DLetter => z.2.length ≤ 1) (mHearJoin_len1 e x) (iteP (P := fun z : DEnd × List DLetter => z.2.length ≤ 1) (mHearJoinBack_len1 e x) (iteP (P := fun z : DEnd × List DLetter => z.2.length ≤ 1) (mHearJoinDone_len1 e x) (iteP (P := fun z : DEnd × List DLetter => z.2.length ≤ 1) (mHearJoinAck_len1 e x) (iteP (P := fun z : DEnd × List DLetter => z.2.length ≤ 1) (mHearAddr_len1 e x) (iteP (P := fun z : DEnd × List DLetter => z.2.length ≤ 1) (mHearEcho_len1 e x) (iteP (P := fun z : DEnd × List DLetter => z.2.length ≤ 1) (mHearGone_len1 e x) (iteP (P := fun z : DEnd × List DLetter => z.2.length ≤ 1) (mHearData_len1 e x) (iteP (P := fun z : DEnd × List DLetter => z.2.length ≤ 1) (mHearCame_len1 e x) (iteP (P := fun z : DEnd × List DLetter => z.2.length ≤ 1) (mHearReset_len1 e x) (Nat.zero_le _))))))))))))) (Nat.zero_le _)
/-- The letters of one turn: each is lost or heard. -/
def talkL (ev : Bool) : List DLetter → DCur → DEnd → DEnd → List DLetter → DCur × DEnd × DEnd × List DLetter
 | [], c, x, y, back => (c, x, y, back)
 | l :: r, c, x, y, back =>
  if mOnce c 8 = true then talkL ev r (mBelowC c 8) x y back
  else if ev = true then talkL ev r (mBelowC c 8) x (mHear y l).1 (back ++ (mHear y l).2)
  else talkL ev r (mBelowC c 8) (mHear x l).1 y (back ++ (mHear x l).2)
def talkT : Nat → Nat → DCur → DEnd → DEnd → List DLetter → DCur × DEnd × DEnd
 | 0, _, c, x, y, _ => (c, x, y)
 | k + 1, t, c, x, y, ls =>
  if ls.length = 0 then (c, x, y)
  else talkT k (t + 1) (talkL (t % 2 == 0) ls c x y []).1 (talkL (t % 2 == 0) ls c x y []).2.1 (talkL (t % 2 == 0) ls c x y []).2.2.1 (talkL (t % 2 == 0) ls c x y []).2.2.2
def mTalk (c : DCur) (x y : DEnd) (ls : List DLetter) : DCur × DEnd × DEnd := talkT 5 0 c x y ls
theorem talkL_len (ev : Bool) : ∀ (ls : List DLetter) (c : DCur) (x y : DEnd) (back : List DLetter), (talkL ev ls c x y back).2.2.2.length ≤ back.length + ls.length
 | [], _, _, _, _ => Nat.le_refl _
 | l :: r, c, x, y, back => by
  have h1 := mHear_len1 y l
  have h2 := mHear_len1 x l
  rw [talkL]
  repeat' split
  ·have := talkL_len ev r (mBelowC c 8) x y back
   simp only [List.length_cons]; omega
  ·have := talkL_len ev r (mBelowC c 8) x (mHear y l).1 (back ++ (mHear y l).2)
   simp only [List.length_cons, List.length_append] at *; omega
  ·have := talkL_len ev r (mBelowC c 8) (mHear x l).1 y (back ++ (mHear x l).2)
   simp only [List.length_cons, List.length_append] at *; omega
theorem mWasSent_no {o : DOut} (h : (mNextPiece o).2 = false) : mWasSent o = o := by
 unfold mWasSent
 have : (mNextPiece o).1.text.length = 0 := by
  unfold mNextPiece at h ⊢
  split
  ·rename_i hc; rw [if_pos hc] at h; cases h
  ·rfl
 rw [this]
 simp
end Go.Eng

namespace Go.Eng

theorem pw_iff {α : Type} {R : α → α → Prop} {l : List α} (d : α) : l.Pairwise R ↔ ∀ i j, i < j → j < l.length → R (l.getD i d) (l.getD j d) := by
 rw [List.pairwise_iff_getElem]
 constructor
 ·intro h i j hij hj
  have := h i j (by omega) hj hij
  simpa [List.getD, hj, (by omega : i < l.length)] using this
 ·intro h i j hi hj hij
  have := h i j hij hj
  simpa [List.getD, hj, hi] using this
theorem mem_iff_getD {α : Type} {P : α → Prop} {l : List α} (d : α) : (∀ x ∈ l, P x) ↔ ∀ i, i < l.length → P (l.getD i d) := by
 constructor
 ·intro h i hi
  have : l.getD i d = l[i] := by simp [List.getD, hi]
  rw [this]; exact h _ (List.getElem_mem hi)
 ·intro h x hx
  obtain ⟨i, hi, rfl⟩ := List.getElem_of_mem hx
  have := h i hi
  simpa [List.getD, hi] using this
theorem allI0_iff (p : Nat → Bool) (n : Nat) : allI p n 0 = true ↔ ∀ j, j < n → p j = true := by
 rw [allI_iff]
 exact ⟨fun h j hj => h j (Nat.zero_le _) (by omega), fun h j _ hj => h j (by omega)⟩
theorem findL_none {α : Type} (p : α → Bool) : ∀ (l : List α) (i : Nat), findL p l i < 0 ↔ ∀ x ∈ l, p x = false
 | [], i => by simp [findL]
 | x :: l, i => by
  rw [findL]
  have := findL_none p l (i + 1)
  split <;> rename_i h
  ·constructor
   ·intro h'; omega
   ·intro h'; have := h' x (by simp); rw [h] at this; cases this
  ·rw [this]; simp [h]
/-- The first that fits. -/
theorem findL_first {α : Type} (p : α → Bool) (d : α) : ∀ (l : List α) (i j : Nat), findL p l i = ((i + j : Nat) : Int) → j < l.length → p (l.getD j d) = true ∧ ∀ k, k < j → p (l.getD k d) = false
 | [], _, _, _, hj => by simp at hj
 | x :: l, i, j, h, hj => by
  rw [findL] at h
  split at h
  ·rename_i hp
   obtain rfl : j = 0 := by omega
   exact ⟨by simpa using hp, fun k hk => by omega⟩
  ·rename_i hp
   obtain ⟨k, rfl⟩ : ∃ k, j = k + 1 := by
    cases j with
    | zero =>
     rcases findL_bd p l (i + 1) with h1 | h1
     ·omega
     ·omega
    | succ k => exact ⟨k, rfl⟩
   have ih := findL_first p d l (i + 1) k (by omega) (by simpa using hj)
   refine ⟨by simpa using ih.1, fun m hm => ?_⟩
   cases m with
   | zero => simpa using hp
   | succ m => simpa using ih.2 m (by omega)
theorem findL_mem {α : Type} (p : α → Bool) (l : List α) (h : 0 ≤ findL p l 0) : ∃ j : Nat, findL p l 0 = (j : Int) ∧ j < l.length := by
 rcases findL_bd p l 0 with h1 | h1
 ·omega
 ·exact ⟨(findL p l 0).toNat, by omega, by omega⟩
theorem findL_is {α : Type} (p : α → Bool) (d : α) (l : List α) (j : Nat) (hj : j < l.length) : findL p l 0 = (j : Int) ↔ p (l.getD j d) = true ∧ ∀ k, k < j → p (l.getD k d) = false := by
 constructor
 ·intro h; exact findL_first p d l 0 j (by rw [h]; simp) hj
 ·rintro ⟨h1, h2⟩
  have := findL_at p l 0 j l[j] (List.getElem?_eq_getElem hj) (by simpa [List.getD, hj] using h1) fun k b hk hb => by
   obtain ⟨hk', rfl⟩ := List.getElem?_eq_some_iff.1 hb
   have := h2 k hk
   simpa [List.getD, hk'] using this
  simpa using this

/-! addresses -/
def AOk (l : List DAddr) : Prop := l.length ≤ 6 ∧ (∀ a ∈ l, (0 ≤ a.id ∧ a.id ≤ 255) ∧ (1 ≤ a.addr ∧ a.addr ≤ 65535)) ∧ l.Pairwise (fun a b => a.id < b.id ∧ a.addr ≠ b.addr)
theorem addrsOk_iff (l : List DAddr) : mAddrsOk l = true ↔ AOk l := by
 unfold AOk
 rw [pw_iff (ETy.zero .addr), mem_iff_getD (ETy.zero .addr)]
 constructor
 ·intro h
  have hr := addrs_rise h
  simp only [mAddrsOk, Bool.and_eq_true, decide_eq_true_eq] at h
  have h1 := (allI0_iff _ _).1 h.2
  refine ⟨h.1, fun i hi => ?_, fun i j hij hj => ?_⟩
  ·have := h1 i hi
   simp only [pAddr, pAddr0, Bool.and_eq_true, mIn_iff] at this
   exact ⟨this.1.1.1, this.1.1.2⟩
  ·refine ⟨?_, ?_⟩
   ·have := hr (j - i - 1) i (by omega)
    rw [show i + (j - i - 1) + 1 = j by omega] at this
    exact this
   ·have := h1 j hj
    simp only [pAddr, Bool.and_eq_true] at this
    have := (allI0_iff _ _).1 this.2 i hij
    simp only [pDiff, Bool.not_eq_true', beq_eq_false_iff_ne] at this
    exact fun h => this h.symm
 ·rintro ⟨h1, h2, h3⟩
  simp only [mAddrsOk, Bool.and_eq_true, decide_eq_true_eq]
  refine ⟨h1, (allI0_iff _ _).2 fun i hi => ?_⟩
  have h2 := h2 i hi
  simp only [pAddr, pAddr0, Bool.and_eq_true, mIn_iff, Bool.not_eq_true', Bool.and_eq_false_imp, decide_eq_true_eq, decide_eq_false_iff_not]
  refine ⟨⟨⟨h2.1, h2.2⟩, fun h0 => ?_⟩, (allI0_iff _ _).2 fun j hj => ?_⟩
  ·have := (h3 (i - 1) i (by omega) hi).1
   exact Int.not_le.2 this
  ·have := (h3 j i hj hi).2
   simp only [pDiff, Bool.not_eq_true', beq_eq_false_iff_ne]
   exact fun h => this h.symm
theorem addrAt_neg {l : List DAddr} {n : Int} : mAddrAt l n < 0 ↔ ∀ a ∈ l, a.id ≠ n := by
 rw [mAddrAt, findL_none]; simp
theorem AOk_sub {l m : List DAddr} (h : AOk l) (hs : m.Sublist l) : AOk m :=
 ⟨Nat.le_trans hs.length_le h.1, fun a ha => h.2.1 a (hs.subset ha), h.2.2.sublist hs⟩
theorem take_drop_sub {α : Type} (l : List α) (k : Nat) : (l.take k ++ l.drop (k + 1)).Sublist l := by
 rw [← List.eraseIdx_eq_take_drop_succ]; exact List.eraseIdx_sublist l k
theorem dropAddr_sub (l : List DAddr) (n : Int) : (mDropAddr l n).1.Sublist l := by
 unfold mDropAddr
 split
 ·exact List.Sublist.refl _
 ·exact take_drop_sub _ _
theorem AOk_told {l : List DAddr} (h : AOk l) (k : Nat) : AOk (l.set k { l.getD k (ETy.zero .addr) with told := true }) := by
 obtain ⟨h1, h2, h3⟩ := h
 rw [mem_iff_getD (ETy.zero .addr)] at h2
 rw [pw_iff (ETy.zero .addr)] at h3
 have hg : ∀ i, i < l.length → ((l.set k { l.getD k (ETy.zero .addr) with told := true }).getD i (ETy.zero .addr)).id = (l.getD i (ETy.zero .addr)).id ∧ ((l.set k { l.getD k (ETy.zero .addr) with told := true }).getD i (ETy.zero .addr)).addr = (l.getD i (ETy.zero .addr)).addr := by
  intro i hi
  by_cases hk : k = i
  ·subst hk; simp [List.getD, hi]
  ·simp [List.getD, List.getElem?_set, hk]
 refine ⟨by simpa using h1, (mem_iff_getD (ETy.zero .addr)).2 fun i hi => ?_, (pw_iff (ETy.zero .addr)).2 fun i j hij hj => ?_⟩
 ·have hi : i < l.length := by simpa using hi
  rw [(hg i hi).1, (hg i hi).2]; exact h2 i hi
 ·have hj : j < l.length := by simpa using hj
  rw [(hg i (by omega)).1, (hg i (by omega)).2, (hg j hj).1, (hg j hj).2]; exact h3 i j hij hj
/-! halves -/
def HOk (l : List DHalf) : Prop := l.length ≤ 4 ∧ (∀ h ∈ l, mRoadNum h.road = true ∧ mNum h.theirs = true ∧ mNum h.mine = true ∧ mNum h.give = true ∧ mNum h.take = true ∧ mNum h.til = true) ∧ l.Pairwise (fun a b => a.road ≠ b.road)
theorem halfsOk_iff (l : List DHalf) : mHalfsOk l = true ↔ HOk l := by
 unfold HOk
 rw [pw_iff (ETy.zero .half), mem_iff_getD (ETy.zero .half)]
 simp only [mHalfsOk, Bool.and_eq_true, decide_eq_true_eq]
 refine and_congr_right fun _ => ?_
 rw [allI0_iff]
 constructor
 ·intro h
  refine ⟨fun i hi => ?_, fun i j hij hj => ?_⟩
  ·have := h i hi
   simp only [pHalf, Bool.and_eq_true, decide_eq_true_eq] at this
   exact ⟨this.1.1.1.1.1.2, this.1.1.1.1.2, this.1.1.1.2, this.1.1.2, this.1.2, this.2⟩
  ·have := h j hj
   simp only [pHalf, Bool.and_eq_true, decide_eq_true_eq] at this
   have := ((findL_is (fun h : DHalf => decide (h.road = (gH l j).road)) (ETy.zero .half) l j hj).1 this.1.1.1.1.1.1).2 i hij
   simpa using this
 ·rintro ⟨h1, h2⟩ i hi
  have h1 := h1 i hi
  simp only [pHalf, Bool.and_eq_true, decide_eq_true_eq]
  refine ⟨⟨⟨⟨⟨⟨?_, h1.1⟩, h1.2.1⟩, h1.2.2.1⟩, h1.2.2.2.1⟩, h1.2.2.2.2.1⟩, h1.2.2.2.2.2⟩
  refine (findL_is _ (ETy.zero .half) l i hi).2 ⟨by simp, fun k hk => ?_⟩
  have := h2 k i hk hi
  simpa using this
theorem HOk_sub {l m : List DHalf} (h : HOk l) (hs : m.Sublist l) : HOk m :=
 ⟨Nat.le_trans hs.length_le h.1, fun a ha => h.2.1 a (hs.subset ha), h.2.2.sublist hs⟩
theorem dropHalf_sub (l : List DHalf) (r : DRoad) : (mDropHalf l r).Sublist l := by
 unfold mDropHalf
 split
 ·exact List.Sublist.refl _
 ·exact take_drop_sub _ _
theorem colL_sub {α : Type} (f : α → Nat → Option α) (hf : ∀ x i y, f x i = some y → y = x) : ∀ (l : List α) (i : Nat), (colL f l i).Sublist l
 | [], _ => List.Sublist.refl _
 | x :: l, i => by
  rw [colL]
  split
  ·rename_i y hy; rw [hf x i y hy]; exact (colL_sub f hf l (i + 1)).cons_cons x
  ·exact (colL_sub f hf l (i + 1)).cons x
theorem younger_sub (l : List DHalf) (n : Int) : (mYounger l n).Sublist l := by
 refine colL_sub _ (fun x i y h => ?_) l 0
 unfold fYoung at h
 split at h
 ·exact (Option.some.inj h).symm
 ·cases h
theorem halfAt_neg {l : List DHalf} {r : DRoad} : mHalfAt l r < 0 ↔ ∀ a ∈ l, a.road ≠ r := by
 rw [mHalfAt, findL_none]; simp
/-! ids that are over -/
def GOk (l : List Int) (t : List DAddr) : Prop := (∀ n ∈ l, (0 ≤ n ∧ n ≤ 255) ∧ ∀ a ∈ t, a.id ≠ n) ∧ l.Pairwise (· < ·)
theorem goneOk_iff (l : List Int) (t : List DAddr) : mGone l t = true ↔ GOk l t := by
 unfold GOk
 rw [pw_iff (ETy.zero .int), mem_iff_getD (ETy.zero .int), mGone, allI0_iff]
 constructor
 ·intro h
  refine ⟨fun i hi => ?_, fun i j hij hj => ?_⟩
  ·have := h i hi
   simp only [pGone, pId, Bool.and_eq_true, mIn_iff, Bool.not_eq_true', decide_eq_false_iff_not] at this
   exact ⟨this.2.1, addrAt_neg.1 (Int.not_le.1 this.2.2)⟩
  ·have hs : ∀ d i, i + d + 1 < l.length → l.getD i (ETy.zero .int) < l.getD (i + d + 1) (ETy.zero .int) := by
    have h1 : ∀ i, i + 1 < l.length → l.getD i (ETy.zero .int) < l.getD (i + 1) (ETy.zero .int) := fun i hi => by
     have := h (i + 1) hi
     simp only [pGone, pRise, Bool.and_eq_true, Bool.or_eq_true, decide_eq_true_eq, Bool.not_eq_true', decide_eq_false_iff_not, Nat.add_sub_cancel] at this
     rcases this.1 with h0 | h0
     ·omega
     ·exact Int.not_le.1 h0
    intro d
    induction d with
    | zero => intro i hi; exact h1 i hi
    | succ d ih => intro i hi; exact Int.lt_trans (ih i (by omega)) (h1 (i + d + 1) (by omega))
   have := hs (j - i - 1) i (by omega)
   rw [show i + (j - i - 1) + 1 = j by omega] at this
   exact this
 ·rintro ⟨h1, h2⟩ i hi
  simp only [pGone, pId, pRise, Bool.and_eq_true, mIn_iff, Bool.or_eq_true, decide_eq_true_eq, Bool.not_eq_true', decide_eq_false_iff_not]
  refine ⟨?_, (h1 i hi).1, Int.not_le.2 (addrAt_neg.2 (h1 i hi).2)⟩
  by_cases h0 : i = 0
  ·exact .inl h0
  ·exact .inr (Int.not_le.2 (h2 (i - 1) i (by omega) hi))
/-! paths -/
def SNum (s : DSub) : Prop := (1 ≤ s.state ∧ s.state ≤ 4) ∧ mRoadNum s.road = true ∧ mNum s.mine = true ∧ mNum s.theirs = true ∧ mNum s.give = true ∧ mNum s.take = true ∧ mNum s.tries = true
def SR (a b : DSub) : Prop := a.state ≠ 4 → b.state ≠ 4 → a.road ≠ b.road
def SOk (l : List DSub) : Prop := l.length ≤ 8 ∧ (∀ s ∈ l, SNum s) ∧ l.Pairwise SR
theorem subAt_neg {e : DEnd} {r : DRoad} : mSubAt e r < 0 ↔ ∀ s ∈ e.subs, s.state ≠ 4 → s.road ≠ r := by
 rw [mSubAt, findL_none]
 simp [pSub]
theorem subsOk_iff (e : DEnd) : (e.subs.length ≤ 8 ∧ allI (pSubOk e) e.subs.length 0 = true) ↔ SOk e.subs := by
 unfold SOk
 rw [pw_iff (ETy.zero .sub), mem_iff_getD (ETy.zero .sub)]
 refine and_congr_right fun _ => ?_
 rw [allI0_iff]
 constructor
 ·intro h
  refine ⟨fun i hi => ?_, fun i j hij hj => ?_⟩
  ·have := h i hi
   simp only [pSubOk, Bool.and_eq_true, mIn_iff] at this
   unfold SNum
   exact ⟨this.1.1.1.1.1.1.1, this.1.1.1.1.1.1.2, this.1.1.1.1.1.2, this.1.1.1.1.2, this.1.1.1.2, this.1.1.2, this.1.2⟩
  ·intro h1 h2 h3
   have := h j hj
   simp only [pSubOk, Bool.and_eq_true, Bool.or_eq_true, decide_eq_true_eq] at this
   rcases this.2 with h4 | h4
   ·exact h2 h4
   ·have := ((findL_is (pSub (gS e.subs j).road) (ETy.zero .sub) e.subs j hj).1 h4).2 i hij
    simp only [pSub, Bool.and_eq_false_imp, bne_iff_ne, decide_eq_false_iff_not] at this
    exact this h1 h3
 ·rintro ⟨h1, h2⟩ i hi
  have h1 := h1 i hi
  unfold SNum at h1
  simp only [pSubOk, Bool.and_eq_true, Bool.or_eq_true, decide_eq_true_eq, mIn_iff]
  refine ⟨⟨⟨⟨⟨⟨⟨h1.1, h1.2.1⟩, h1.2.2.1⟩, h1.2.2.2.1⟩, h1.2.2.2.2.1⟩, h1.2.2.2.2.2.1⟩, h1.2.2.2.2.2.2⟩, ?_⟩
  by_cases h4 : (gS e.subs i).state = 4
  ·exact .inl h4
  ·right
   refine (findL_is _ (ETy.zero .sub) e.subs i hi).2 ⟨by simp only [pSub, Bool.and_eq_true, bne_iff_ne, decide_eq_true_eq]; exact ⟨h4, trivial⟩, fun k hk => ?_⟩
   simp only [pSub, Bool.and_eq_false_imp, bne_iff_ne, decide_eq_false_iff_not]
   intro h5
   exact h2 k i hk hi h5 h4
theorem SOk_set {l : List DSub} (h : SOk l) (k : Nat) {s : DSub} (hr : s.road = (l.getD k (ETy.zero .sub)).road) (hn : k < l.length → SNum s) (h4 : (l.getD k (ETy.zero .sub)).state = 4 → s.state = 4) : SOk (l.set k s) := by
 obtain ⟨h1, h2, h3⟩ := h
 rw [mem_iff_getD (ETy.zero .sub)] at h2
 rw [pw_iff (ETy.zero .sub)] at h3
 have hg : ∀ i, i < l.length → (l.set k s).getD i (ETy.zero .sub) = if k = i then s else l.getD i (ETy.zero .sub) := by
  intro i hi
  by_cases hk : k = i
  ·subst hk; simp [List.getD, hi]
  ·simp [List.getD, List.getElem?_set, hk]
 refine ⟨by simpa using h1, (mem_iff_getD (ETy.zero .sub)).2 fun i hi => ?_, (pw_iff (ETy.zero .sub)).2 fun i j hij hj => ?_⟩
 ·have hi : i < l.length := by simpa using hi
  rw [hg i hi]
  split
  ·exact hn (by omega)
  ·exact h2 i hi
 ·have hj : j < l.length := by simpa using hj
  have := h3 i j hij hj
  rw [hg i (by omega), hg j hj]
  unfold SR at *
  split <;> split
  ·omega
  ·rename_i hk _; subst hk; rw [hr]; grind
  ·rename_i hk; subst hk; rw [hr]; grind
  ·exact this
theorem SOk_app {l : List DSub} (h : SOk l) {s : DSub} (hl : l.length < 8) (hn : SNum s) (hs : ∀ t ∈ l, t.state ≠ 4 → t.road ≠ s.road) : SOk (l ++ [s]) := by
 obtain ⟨h1, h2, h3⟩ := h
 refine ⟨by simp; omega, fun t ht => ?_, List.pairwise_append.2 ⟨h3, by simp, fun a ha b hb => ?_⟩⟩
 ·rcases List.mem_append.1 ht with ht | ht
  ·exact h2 t ht
  ·rw [List.mem_singleton.1 ht]; exact hn
 ·rw [List.mem_singleton.1 hb]
  exact fun h4 _ => hs a ha h4
theorem SOk_map {l : List DSub} (h : SOk l) (g : DSub → DSub) (hr : ∀ s, (g s).road = s.road) (hn : ∀ s ∈ l, SNum s → SNum (g s)) (h4 : ∀ s, s.state = 4 → (g s).state = 4) : SOk (l.map g) := by
 obtain ⟨h1, h2, h3⟩ := h
 refine ⟨by simpa using h1, fun t ht => ?_, List.pairwise_map.2 (h3.imp fun {a b} hab => ?_)⟩
 ·obtain ⟨s, hs, rfl⟩ := List.mem_map.1 ht
  exact hn s hs (h2 s hs)
 ·unfold SR at *
  rw [hr, hr]
  exact fun ha hb => hab (fun h => ha (h4 _ h)) (fun h => hb (h4 _ h))
theorem SOk_goneIf {l : List DSub} (h : SOk l) (p : DSub → Bool) : SOk (goneIf p l) := by
 rw [goneIf_eq]
 refine SOk_map h _ (fun s => ?_) (fun s _ hs => ?_) (fun s h4 => ?_)
 ·unfold goneG; split <;> rfl
 ·unfold goneG
  split
  ·obtain ⟨_, h2⟩ := hs; exact ⟨by simp, h2⟩
  ·exact hs
 ·unfold goneG; split
  ·rfl
  ·exact h4
/-! whole ends -/
structure EOk (e : DEnd) : Prop where
 side : 1 ≤ e.side ∧ e.side ≤ 2
 state : 0 ≤ e.state ∧ e.state ≤ 2
 pol : mPolicyOk e.policy = true
 own : AOk e.own
 far : AOk e.far
 halfs : HOk e.halfs
 bucket : mBucketOk e.bucket = true
 out : mOutOk e.out = true
 inn : mPiecesOk e.inn = true
 done : GOk e.done e.own
 over : GOk e.over e.far
 key : mNum e.key = true
 peer : mNum e.peer = true
 draw : mNum e.draw = true
 now : mNum e.now = true
 pick : mNum e.pick = true
 subs : SOk e.subs
theorem endOk_iff (e : DEnd) : mEndOk e = true ↔ EOk e := by
 have hs := subsOk_iff e
 have h1 := addrsOk_iff e.own
 have h2 := addrsOk_iff e.far
 have h3 := halfsOk_iff e.halfs
 have h4 := goneOk_iff e.done e.own
 have h5 := goneOk_iff e.over e.far
 constructor
 ·intro h
  obtain ⟨g1, g2, g3, g4⟩ := endOk_split h
  simp only [mEndOk0, mEndOk1, Bool.and_eq_true, mIn_iff] at g1 g2
  obtain ⟨⟨⟨⟨⟨⟨⟨⟨a1, a2⟩, a3⟩, a4⟩, a5⟩, a6⟩, a7⟩, a8⟩, a9⟩ := g1
  obtain ⟨⟨⟨⟨⟨⟨b1, b2⟩, b3⟩, b4⟩, b5⟩, b6⟩, b7⟩ := g2
  exact ⟨a1, a2, a3, h1.1 a4, h2.1 a5, h3.1 a6, a7, a8, a9, h4.1 b1, h5.1 b2, b3, b4, b5, b6, b7, hs.1 ⟨g3, g4⟩⟩
 ·rintro ⟨a1, a2, a3, a4, a5, a6, a7, a8, a9, b1, b2, b3, b4, b5, b6, b7, g⟩
  have g := hs.2 g
  simp only [mEndOk, mEndOk0, mEndOk1, Bool.and_eq_true, decide_eq_true_eq, mIn_iff]
  exact ⟨⟨⟨⟨⟨⟨⟨⟨⟨⟨⟨a1, a2⟩, a3⟩, h1.2 a4⟩, h2.2 a5⟩, h3.2 a6⟩, a7⟩, a8⟩, a9⟩, ⟨⟨⟨⟨⟨⟨h4.2 b1, h5.2 b2⟩, b3⟩, b4⟩, b5⟩, b6⟩, b7⟩⟩, g.1⟩, g.2⟩
end Go.Eng

namespace Go.Eng

/-- The bytes that arrived are few. -/
def DPieces.K (p : DPieces) : Prop := p.ready.length ≤ 200 ∧ ∀ x ∈ p.list, x.text.length ≤ 200
/-- A right end, the bytes that arrived few. -/
def DEnd.G (e : DEnd) : Prop := mEndOk e = true ∧ e.inn.K
theorem G_B {e : DEnd} (h : e.G) : e.B := by
 obtain ⟨h1, _⟩ := h
 have h2 := (endOk_iff e).1 h1
 have h3 := endOk_ids h1
 have h4 := (piecesOk_bd h2.inn).2
 have := h2.own.1; have := h2.far.1; have := h2.halfs.1; have := h2.subs.1
 unfold DEnd.B
 omega
theorem G_S {e : DEnd} (h : e.G) : e.inn.S := by
 have h2 := (endOk_iff e).1 h.1
 have h4 := (piecesOk_bd h2.inn).2
 exact ⟨Nat.le_trans h.2.1 (by decide), by omega, fun x hx => Nat.le_trans (h.2.2 x hx) (by decide)⟩
theorem room_num {e : DEnd} (h : mRoom e = true) : mNum e.draw = true ∧ mNum (e.draw + 2) = true ∧ mNum (e.draw + 4) = true := by
 have := room_bd h
 exact ⟨mNum_iff.2 (by omega), mNum_iff.2 (by omega), mNum_iff.2 (by omega)⟩
theorem num0 : mNum 0 = true := rfl
theorem road_num {r : DRoad} : mRoadNum r = true ↔ mNum r.own = true ∧ mNum r.far = true ∧ mNum r.port = true := by
 simp [mRoadNum, and_assoc]
theorem letter_nums {x : DLetter} (h : mLetterOk x = true) : mNum x.src = true ∧ mNum x.dst = true ∧ mNum x.port = true ∧ mNum x.key = true ∧ mNum x.nonce = true ∧ mNum x.give = true ∧ mNum x.id = true ∧ mNum x.pos = true := by
 simp only [mLetterOk, Bool.and_eq_true] at h
 have h := (allL_iff mNum (lNums x)).1 h.1.2
 refine ⟨h _ ?_, h _ ?_, h _ ?_, h _ ?_, h _ ?_, h _ ?_, h _ ?_, h _ ?_⟩ <;> simp [lNums]
theorem roadOf_num {x : DLetter} (h : mLetterOk x = true) : mRoadNum (mRoadOf x) = true := by
 have := letter_nums h
 exact road_num.2 ⟨this.2.1, this.1, this.2.2.1⟩
/-! what an act of one kind leaves -/
theorem subAt_road {e : DEnd} {r : DRoad} {k : Nat} (h : mSubAt e r = (k : Int)) : k < e.subs.length ∧ (gS e.subs k).road = r ∧ (gS e.subs k).state ≠ 4 := by
 have hb := mSubAt_bd e r
 have := mSubAt_road (e := e) (r := r) (by omega)
 rw [h] at this
 refine ⟨by omega, ?_, ?_⟩
 ·simpa [gSub, gS] using this.1
 ·simpa [gSub, gS] using this.2
theorem subAt_nat {e : DEnd} {r : DRoad} (h : 0 ≤ mSubAt e r) : ∃ k : Nat, mSubAt e r = (k : Int) ∧ k < e.subs.length := by
 have hb := mSubAt_bd e r
 exact ⟨(mSubAt e r).toNat, by omega, by omega⟩
theorem EOk_subs {e : DEnd} (h : EOk e) {l : List DSub} (hl : SOk l) : EOk { e with subs := l } :=
 ⟨h.side, h.state, h.pol, h.own, h.far, h.halfs, h.bucket, h.out, h.inn, h.done, h.over, h.key, h.peer, h.draw, h.now, h.pick, hl⟩
theorem EOk_out {e : DEnd} (h : EOk e) {o : DOut} (hl : mOutOk o = true) : EOk { e with out := o } :=
 ⟨h.side, h.state, h.pol, h.own, h.far, h.halfs, h.bucket, hl, h.inn, h.done, h.over, h.key, h.peer, h.draw, h.now, h.pick, h.subs⟩
theorem EOk_inn {e : DEnd} (h : EOk e) {o : DPieces} (hl : mPiecesOk o = true) : EOk { e with inn := o } :=
 ⟨h.side, h.state, h.pol, h.own, h.far, h.halfs, h.bucket, h.out, hl, h.done, h.over, h.key, h.peer, h.draw, h.now, h.pick, h.subs⟩
theorem SNum_get {l : List DSub} (h : SOk l) {k : Nat} (hk : k < l.length) : SNum (gS l k) := by
 have := (mem_iff_getD (P := SNum) (ETy.zero .sub)).1 h.2.1 k hk
 exact this
theorem outOk_iff (o : DOut) : mOutOk o = true ↔ (0 ≤ o.base ∧ o.base ≤ 1000000000) ∧ (1 ≤ o.room ∧ o.room ≤ 200) ∧ (o.text.length : Int) ≤ o.room ∧ o.base ≤ o.sent ∧ o.sent ≤ o.base + o.text.length := by
 refine ⟨outOk_bd, fun ⟨h1, h2, h3, h4, h5⟩ => ?_⟩
 simp only [mOutOk, Bool.and_eq_true, mNum_iff, mIn_iff, decide_eq_true_eq]
 rw [w64_id (by omega) (by omega)]
 exact ⟨⟨⟨h1, h2⟩, h3⟩, h4, h5⟩
/-! sending -/
theorem outOk_accept {o : DOut} (t : List UInt8) (h : mOutOk o = true) : mOutOk (mAccept o t).1 = true := by
 have h1 := (outOk_iff o).1 h
 unfold mAccept
 have hm1 : 0 ≤ (if o.room - (o.text.length : Int) < t.length then o.room - (o.text.length : Int) else (t.length : Int)) := by split <;> omega
 have hm2 : (if o.room - (o.text.length : Int) < t.length then o.room - (o.text.length : Int) else (t.length : Int)) ≤ o.room - o.text.length := by split <;> omega
 generalize (if o.room - (o.text.length : Int) < t.length then o.room - (o.text.length : Int) else (t.length : Int)) = m at *
 by_cases hc : mOutOk o = true ∧ o.base + (o.text.length : Int) + m ≤ 1000000000
 ·rw [if_pos hc]
  rw [outOk_iff]
  simp only [List.length_append, List.length_take]
  omega
 ·rw [if_neg hc]; exact h
theorem outOk_came {o : DOut} {u : Int} (hu : mNum u = true) (h : mOutOk o = true) : mOutOk (mCame o u) = true := by
 have hu := mNum_iff.1 hu
 unfold mCame
 by_cases hc : mOutOk o = true ∧ o.base < u ∧ u ≤ o.base + o.text.length
 ·rw [if_pos hc]
  have h := (outOk_iff o).1 h
  rw [outOk_iff]
  simp only [List.length_drop]
  refine ⟨hu, h.2.1, by omega, ?_, ?_⟩
  ·split <;> omega
  ·split <;> omega
 ·rw [if_neg hc]; exact h
theorem nextPiece_bd {o : DOut} (h : mOutOk o = true) : o.sent + ((mNextPiece o).1.text.length : Int) ≤ o.base + o.text.length := by
 have h1 := (outOk_iff o).1 h
 unfold mNextPiece
 split
 ·simp only [List.length_take, List.length_drop]; omega
 ·simp only [List.length_nil]; omega
theorem outOk_sent {o : DOut} (h : mOutOk o = true) : mOutOk (mWasSent o) = true := by
 have h1 := (outOk_iff o).1 h
 have h2 := nextPiece_bd h
 rw [outOk_iff]
 simp only [mWasSent]
 omega
theorem outOk_anew {o : DOut} (h : mOutOk o = true) : mOutOk (mAnew o) = true := by
 unfold mAnew
 rw [if_pos h]
 have h1 := (outOk_iff o).1 h
 rw [outOk_iff]
 simp only []
 omega
/-! bytes that arrived -/
def sumT : List DPiece → Nat
 | [] => 0
 | x :: l => x.text.length + sumT l
theorem sumT_le {B : Nat} : ∀ {l : List DPiece}, (∀ x ∈ l, x.text.length ≤ B) → sumT l ≤ l.length * B
 | [], _ => by simp [sumT]
 | x :: l, h => by
  have h1 := h x (by simp)
  have h2 := sumT_le (l := l) fun y hy => h y (by simp [hy])
  rw [sumT, List.length_cons, Nat.add_mul]
  omega
theorem sumT_mem : ∀ {l : List DPiece} {x : DPiece}, x ∈ l → x.text.length ≤ sumT l
 | y :: l, x, h => by
  rw [sumT]
  rcases List.mem_cons.1 h with rfl | h
  ·omega
  ·have := sumT_mem h; omega
theorem hdW_eq : ∀ (l : List DPiece) (n : Nat), n + sumT l ≤ 4611686018427387904 → hdW l (n : Int) = ((n + sumT l : Nat) : Int)
 | [], n, _ => by simp [hdW, sumT]
 | x :: l, n, h => by
  rw [sumT] at h
  rw [hdW, w64_id (by omega) (by omega), show (n : Int) + (x.text.length : Int) = ((n + x.text.length : Nat) : Int) by omega, hdW_eq l _ (by omega), sumT]
  congr 1
  omega
theorem heldOf_eq {p : DPieces} (h1 : p.ready.length ≤ 1073741824) (h2 : p.list.length ≤ 1000) (h3 : ∀ x ∈ p.list, x.text.length ≤ 1073741824) : mHeldOf p = ((p.ready.length + sumT p.list : Nat) : Int) := by
 have h4 := sumT_le h3
 have : p.list.length * 1073741824 ≤ 1000 * 1073741824 := Nat.mul_le_mul_right _ h2
 exact hdW_eq _ _ (by omega)
theorem piecesOk_iff {p : DPieces} (h1 : p.ready.length ≤ 1073741824) (h3 : ∀ x ∈ p.list, x.text.length ≤ 1073741824) :
  mPiecesOk p = true ↔ (0 ≤ p.read ∧ p.read ≤ 1000000000) ∧ p.list.length ≤ 20 ∧ ordL p.list (mNextOf p) = true ∧ p.ready.length + sumT p.list ≤ 200 := by
 simp only [mPiecesOk, Bool.and_eq_true, mNum_iff, decide_eq_true_eq, and_assoc]
 constructor
 ·rintro ⟨a, b, c, d, e⟩
  rw [heldOf_eq h1 (by omega) h3] at e
  exact ⟨a, b, c, d, by omega⟩
 ·rintro ⟨a, b, c, d, e⟩
  rw [heldOf_eq h1 (by omega) h3]
  exact ⟨a, b, c, d, by omega⟩
theorem K_of {p : DPieces} (h1 : p.ready.length ≤ 1073741824) (h3 : ∀ x ∈ p.list, x.text.length ≤ 1073741824) (h : mPiecesOk p = true) : p.K := by
 have h := ((piecesOk_iff h1 h3).1 h).2.2.2
 refine ⟨by omega, fun x hx => ?_⟩
 have := sumT_mem hx
 omega
theorem mMerge_len (a b : DPiece) : (mMerge a b).text.length ≤ a.text.length + b.text.length := by
 unfold mMerge
 split
 ·simp only [List.length_append, List.length_take, List.length_drop]; omega
 ·simp only [List.length_append, List.length_drop]; omega
theorem ppF_text : ∀ (l out : List DPiece) (x : DPiece) (b : Bool) (B : Nat), (∀ y ∈ l, y.text.length ≤ 200) → x.text.length ≤ B → (∀ y ∈ out, y.text.length ≤ B) → 200 ≤ B →
  (∀ y ∈ (ppF l out x b).1, y.text.length ≤ B + 200 * l.length) ∧ (ppF l out x b).2.1.text.length ≤ B + 200 * l.length
 | [], out, x, b, B, _, hx, ho, _ => by simpa [ppF] using ⟨ho, hx⟩
 | y :: l, out, x, b, B, hl, hx, ho, hB => by
  have hy := hl y (by simp)
  have hl' : ∀ y ∈ l, y.text.length ≤ 200 := fun z hz => hl z (by simp [hz])
  have ho1 : ∀ z ∈ out ++ [y], z.text.length ≤ B := fun z hz => by
   rcases List.mem_append.1 hz with h | h
   ·exact ho z h
   ·rw [List.mem_singleton.1 h]; omega
  have ho2 : ∀ z ∈ out ++ [x] ++ [y], z.text.length ≤ B := fun z hz => by
   rcases List.mem_append.1 hz with h | h
   ·rcases List.mem_append.1 h with h | h
    ·exact ho z h
    ·rw [List.mem_singleton.1 h]; omega
   ·rw [List.mem_singleton.1 h]; omega
  have mono : ∀ {s : List DPiece × DPiece × Bool} {C : Nat}, C ≤ B + 200 * (y :: l).length → ((∀ z ∈ s.1, z.text.length ≤ C) ∧ s.2.1.text.length ≤ C) → (∀ z ∈ s.1, z.text.length ≤ B + 200 * (y :: l).length) ∧ s.2.1.text.length ≤ B + 200 * (y :: l).length :=
   fun hC h => ⟨fun z hz => Nat.le_trans (h.1 z hz) hC, Nat.le_trans h.2 hC⟩
  have hC : B + 200 * l.length ≤ B + 200 * (y :: l).length := by simp only [List.length_cons]; omega
  rw [ppF]
  split
  ·exact mono hC (ppF_text l _ x b B hl' hx ho1 hB)
  ·split
   ·split
    ·exact mono hC (ppF_text l _ x true B hl' hx ho1 hB)
    ·exact mono hC (ppF_text l _ x true B hl' hx ho2 hB)
   ·have hm := mMerge_len y x
    exact mono (C := B + 200 + 200 * l.length) (by simp only [List.length_cons]; omega) (ppF_text l _ _ b (B + 200) hl' (by omega) (fun z hz => Nat.le_trans (ho z hz) (by omega)) (by omega))
theorem ppEnd_text {p : DPieces} {pos : Int} {t : List UInt8} (h : p.K) (hl : p.list.length ≤ 20) (ht : t.length ≤ 200) : ∀ y ∈ ppEnd (ppF p.list [] (ppX p pos t) false), y.text.length ≤ 4200 := by
 have hx : (ppX p pos t).text.length ≤ 200 := by
  unfold ppX
  split
  ·simp only [List.length_drop]; omega
  ·exact ht
 have := ppF_text p.list [] (ppX p pos t) false 200 h.2 hx (by simp) (by omega)
 unfold ppEnd
 split
 ·intro y hy; have := this.1 y hy; omega
 ·intro y hy
  rcases List.mem_append.1 hy with hy | hy
  ·have := this.1 y hy; omega
  ·rw [List.mem_singleton.1 hy]; omega
theorem K_put {p : DPieces} (pos : Int) (t : List UInt8) (h : p.K) (ho : mPiecesOk p = true) : (mPutPiece p pos t).K := by
 unfold mPutPiece
 split
 ·rename_i hc
  split
  ·rename_i hk
   have ht : t.length ≤ 200 := by have := mIn_iff.1 hc.2.2.1; omega
   have hE := ppEnd_text (pos := pos) (t := t) h (piecesOk_bd ho).2 ht
   refine K_of ?_ ?_ hk
   ·unfold ppOut
    split
    ·simp only [List.length_append]
     have h1 := h.1
     have : ∀ l : List DPiece, (∀ y ∈ l, y.text.length ≤ 4200) → (l.getD 0 (ETy.zero .piece)).text.length ≤ 4200 := fun l hl => TB_get0 hl
     have := this _ hE
     omega
    ·have := h.1; simp only []; omega
   ·unfold ppOut
    split
    ·intro y hy; exact Nat.le_trans (hE y (List.mem_of_mem_drop hy)) (by decide)
    ·intro y hy; exact Nat.le_trans (hE y hy) (by decide)
  ·exact h
 ·exact h
theorem piecesOk_put {p : DPieces} (pos : Int) (t : List UInt8) (ho : mPiecesOk p = true) : mPiecesOk (mPutPiece p pos t) = true := by
 unfold mPutPiece
 split
 ·split
  ·rename_i hk; exact hk
  ·exact ho
 ·exact ho
theorem take_bd {p : DPieces} {n : Int} (hn : 0 ≤ n) : 0 ≤ mTakeN p n ∧ mTakeN p n ≤ p.ready.length := by
 unfold mTakeN; split <;> omega
theorem K_take {p : DPieces} (n : Int) (h : p.K) : (mTakeReady p n).1.K := by
 unfold mTakeReady
 split
 ·refine ⟨?_, h.2⟩
  have := h.1
  simp only [List.length_drop]; omega
 ·exact h
theorem next_take {p : DPieces} {n : Int} (h : p.K) (hc : mPiecesOk p = true ∧ 0 ≤ n ∧ p.read + mTakeN p n ≤ 1000000000) : mNextOf { p with read := p.read + mTakeN p n, ready := p.ready.drop (mTakeN p n).toNat } = mNextOf p := by
 have h1 := take_bd (p := p) hc.2.1
 have h2 := h.1
 have h3 := (piecesOk_bd hc.1).1
 unfold mNextOf
 simp only [List.length_drop]
 rw [w64_id (by omega) (by omega), w64_id (by omega) (by omega)]
 omega
theorem piecesOk_take {p : DPieces} (n : Int) (h : p.K) (ho : mPiecesOk p = true) : mPiecesOk (mTakeReady p n).1 = true := by
 unfold mTakeReady
 split
 ·rename_i hc
  have h0 := h.1
  have h1 := (piecesOk_iff (Nat.le_trans h.1 (by decide)) (fun x hx => Nat.le_trans (h.2 x hx) (by decide))).1 ho
  have h2 := take_bd (p := p) hc.2.1
  show mPiecesOk { p with read := p.read + mTakeN p n, ready := p.ready.drop (mTakeN p n).toNat } = true
  refine (piecesOk_iff (p := { p with read := p.read + mTakeN p n, ready := p.ready.drop (mTakeN p n).toNat }) (by simp only [List.length_drop]; omega) (fun x hx => Nat.le_trans (h.2 x hx) (by decide))).2 ?_
  rw [next_take h hc]
  simp only [List.length_drop]
  exact ⟨by omega, h1.2.1, h1.2.2.1, by omega⟩
 ·exact ho
/-! the acts -/
theorem G_of {e : DEnd} (h1 : EOk e) (h2 : e.inn.K) : e.G := ⟨(endOk_iff e).2 h1, h2⟩
theorem G_E {e : DEnd} (h : e.G) : EOk e := (endOk_iff e).1 h.1
theorem mHearHello_2 {e : DEnd} (x : DLetter) (h : e.state = 2) : mHearHello e x = (e, []) := by
 unfold mHearHello
 rw [if_neg (by omega)]
theorem mHearBack_2 {e : DEnd} (x : DLetter) (h : e.state = 2) : mHearBack e x = (e, []) := by
 unfold mHearBack
 rw [if_neg (by omega)]
theorem mJoin_G {e : DEnd} (r : DRoad) (p : Bool) (h : e.G) : (mJoin e r p).1.G := by
 unfold mJoin
 split
 ·rename_i hc
  obtain ⟨_, _, h3, h4, h5, h6, h7, h8⟩ := hc
  have he := G_E h
  have hr := room_num h8
  refine G_of ⟨he.side, he.state, he.pol, he.own, he.far, he.halfs, he.bucket, he.out, he.inn, he.done, he.over, he.key, he.peer, hr.2.2, he.now, he.pick, ?_⟩ h.2
  exact SOk_app he.subs h7 ⟨by simp, h3, hr.1, num0, num0, hr.2.1, num0⟩ (subAt_neg.1 h4)
 ·exact h
theorem takeOne_ok {b : DBucket} (h : mBucketOk b = true) : mBucketOk (mTakeOne b).1 = true := by
 unfold mTakeOne
 split
 ·have := bucketOk_bd h
  simp only [mBucketOk, Bool.and_eq_true, mIn_iff]
  omega
 ·exact h
theorem filled_ok {b : DBucket} (h : mBucketOk b = true) : mBucketOk (mFilled b) = true := by
 unfold mFilled
 rw [if_pos h]
 have := bucketOk_bd h
 simp only [mBucketOk, Bool.and_eq_true, mIn_iff]
 split <;> omega
theorem putHalf_ok {l : List DHalf} (h : HOk l) (x : DHalf) : HOk (mPutHalf l x).1 := by
 unfold mPutHalf
 split
 ·rename_i hk; exact (halfsOk_iff _).1 hk
 ·exact h
theorem putAddr_ok {l : List DAddr} (h : AOk l) (x : DAddr) : AOk (mPutAddr l x).1 := by
 unfold mPutAddr
 split
 ·rename_i hk; exact (addrsOk_iff _).1 hk
 ·exact h
theorem mHearJoin_G {e : DEnd} (x : DLetter) (h : e.G) : (mHearJoin e x).1.G := by
 unfold mHearJoin
 split
 ·rename_i hc
  have he := G_E h
  have hr := room_num hc.1.2.2.2.2.2.2.2.1
  refine G_of ⟨he.side, he.state, he.pol, he.own, he.far, putHalf_ok he.halfs _, takeOne_ok he.bucket, he.out, he.inn, he.done, he.over, he.key, he.peer, ?_, he.now, he.pick, he.subs⟩ h.2
  show mNum (mJoinDraw e x) = true
  unfold mJoinDraw
  split
  ·exact hr.1
  ·exact hr.2.2
 ·exact h
theorem setSub_G {e : DEnd} (h : e.G) {k : Int} (hk : 0 ≤ k) (f : DSub → DSub) (hr : ∀ s, (f s).road = s.road) (hn : k < e.subs.length → SNum (gSub e k) → SNum (f (gSub e k))) (h4 : (gSub e k).state = 4 → (f (gSub e k)).state = 4) : (setSub e k f).G := by
 have he := G_E h
 refine G_of (EOk_subs he (SOk_set he.subs k.toNat (hr _) (fun hl => ?_) h4)) h.2
 exact hn (by omega) (SNum_get he.subs hl)
theorem mHearJoinBack_G {e : DEnd} (x : DLetter) (h : e.G) : (mHearJoinBack e x).1.G := by
 unfold mHearJoinBack
 split
 ·rename_i hc
  obtain ⟨_, h2, h3, h4, h5, h6⟩ := hc
  have hx := letter_nums h2
  refine setSub_G h h4 _ (fun s => rfl) (fun _ hs => ?_) (fun h => by omega)
  obtain ⟨g1, g2, g3, g4, g5, g6, g7⟩ := hs
  exact ⟨by simp, g2, g3, hx.2.2.2.2.1, hx.2.2.2.2.2.1, g6, num0⟩
 ·exact h
theorem gone_num {s : DSub} (h : SNum s) : SNum { s with state := 4 } := by
 obtain ⟨_, h2⟩ := h
 exact ⟨by simp, h2⟩
theorem SOk_goneAt {l : List DSub} (h : SOk l) (k : Int) : SOk (mGoneAt l k) := by
 unfold mGoneAt
 split
 ·exact SOk_set h _ rfl (fun hl => gone_num (SNum_get h hl)) (fun _ => rfl)
 ·exact h
theorem goneAt_free {e : DEnd} (h : SOk e.subs) (r : DRoad) : ∀ s ∈ mGoneAt e.subs (mSubAt e r), s.state ≠ 4 → s.road ≠ r := by
 unfold mGoneAt
 split
 ·rename_i h0
  obtain ⟨k, hk, hl⟩ := subAt_nat h0
  have hs := subAt_road hk
  rw [hk, Int.toNat_natCast]
  have hp := (pw_iff (ETy.zero .sub)).1 h.2.2
  refine (mem_iff_getD (P := fun s : DSub => s.state ≠ 4 → s.road ≠ r) (ETy.zero .sub)).2 fun i hi => ?_
  have hi : i < e.subs.length := by simpa using hi
  by_cases hki : k = i
  ·subst hki
   rw [set_get _ _ _ _ hl]
   intro h; exact absurd rfl h
  ·have hg : (e.subs.set k { e.subs.getD k (ETy.zero .sub) with state := 4 }).getD i (ETy.zero .sub) = gS e.subs i := by simp [List.getD, List.getElem?_set, hki]
   rw [hg]
   intro h4 hr
   rcases Nat.lt_or_ge k i with hlt | hge
   ·exact hp k i hlt hi hs.2.2 h4 (hs.2.1.trans hr.symm)
   ·exact hp i k (by omega) hl h4 hs.2.2 (hr.trans hs.2.1.symm)
 ·rename_i h0
  exact subAt_neg.1 (by omega)
theorem half_get {l : List DHalf} (h : HOk l) {r : DRoad} (hk : 0 ≤ mHalfAt l r) : ∃ k : Nat, mHalfAt l r = (k : Int) ∧ k < l.length ∧ (gH l k).road = r ∧ mNum (gH l k).theirs = true ∧ mNum (gH l k).mine = true ∧ mNum (gH l k).give = true ∧ mNum (gH l k).take = true ∧ mNum (gH l k).til = true := by
 have hb := mHalfAt_bd l r
 have hr := mHalfAt_road hk
 have hl : (mHalfAt l r).toNat < l.length := by omega
 have hn := (mem_iff_getD (ETy.zero .half)).1 h.2.1 _ hl
 exact ⟨(mHalfAt l r).toNat, by omega, hl, hr, hn.2⟩
theorem mHearJoinDone_G {e : DEnd} (x : DLetter) (h : e.G) : (mHearJoinDone e x).1.G := by
 unfold mHearJoinDone
 split
 ·rename_i hc
  obtain ⟨_, h2, _⟩ := hc
  split
  ·rename_i hd
   have he := G_E h
   obtain ⟨k, hk, hl, g1, g2, g3, g4, g5, _⟩ := half_get he.halfs hd.1
   refine G_of ⟨he.side, he.state, he.pol, he.own, he.far, HOk_sub he.halfs (dropHalf_sub _ _), he.bucket, he.out, he.inn, he.done, he.over, he.key, he.peer, he.draw, he.now, he.pick, ?_⟩ h.2
   refine SOk_app (SOk_goneAt he.subs _) (by rw [mGoneAt_len]; exact hd.2.1) ⟨by simp, roadOf_num h2, ?_, ?_, ?_, ?_, num0⟩ (goneAt_free he.subs _)
   all_goals (simp only [gHalf, hk, Int.toNat_natCast]; assumption)
  ·split
   ·exact h
   ·exact h
 ·exact h
theorem mHearJoinAck_G {e : DEnd} (x : DLetter) (h : e.G) : (mHearJoinAck e x).1.G := by
 unfold mHearJoinAck
 split
 ·rename_i hc
  refine setSub_G h hc.2.2.1 _ (fun s => rfl) (fun _ hs => ?_) (fun h => by omega)
  obtain ⟨_, hs⟩ := hs
  exact ⟨by simp, hs⟩
 ·exact h
theorem putAddr_mem {l : List DAddr} {a b : DAddr} (h : b ∈ (mPutAddr l a).1) : b = a ∨ b ∈ l := by
 have : ∀ b ∈ mPutL l a, b = a ∨ b ∈ l := by
  intro b hb
  unfold mPutL at hb
  split at hb
  ·rcases List.mem_or_eq_of_mem_set hb with h | h
   ·exact .inr h
   ·exact .inl h
  ·rcases List.mem_append.1 hb with hb | hb
   ·rcases List.mem_append.1 hb with hb | hb
    ·exact .inr (List.mem_of_mem_take hb)
    ·exact .inl (List.mem_singleton.1 hb)
   ·exact .inr (List.mem_of_mem_drop hb)
 unfold mPutAddr at h
 split at h
 ·exact this b h
 ·exact .inr h
theorem has_iff {l : List Int} {n : Int} : mHas l n = false ↔ n ∉ l := by
 rw [mHas, Bool.eq_false_iff, ne_eq, anyL_iff]
 simp
theorem GOk_put {l : List Int} {t : List DAddr} (h : GOk l t) {a : DAddr} (hn : a.id ∉ l) : GOk l (mPutAddr t a).1 := by
 refine ⟨fun n hl => ⟨(h.1 n hl).1, fun b hb => ?_⟩, h.2⟩
 rcases putAddr_mem hb with rfl | hb
 ·intro he; exact hn (he ▸ hl)
 ·exact (h.1 n hl).2 b hb
theorem mHearAddr_G {e : DEnd} (x : DLetter) (h : e.G) : (mHearAddr e x).1.G := by
 unfold mHearAddr
 split
 ·rename_i hc
  have he := G_E h
  refine G_of ⟨he.side, he.state, he.pol, he.own, putAddr_ok he.far _, he.halfs, he.bucket, he.out, he.inn, he.done, GOk_put he.over ?_, he.key, he.peer, he.draw, he.now, he.pick, he.subs⟩ h.2
  exact has_iff.1 hc.2.2.2.2.1
 ·exact h
theorem mAddOwn_G {e : DEnd} (a : DAddr) (h : e.G) : (mAddOwn e a).1.G := by
 unfold mAddOwn
 split
 ·rename_i hc
  have he := G_E h
  refine G_of ⟨he.side, he.state, he.pol, putAddr_ok he.own _, he.far, he.halfs, he.bucket, he.out, he.inn, GOk_put he.done ?_, he.over, he.key, he.peer, he.draw, he.now, he.pick, he.subs⟩ h.2
  exact has_iff.1 hc.2.2
 ·exact h
theorem told_mem {l : List DAddr} {k : Nat} {b : DAddr} (h : b ∈ l.set k { l.getD k (ETy.zero .addr) with told := true }) : ∃ a ∈ l, a.id = b.id ∧ a.addr = b.addr := by
 rcases Nat.lt_or_ge k l.length with hk | hk
 ·rcases List.mem_or_eq_of_mem_set h with h | h
  ·exact ⟨b, h, rfl, rfl⟩
  ·subst h
   exact ⟨l[k], List.getElem_mem hk, by simp [List.getD, hk], by simp [List.getD, hk]⟩
 ·rw [List.set_eq_of_length_le hk] at h
  exact ⟨b, h, rfl, rfl⟩
theorem mHearEcho_G {e : DEnd} (x : DLetter) (h : e.G) : (mHearEcho e x).1.G := by
 unfold mHearEcho
 split
 ·have he := G_E h
  refine G_of ⟨he.side, he.state, he.pol, AOk_told he.own _, he.far, he.halfs, he.bucket, he.out, he.inn, ⟨fun n hn => ⟨(he.done.1 n hn).1, fun b hb => ?_⟩, he.done.2⟩, he.over, he.key, he.peer, he.draw, he.now, he.pick, he.subs⟩ h.2
  obtain ⟨a, ha, hid, _⟩ := told_mem hb
  rw [← hid]
  exact (he.done.1 n hn).2 a ha
 ·exact h
theorem mPut_mem {l : List Int} {n m : Int} : m ∈ mPut l n ↔ m = n ∨ m ∈ l := by
 rw [← putR_mPut]
 induction l with
 | nil => simp [putR]
 | cons x l ih =>
  rw [putR]
  split
  ·rename_i h
   rw [putR_true]
   split
   ·simp
   ·have : n = x := by omega
    subst this; simp
  ·simp only [List.mem_cons, ih]; grind
theorem mPut_rise {l : List Int} {n : Int} (h : l.Pairwise (· < ·)) : (mPut l n).Pairwise (· < ·) := by
 rw [← putR_mPut]
 induction l with
 | nil => simp [putR]
 | cons x l ih =>
  have h1 := List.pairwise_cons.1 h
  rw [putR]
  split
  ·rw [putR_true]
   split
   ·refine List.pairwise_cons.2 ⟨fun y hy => ?_, h⟩
    rcases List.mem_cons.1 hy with rfl | hy
    ·assumption
    ·have := h1.1 y hy; omega
   ·exact h
  ·rename_i h2
   refine List.pairwise_cons.2 ⟨fun y hy => ?_, ih h1.2⟩
   rw [putR_mPut, mPut_mem] at hy
   rcases hy with rfl | hy
   ·simp at h2; omega
   ·exact h1.1 y hy
theorem dropAddr_no {l : List DAddr} (h : AOk l) (n : Int) : ∀ a ∈ (mDropAddr l n).1, a.id ≠ n := by
 unfold mDropAddr
 split
 ·rename_i h0; exact addrAt_neg.1 h0
 ·rename_i h0
  obtain ⟨j, hj, hl⟩ := findL_mem (fun a : DAddr => a.id == n) l (by unfold mAddrAt at h0; omega)
  have hj' : mAddrAt l n = (j : Int) := hj
  have hf := (findL_is (fun a : DAddr => a.id == n) (ETy.zero .addr) l j hl).1 hj
  have hp := (pw_iff (ETy.zero .addr)).1 h.2.2
  rw [hj', Int.toNat_natCast]
  show ∀ a ∈ l.take j ++ l.drop (j + 1), a.id ≠ n
  intro a ha
  rcases List.mem_append.1 ha with ha | ha
  ·obtain ⟨i, hi, rfl⟩ := List.getElem_of_mem ha
   have hi2 : i < j := by rw [List.length_take] at hi; omega
   have := hf.2 i hi2
   rw [List.getElem_take]
   simpa [List.getD, (by omega : i < l.length)] using this
  ·obtain ⟨i, hi, rfl⟩ := List.getElem_of_mem ha
   have hi2 : j + 1 + i < l.length := by rw [List.length_drop] at hi; omega
   have := (hp j (j + 1 + i) (by omega) hi2).1
   have h3 := hf.1
   rw [List.getElem_drop]
   simp only [beq_iff_eq] at h3
   have h4 : l.getD (j + 1 + i) (ETy.zero .addr) = l[j + 1 + i] := by simp [List.getD, hi2]
   rw [h4, h3] at this
   omega
theorem mHearGone_G {e : DEnd} (x : DLetter) (h : e.G) : (mHearGone e x).1.G := by
 unfold mHearGone
 split
 ·rename_i hc
  have he := G_E h
  refine G_of ⟨he.side, he.state, he.pol, he.own, AOk_sub he.far (dropAddr_sub _ _), he.halfs, he.bucket, he.out, he.inn, he.done, ⟨fun n hn => ?_, mPut_rise he.over.2⟩, he.key, he.peer, he.draw, he.now, he.pick, SOk_goneIf he.subs _⟩ h.2
  rcases mPut_mem.1 hn with rfl | hn
  ·obtain ⟨j, hj, hl⟩ := findL_mem (fun a : DAddr => a.id == x.id) e.far hc.2.2.2
   have hf := (findL_is (fun a : DAddr => a.id == x.id) (ETy.zero .addr) e.far j hl).1 hj
   have h2 := ((mem_iff_getD (ETy.zero .addr)).1 he.far.2.1 j hl).1
   have h3 := hf.1
   simp only [beq_iff_eq] at h3
   rw [h3] at h2
   exact ⟨h2, dropAddr_no he.far _⟩
  ·exact ⟨(he.over.1 n hn).1, fun a ha => (he.over.1 n hn).2 a ((dropAddr_sub _ _).subset ha)⟩
 ·exact h
theorem mHearData_G {e : DEnd} (x : DLetter) (h : e.G) : (mHearData e x).1.G := by
 unfold mHearData
 repeat' split
 ·exact h
 ·have he := G_E h
  exact G_of (EOk_inn he (piecesOk_put _ _ he.inn)) (K_put _ _ h.2 he.inn)
 ·exact h
theorem mHearCame_G {e : DEnd} (x : DLetter) (h : e.G) : (mHearCame e x).1.G := by
 unfold mHearCame
 split
 ·rename_i hc
  have he := G_E h
  exact G_of (EOk_out he (outOk_came (letter_nums hc.2.1).2.2.2.2.2.2.2 he.out)) h.2
 ·exact h
theorem mHearReset_G {e : DEnd} (x : DLetter) (h : e.G) : (mHearReset e x).1.G := by
 unfold mHearReset
 split
 ·rename_i hc
  exact setSub_G h hc.2.2 _ (fun s => rfl) (fun _ hs => gone_num hs) (fun h => rfl)
 ·exact h
theorem mHear_G {e : DEnd} (x : DLetter) (h : e.G) (h2 : e.state = 2) : (mHear e x).1.G := by
 have P := @iteP (DEnd × List DLetter) (fun z => z.1.G)
 unfold mHear
 refine P (P ?_ (P ?_ (P (mHearJoin_G x h) (P (mHearJoinBack_G x h) (P (mHearJoinDone_G x h) (P (mHearJoinAck_G x h) (P (mHearAddr_G x h) (P (mHearEcho_G x h) (P (mHearGone_G x h) (P (mHearData_G x h) (P (mHearCame_G x h) (P (mHearReset_G x h) h)))))))))))) h
 ·rw [mHearHello_2 x h2]; exact h
 ·rw [mHearBack_2 x h2]; exact h
theorem mWrite_G {e : DEnd} (t : List UInt8) (h : e.G) : (mWrite e t).1.G := by
 unfold mWrite
 split
 ·have he := G_E h
  exact G_of (EOk_out he (outOk_accept t he.out)) h.2
 ·exact h
theorem mRead_G {e : DEnd} (n : Int) (h : e.G) : (mRead e n).1.G := by
 unfold mRead
 split
 ·have he := G_E h
  exact G_of (EOk_inn he (piecesOk_take n h.2 he.inn)) (K_take n h.2)
 ·exact h
theorem mPush_G {e : DEnd} (h : e.G) : (mPush e).1.G := by
 unfold mPush
 split
 ·have he := G_E h
  have hp := mNum_iff.1 he.pick
  refine G_of ⟨he.side, he.state, he.pol, he.own, he.far, he.halfs, he.bucket, outOk_sent he.out, he.inn, he.done, he.over, he.key, he.peer, he.draw, he.now, ?_, he.subs⟩ h.2
  refine mNum_iff.2 ?_
  show 0 ≤ (if e.pick ≥ 1000000000 then 0 else e.pick + 1) ∧ (if e.pick ≥ 1000000000 then 0 else e.pick + 1) ≤ 1000000000
  split <;> omega
 ·exact h
theorem pushN_G {e : DEnd} (h : e.G) : ∀ n, (pushN n e).1.G
 | 0 => h
 | n + 1 => mPush_G (pushN_G h n)
theorem mWriteAll_G {e : DEnd} (t : List UInt8) (h : e.G) : (mWriteAll e t).1.G := pushN_G (mWrite_G t h) 3
theorem mTick1_G {e : DEnd} (h : e.G) (hn : e.now < 1000000000) (ht : mTired e = false) : (mTick1 e).G := by
 have he := G_E h
 have hnow := mNum_iff.1 he.now
 have h0 : EOk (mTick0 e) := ⟨he.side, he.state, he.pol, he.own, he.far, HOk_sub he.halfs (younger_sub _ _), filled_ok he.bucket, outOk_anew he.out, he.inn, he.done, he.over, he.key, he.peer, he.draw, mNum_iff.2 (by simp only [mTick0]; omega), he.pick, he.subs⟩
 unfold mTick1
 split
 ·refine G_of (EOk_subs h0 ?_) h.2
  refine SOk_map he.subs tickG (fun s => ?_) (fun s hs hn => ?_) (fun s h4 => ?_)
  ·unfold tickG; repeat' split
   all_goals rfl
  ·obtain ⟨j, hj, rfl⟩ := List.getElem_of_mem hs
   have htd := tired_no ht j _ (List.getElem?_eq_getElem hj)
   obtain ⟨g1, g2, g3, g4, g5, g6, g7⟩ := hn
   have g7 := mNum_iff.1 g7
   unfold tickG
   repeat' split
   ·exact ⟨g1, g2, g3, g4, g5, g6, mNum_iff.2 g7⟩
   ·exact ⟨by simp, g2, g3, g4, g5, g6, mNum_iff.2 (by simp only []; omega)⟩
   ·exact ⟨g1, g2, g3, g4, g5, g6, mNum_iff.2 (by simp only []; omega)⟩
  ·unfold tickG
   rw [if_pos (by omega)]; exact h4
 ·exact G_of h0 h.2
theorem mTick_G {e : DEnd} (h : e.G) : (mTick e).1.G := by
 unfold mTick
 split
 ·rename_i hc
  exact pushN_G (mTick1_G h hc.2.1 hc.2.2) 3
 ·exact h
theorem mgL_G (e : DEnd) : ∀ (l : List DRoad) (o : DEnd) (acc : List DLetter), o.G → (mgL e l o acc).1.G
 | [], _, _, h => h
 | r :: l, o, acc, h => mgL_G e l _ _ (mJoin_G r _ h)
theorem mManage_G {e : DEnd} (h : e.G) : (mManage e).1.G := by
 unfold mManage
 split
 ·exact mgL_G _ _ _ _ h
 ·exact h
end Go.Eng

namespace Go.Eng

/-- What never changes of an open end. -/
def Same (e o : DEnd) : Prop := o.side = e.side ∧ o.state = e.state ∧ o.key = e.key ∧ o.peer = e.peer ∧ o.policy = e.policy
theorem Same.refl (e : DEnd) : Same e e := ⟨rfl, rfl, rfl, rfl, rfl⟩
theorem Same.trans {a b c : DEnd} (h : Same a b) (g : Same b c) : Same a c :=
 ⟨g.1.trans h.1, g.2.1.trans h.2.1, g.2.2.1.trans h.2.2.1, g.2.2.2.1.trans h.2.2.2.1, g.2.2.2.2.trans h.2.2.2.2⟩
theorem mJoin_same (e : DEnd) (r : DRoad) (p : Bool) : Same e (mJoin e r p).1 := by
 unfold mJoin; repeat' split
 all_goals exact ⟨rfl, rfl, rfl, rfl, rfl⟩
theorem mHearJoin_same (e : DEnd) (x : DLetter) : Same e (mHearJoin e x).1 := by
 unfold mHearJoin; repeat' split
 all_goals exact ⟨rfl, rfl, rfl, rfl, rfl⟩
theorem mHearJoinBack_same (e : DEnd) (x : DLetter) : Same e (mHearJoinBack e x).1 := by
 unfold mHearJoinBack; repeat' split
 all_goals exact ⟨rfl, rfl, rfl, rfl, rfl⟩
theorem mHearJoinDone_same (e : DEnd) (x : DLetter) : Same e (mHearJoinDone e x).1 := by
 unfold mHearJoinDone; repeat' split
 all_goals exact ⟨rfl, rfl, rfl, rfl, rfl⟩
theorem mHearJoinAck_same (e : DEnd) (x : DLetter) : Same e (mHearJoinAck e x).1 := by
 unfold mHearJoinAck; repeat' split
 all_goals exact ⟨rfl, rfl, rfl, rfl, rfl⟩
theorem mHearAddr_same (e : DEnd) (x : DLetter) : Same e (mHearAddr e x).1 := by
 unfold mHearAddr; repeat' split
 all_goals exact ⟨rfl, rfl, rfl, rfl, rfl⟩
theorem mHearEcho_same (e : DEnd) (x : DLetter) : Same e (mHearEcho e x).1 := by
 unfold mHearEcho; repeat' split
 all_goals exact ⟨rfl, rfl, rfl, rfl, rfl⟩
theorem mHearGone_same (e : DEnd) (x : DLetter) : Same e (mHearGone e x).1 := by
 unfold mHearGone; repeat' split
 all_goals exact ⟨rfl, rfl, rfl, rfl, rfl⟩
theorem mHearData_same (e : DEnd) (x : DLetter) : Same e (mHearData e x).1 := by
 unfold mHearData; repeat' split
 all_goals exact ⟨rfl, rfl, rfl, rfl, rfl⟩
theorem mHearCame_same (e : DEnd) (x : DLetter) : Same e (mHearCame e x).1 := by
 unfold mHearCame; repeat' split
 all_goals exact ⟨rfl, rfl, rfl, rfl, rfl⟩
theorem mHearReset_same (e : DEnd) (x : DLetter) : Same e (mHearReset e x).1 := by
 unfold mHearReset; repeat' split
 all_goals exact ⟨rfl, rfl, rfl, rfl, rfl⟩
theorem mHear_same {e : DEnd} (x : DLetter) (h2 : e.state = 2) : Same e (mHear e x).1 := by
 have P := @iteP (DEnd × List DLetter) (fun z => Same e z.1)
 have h := Same.refl e
 unfold mHear
 refine P (P ?_ (P ?_ (P (mHearJoin_same e x) (P (mHearJoinBack_same e x) (P (mHearJoinDone_same e x) (P (mHearJoinAck_same e x) (P (mHearAddr_same e x) (P (mHearEcho_same e x) (P (mHearGone_same e x) (P (mHearData_same e x) (P (mHearCame_same e x) (P (mHearReset_same e x) h)))))))))))) h
 ·rw [mHearHello_2 x h2]; exact h
 ·rw [mHearBack_2 x h2]; exact h
theorem mWrite_same (e : DEnd) (t : List UInt8) : Same e (mWrite e t).1 := by
 unfold mWrite; repeat' split
 all_goals exact ⟨rfl, rfl, rfl, rfl, rfl⟩
theorem mRead_same (e : DEnd) (n : Int) : Same e (mRead e n).1 := by
 unfold mRead; repeat' split
 all_goals exact ⟨rfl, rfl, rfl, rfl, rfl⟩
theorem mAddOwn_same (e : DEnd) (a : DAddr) : Same e (mAddOwn e a).1 := by
 unfold mAddOwn; repeat' split
 all_goals exact ⟨rfl, rfl, rfl, rfl, rfl⟩
theorem mPush_same (e : DEnd) : Same e (mPush e).1 := by
 unfold mPush; repeat' split
 all_goals exact ⟨rfl, rfl, rfl, rfl, rfl⟩
theorem pushN_same (e : DEnd) : ∀ n, Same e (pushN n e).1
 | 0 => Same.refl e
 | n + 1 => (pushN_same e n).trans (mPush_same _)
theorem mWriteAll_same (e : DEnd) (t : List UInt8) : Same e (mWriteAll e t).1 := (mWrite_same e t).trans (pushN_same _ 3)
theorem mTick1_same (e : DEnd) : Same e (mTick1 e) := by
 unfold mTick1; repeat' split
 all_goals exact ⟨rfl, rfl, rfl, rfl, rfl⟩
theorem mTick_same (e : DEnd) : Same e (mTick e).1 := by
 unfold mTick; split
 ·exact (mTick1_same e).trans (pushN_same _ 3)
 ·exact Same.refl e
theorem mgL_same (e : DEnd) : ∀ (l : List DRoad) (o : DEnd) (acc : List DLetter), Same e o → Same e (mgL e l o acc).1
 | [], _, _, h => h
 | r :: l, o, acc, h => mgL_same e l _ _ (h.trans (mJoin_same o r _))
theorem mManage_same (e : DEnd) : Same e (mManage e).1 := by
 unfold mManage; split
 ·exact mgL_same _ _ _ _ (Same.refl e)
 ·exact Same.refl e
/-- A right end that is open. -/
def DEnd.R (e : DEnd) : Prop := e.G ∧ e.state = 2
theorem R_of {e o : DEnd} (h : e.R) (hg : o.G) (hs : Same e o) : o.R := ⟨hg, hs.2.1.trans h.2⟩
theorem mHear_R {e : DEnd} (x : DLetter) (h : e.R) : (mHear e x).1.R := R_of h (mHear_G x h.1 h.2) (mHear_same x h.2)
theorem talkL_R (ev : Bool) : ∀ (ls : List DLetter) (c : DCur) (x y : DEnd) (back : List DLetter), x.R → y.R → (talkL ev ls c x y back).2.1.R ∧ (talkL ev ls c x y back).2.2.1.R
 | [], _, _, _, _, hx, hy => ⟨hx, hy⟩
 | l :: r, c, x, y, back, hx, hy => by
  rw [talkL]
  repeat' split
  ·exact talkL_R ev r _ x y back hx hy
  ·exact talkL_R ev r _ x _ _ hx (mHear_R l hy)
  ·exact talkL_R ev r _ _ y _ (mHear_R l hx) hy
theorem talkL_B (ev : Bool) : ∀ (ls : List DLetter) (c : DCur) (x y : DEnd) (back : List DLetter), c.B → (talkL ev ls c x y back).1.B
 | [], _, _, _, _, h => h
 | l :: r, c, x, y, back, h => by
  rw [talkL]
  repeat' split
  all_goals exact talkL_B ev r _ _ _ _ (mBelowC_B _ h)
theorem talkL_b (ev : Bool) : ∀ (ls : List DLetter) (c : DCur) (x y : DEnd) (back : List DLetter), (talkL ev ls c x y back).1.b = c.b
 | [], _, _, _, _ => rfl
 | l :: r, c, x, y, back => by
  rw [talkL]
  repeat' split
  all_goals rw [talkL_b ev r, mBelowC_b]
theorem talkT_R : ∀ (k t : Nat) (c : DCur) (x y : DEnd) (ls : List DLetter), x.R → y.R → (talkT k t c x y ls).2.1.R ∧ (talkT k t c x y ls).2.2.R
 | 0, _, _, _, _, _, hx, hy => ⟨hx, hy⟩
 | k + 1, t, c, x, y, ls, hx, hy => by
  rw [talkT]
  split
  ·exact ⟨hx, hy⟩
  ·have := talkL_R (t % 2 == 0) ls c x y [] hx hy
   exact talkT_R k (t + 1) _ _ _ _ this.1 this.2
theorem talkT_B : ∀ (k t : Nat) (c : DCur) (x y : DEnd) (ls : List DLetter), c.B → (talkT k t c x y ls).1.B
 | 0, _, _, _, _, _, h => h
 | k + 1, t, c, x, y, ls, h => by
  rw [talkT]
  split
  ·exact h
  ·exact talkT_B k (t + 1) _ _ _ _ (talkL_B _ _ _ _ _ _ h)
theorem talkT_b : ∀ (k t : Nat) (c : DCur) (x y : DEnd) (ls : List DLetter), (talkT k t c x y ls).1.b = c.b
 | 0, _, _, _, _, _ => rfl
 | k + 1, t, c, x, y, ls => by
  rw [talkT]
  split
  ·rfl
  ·rw [talkT_b k, talkL_b]
theorem mTalk_R {x y : DEnd} (c : DCur) (ls : List DLetter) (hx : x.R) (hy : y.R) : (mTalk c x y ls).2.1.R ∧ (mTalk c x y ls).2.2.R := talkT_R 5 0 c x y ls hx hy
theorem mTalk_B {c : DCur} (x y : DEnd) (ls : List DLetter) (h : c.B) : (mTalk c x y ls).1.B := talkT_B 5 0 c x y ls h
theorem mTalk_b (c : DCur) (x y : DEnd) (ls : List DLetter) : (mTalk c x y ls).1.b = c.b := talkT_b 5 0 c x y ls
theorem tmod2 (t : Nat) : ((t : Int).tmod 2 = 0) ↔ t % 2 = 0 := by
 rw [Int.tmod_eq_emod_of_nonneg (by omega)]; omega
end Go.Eng

namespace Go.Eng

theorem mDPol_ok (c : DCur) : mPolicyOk (mDPol c) = true := by
 have h1 := mBelow_bd (c := mBelowC c 3) (n := 4) (by decide)
 unfold mDPol
 split
 ·rfl
 ·split
  ·rw [w64_id (by omega) (by omega)]
   show mIn (1 + mBelow (mBelowC c 3) 4) 1 8 = true
   exact mIn_iff.2 (by omega)
  ·rfl
def endA0 (p : DPolicy) : DEnd := ⟨1, 0, 0, 0, p, [⟨0, 11, false, true⟩], [], [], [], ⟨1, 3, 3⟩, ⟨[], 0, 0, 120⟩, ⟨0, [], []⟩, [], [], 1001, 0, 0⟩
def endB0 (q : DPolicy) : DEnd := ⟨2, 0, 0, 0, q, [⟨0, 21, false, true⟩], [], [], [], ⟨1, 3, 3⟩, ⟨[], 0, 0, 120⟩, ⟨0, [], []⟩, [], [], 1002, 0, 0⟩
def endA1 (p : DPolicy) : DEnd := ⟨1, 1, 1001, 0, p, [⟨0, 11, false, true⟩], [], [⟨⟨11, 21, 0⟩, 1, false, 0, 0, 0, 1003, 0⟩], [], ⟨1, 3, 3⟩, ⟨[], 0, 0, 120⟩, ⟨0, [], []⟩, [], [], 1005, 0, 0⟩
def endA (p : DPolicy) : DEnd := ⟨1, 2, 1001, 1002, p, [⟨0, 11, false, true⟩], [⟨0, 21, false, true⟩], [⟨⟨11, 21, 0⟩, 3, false, 0, 0, 1004, 1003, 0⟩], [], ⟨1, 3, 3⟩, ⟨[], 0, 0, 120⟩, ⟨0, [], []⟩, [], [], 1005, 0, 0⟩
def endB (q : DPolicy) : DEnd := ⟨2, 2, 1002, 1001, q, [⟨0, 21, false, true⟩], [⟨0, 11, false, true⟩], [⟨⟨21, 11, 0⟩, 3, false, 0, 0, 1003, 1004, 0⟩], [], ⟨1, 3, 3⟩, ⟨[], 0, 0, 120⟩, ⟨0, [], []⟩, [], [], 1006, 0, 0⟩
theorem endA0_ok {p : DPolicy} (h : mPolicyOk p = true) : mEndOk (endA0 p) = true := by
 simp only [mEndOk, mEndOk0, mEndOk1, endA0, h, Bool.true_and, Bool.and_true]; rfl
theorem endB0_ok {p : DPolicy} (h : mPolicyOk p = true) : mEndOk (endB0 p) = true := by
 simp only [mEndOk, mEndOk0, mEndOk1, endB0, h, Bool.true_and, Bool.and_true]; rfl
theorem endA1_ok {p : DPolicy} (h : mPolicyOk p = true) : mEndOk (endA1 p) = true := by
 simp only [mEndOk, mEndOk0, mEndOk1, endA1, h, Bool.true_and, Bool.and_true]; rfl
theorem endA_ok {p : DPolicy} (h : mPolicyOk p = true) : mEndOk (endA p) = true := by
 simp only [mEndOk, mEndOk0, mEndOk1, endA, h, Bool.true_and, Bool.and_true]; rfl
theorem endB_ok {p : DPolicy} (h : mPolicyOk p = true) : mEndOk (endB p) = true := by
 simp only [mEndOk, mEndOk0, mEndOk1, endB, h, Bool.true_and, Bool.and_true]; rfl
theorem endNewA {p : DPolicy} (h : mPolicyOk p = true) : (mEndNew 1 11 p).1 = endA0 p := by
 unfold mEndNew
 rw [if_pos ⟨rfl, h, by decide⟩]; rfl
theorem endNewB {p : DPolicy} (h : mPolicyOk p = true) : (mEndNew 2 21 p).1 = endB0 p := by
 unfold mEndNew
 rw [if_pos ⟨rfl, h, by decide⟩]; rfl
theorem meet_is {p q : DPolicy} (hp : mPolicyOk p = true) (hq : mPolicyOk q = true) : mMeet (mEndNew 1 11 p).1 (mEndNew 2 21 q).1 = (endA p, endB q, true) := by
 rw [endNewA hp, endNewB hq]
 have h1 : mMeetO (endA0 p) (endB0 q) = (endA1 p, [mBetween ⟨11, 21, 0⟩ (ltr 1 1001 0 0 1003 0 tg0 0 0 false 0 [])]) := by
  show mOpen (endA0 p) 21 = _
  unfold mOpen
  rw [if_pos ⟨endA0_ok hp, rfl, by simp [endA0], rfl, by simp [endA0], rfl, by show (-1 : Int) < 0; decide⟩]; rfl
 have h2 : mMeetH (endA0 p) (endB0 q) = (endB q, [mBetween ⟨21, 11, 0⟩ (ltr 2 1002 0 0 1004 0 tg0 0 0 false 0 [])]) := by
  unfold mMeetH
  rw [h1]
  show mHearHello (endB0 q) _ = _
  unfold mHearHello
  rw [if_pos ⟨endB0_ok hq, rfl, rfl, rfl, rfl, by show (-1 : Int) < 0; decide, by simp [endB0], rfl⟩]; rfl
 have h3 : mMeetX (endA0 p) (endB0 q) = endA p := by
  unfold mMeetX
  rw [h2, h1]
  show (mHearBack (endA1 p) _).1 = _
  unfold mHearBack
  rw [if_pos ⟨endA1_ok hp, rfl, rfl, by show (0 : Int) ≤ 0; decide, rfl, rfl⟩]; rfl
 unfold mMeet
 rw [if_neg (by simp [endB0]), h3, h2]; rfl
theorem endA_R {p : DPolicy} (h : mPolicyOk p = true) : (endA p).R := ⟨⟨endA_ok h, by simp [endA], by simp [endA]⟩, rfl⟩
theorem endB_R {p : DPolicy} (h : mPolicyOk p = true) : (endB p).R := ⟨⟨endB_ok h, by simp [endB], by simp [endB]⟩, rfl⟩

/-- What one end does, as drawn. -/
def actAddr (x : DEnd) (c : DCur) : DAddr := ⟨w64 (1 + mBelow c 3), w64 (w64 (w64 (10 * x.side) + 2) + mBelow (mBelowC c 3) 3), mOnce (mBelowC (mBelowC c 3) 3) 4, false⟩
def actAddrC (c : DCur) : DCur := mBelowC (mBelowC (mBelowC c 3) 3) 4
def actText (c : DCur) : List UInt8 := dText (mBelowC c 30) (w64 (1 + mBelow c 30))
def actTextC (c : DCur) : DCur := dTextC (mBelowC c 30) (w64 (1 + mBelow c 30))
def actE (k : Int) (x : DEnd) (c : DCur) : DEnd × List DLetter :=
 if k = 0 ∨ k = 1 then mWriteAll x (actText c) else if k = 2 then ((mAddOwn x (actAddr x c)).1, []) else if k = 3 then mTick x
 else if k = 4 ∨ k = 5 then mManage x else ((mRead x (mBelow c 30)).1, [])
def actC (k : Int) (c : DCur) : DCur :=
 if k = 0 ∨ k = 1 then actTextC c else if k = 2 then actAddrC c else if k = 3 then c else if k = 4 ∨ k = 5 then c else mBelowC c 30
/-- One round: a draw of who, of what, and the talk behind it. -/
def roundK (c : DCur) : Int := mBelow (mBelowC c 2) 7
def roundC (c : DCur) : DCur := mBelowC (mBelowC c 2) 7
def roundT (c : DCur) (x y : DEnd) : DCur × DEnd × DEnd :=
 mTalk (actC (roundK c) (roundC c)) (actE (roundK c) x (roundC c)).1 y (actE (roundK c) x (roundC c)).2
def roundE (c : DCur) (a b : DEnd) : DCur × DEnd × DEnd :=
 if mOnce c 2 = true then ((roundT c b a).1, (roundT c b a).2.2, (roundT c b a).2.1) else roundT c a b
def endsL : Nat → Nat → DCur → DEnd → DEnd → DCur × DEnd × DEnd
 | 0, _, c, a, b => (c, a, b)
 | k + 1, i, c, a, b => if (i : Int) < mBelow c 12 then endsL k (i + 1) (roundE (mBelowC c 12) a b).1 (roundE (mBelowC c 12) a b).2.1 (roundE (mBelowC c 12) a b).2.2 else (mBelowC c 12, a, b)
def mEnds (c : DCur) : DCur × DEnd × DEnd := endsL 13 0 (mDPolC (mDPolC c)) (endA (mDPol c)) (endB (mDPol (mDPolC c)))
theorem actC_B (k : Int) {c : DCur} (h : c.B) : (actC k c).B := by
 unfold actC actTextC actAddrC
 repeat' split
 ·exact dTextC_B _ (mBelowC_B _ h)
 ·exact mBelowC_B _ (mBelowC_B _ (mBelowC_B _ h))
 ·exact h
 ·exact h
 ·exact mBelowC_B _ h
theorem actC_b (k : Int) (c : DCur) : (actC k c).b = c.b := by
 unfold actC actTextC actAddrC
 repeat' split
 all_goals simp only [dTextC_b, mBelowC_b]
theorem actE_R (k : Int) {x : DEnd} (c : DCur) (h : x.R) : (actE k x c).1.R := by
 unfold actE
 repeat' split
 ·exact R_of h (mWriteAll_G _ h.1) (mWriteAll_same _ _)
 ·exact R_of h (mAddOwn_G _ h.1) (mAddOwn_same _ _)
 ·exact R_of h (mTick_G h.1) (mTick_same _)
 ·exact R_of h (mManage_G h.1) (mManage_same _)
 ·exact R_of h (mRead_G _ h.1) (mRead_same _ _)
theorem G_lens {x : DEnd} (h : x.G) : x.own.length ≤ 1048576 ∧ x.subs.length ≤ 1048576 ∧ x.inn.ready.length ≤ 1073741824 := by
 have he := G_E h
 have := he.own.1
 have := he.subs.1
 have := h.2.1
 omega
theorem roundC_B {c : DCur} (h : c.B) : (roundC c).B := mBelowC_B _ (mBelowC_B _ h)
theorem roundC_b (c : DCur) : (roundC c).b = c.b := by simp only [roundC, mBelowC_b]
theorem roundE_B {c : DCur} (a b : DEnd) (h : c.B) : (roundE c a b).1.B := by
 unfold roundE roundT
 split
 ·exact mTalk_B _ _ _ (actC_B _ (roundC_B h))
 ·exact mTalk_B _ _ _ (actC_B _ (roundC_B h))
theorem roundE_b (c : DCur) (a b : DEnd) : (roundE c a b).1.b = c.b := by
 unfold roundE roundT
 split
 ·simp only [mTalk_b, actC_b, roundC_b]
 ·simp only [mTalk_b, actC_b, roundC_b]
theorem roundE_R (c : DCur) {a b : DEnd} (ha : a.R) (hb : b.R) : (roundE c a b).2.1.R ∧ (roundE c a b).2.2.R := by
 unfold roundE roundT
 split
 ·have := mTalk_R (actC (roundK c) (roundC c)) (actE (roundK c) b (roundC c)).2 (actE_R (roundK c) (roundC c) hb) ha
  exact ⟨this.2, this.1⟩
 ·exact mTalk_R (actC (roundK c) (roundC c)) (actE (roundK c) a (roundC c)).2 (actE_R (roundK c) (roundC c) ha) hb
theorem endsL_B : ∀ (k i : Nat) (c : DCur) (a b : DEnd), c.B → (endsL k i c a b).1.B
 | 0, _, _, _, _, h => h
 | k + 1, i, c, a, b, h => by
  rw [endsL]
  split
  ·exact endsL_B k _ _ _ _ (roundE_B _ _ (mBelowC_B _ h))
  ·exact mBelowC_B _ h
theorem endsL_b : ∀ (k i : Nat) (c : DCur) (a b : DEnd), (endsL k i c a b).1.b = c.b
 | 0, _, _, _, _ => rfl
 | k + 1, i, c, a, b => by
  rw [endsL]
  split
  ·rw [endsL_b k, roundE_b, mBelowC_b]
  ·exact mBelowC_b _ _
theorem endsL_R : ∀ (k i : Nat) (c : DCur) (a b : DEnd), a.R → b.R → (endsL k i c a b).2.1.R ∧ (endsL k i c a b).2.2.R
 | 0, _, _, _, _, ha, hb => ⟨ha, hb⟩
 | k + 1, i, c, a, b, ha, hb => by
  rw [endsL]
  split
  ·have := roundE_R (mBelowC c 12) ha hb
   exact endsL_R k _ _ _ _ this.1 this.2
  ·exact ⟨ha, hb⟩
theorem mEnds_B {c : DCur} (h : c.B) : (mEnds c).1.B := endsL_B _ _ _ _ _ (mDPolC_B (mDPolC_B h))
theorem mEnds_b (c : DCur) : (mEnds c).1.b = c.b := by rw [mEnds, endsL_b, mDPolC_b, mDPolC_b]
theorem mEnds_R (c : DCur) : (mEnds c).2.1.R ∧ (mEnds c).2.2.R := endsL_R _ _ _ _ _ (endA_R (mDPol_ok _)) (endB_R (mDPol_ok _))
theorem roundE_t {c : DCur} {a b : DEnd} (h : mOnce c 2 = true) : roundE c a b = ((roundT c b a).1, (roundT c b a).2.2, (roundT c b a).2.1) := by rw [roundE, if_pos h]
theorem roundE_f {c : DCur} {a b : DEnd} (h : mOnce c 2 = false) : roundE c a b = roundT c a b := by rw [roundE, if_neg (by rw [h]; simp)]
theorem roundT_k {c : DCur} {k : Int} (h : mBelow (mBelowC c 2) 7 = k) (x y : DEnd) : roundT c x y = mTalk (actC k (mBelowC (mBelowC c 2) 7)) (actE k x (mBelowC (mBelowC c 2) 7)).1 y (actE k x (mBelowC (mBelowC c 2) 7)).2 := by
 rw [roundT, roundK, h]; rfl
theorem roundT_0 {c : DCur} (h : mBelow (mBelowC c 2) 7 = 0) (x y : DEnd) : roundT c x y = mTalk (dTextC (mBelowC (mBelowC (mBelowC c 2) 7) 30) (w64 (1 + mBelow (mBelowC (mBelowC c 2) 7) 30))) (mWriteAll x (dText (mBelowC (mBelowC (mBelowC c 2) 7) 30) (w64 (1 + mBelow (mBelowC (mBelowC c 2) 7) 30)))).1 y (mWriteAll x (dText (mBelowC (mBelowC (mBelowC c 2) 7) 30) (w64 (1 + mBelow (mBelowC (mBelowC c 2) 7) 30)))).2 := roundT_k h x y
theorem roundT_1 {c : DCur} (h : mBelow (mBelowC c 2) 7 = 1) (x y : DEnd) : roundT c x y = mTalk (dTextC (mBelowC (mBelowC (mBelowC c 2) 7) 30) (w64 (1 + mBelow (mBelowC (mBelowC c 2) 7) 30))) (mWriteAll x (dText (mBelowC (mBelowC (mBelowC c 2) 7) 30) (w64 (1 + mBelow (mBelowC (mBelowC c 2) 7) 30)))).1 y (mWriteAll x (dText (mBelowC (mBelowC (mBelowC c 2) 7) 30) (w64 (1 + mBelow (mBelowC (mBelowC c 2) 7) 30)))).2 := roundT_k h x y
theorem roundT_2 {c : DCur} (h : mBelow (mBelowC c 2) 7 = 2) (x y : DEnd) : roundT c x y = mTalk (actAddrC (mBelowC (mBelowC c 2) 7)) (mAddOwn x (actAddr x (mBelowC (mBelowC c 2) 7))).1 y [] := roundT_k h x y
theorem roundT_3 {c : DCur} (h : mBelow (mBelowC c 2) 7 = 3) (x y : DEnd) : roundT c x y = mTalk (mBelowC (mBelowC c 2) 7) (mTick x).1 y (mTick x).2 := roundT_k h x y
theorem roundT_4 {c : DCur} (h : mBelow (mBelowC c 2) 7 = 4) (x y : DEnd) : roundT c x y = mTalk (mBelowC (mBelowC c 2) 7) (mManage x).1 y (mManage x).2 := roundT_k h x y
theorem roundT_5 {c : DCur} (h : mBelow (mBelowC c 2) 7 = 5) (x y : DEnd) : roundT c x y = mTalk (mBelowC (mBelowC c 2) 7) (mManage x).1 y (mManage x).2 := roundT_k h x y
theorem roundT_6 {c : DCur} (h : mBelow (mBelowC c 2) 7 = 6) (x y : DEnd) : roundT c x y = mTalk (mBelowC (mBelowC (mBelowC c 2) 7) 30) (mRead x (mBelow (mBelowC (mBelowC c 2) 7) 30)).1 y [] := roundT_k h x y
theorem acts_R {x : DEnd} (h : x.R) : (∀ t, (mWriteAll x t).1.R ∧ (mWriteAll x t).2.length ≤ 1073741824) ∧ (∀ a, (mAddOwn x a).1.R) ∧ ((mTick x).1.R ∧ (mTick x).2.length ≤ 1073741824) ∧ ((mManage x).1.R ∧ (mManage x).2.length ≤ 1073741824) ∧ ∀ n, (mRead x n).1.R := by
 have hl := G_lens h.1
 exact ⟨fun t => ⟨R_of h (mWriteAll_G _ h.1) (mWriteAll_same _ _), mWriteAll_len _ _⟩, fun a => R_of h (mAddOwn_G _ h.1) (mAddOwn_same _ _), ⟨R_of h (mTick_G h.1) (mTick_same _), mTick_len (G_B h.1) hl.1 hl.2.1⟩, ⟨R_of h (mManage_G h.1) (mManage_same _), mManage_len _⟩, fun n => R_of h (mRead_G _ h.1) (mRead_same _ _)⟩
end Go.Eng

namespace Go.Eng

end Go.Eng

namespace Go.Eng

end Go.Eng

namespace Go.Eng

/-- At most so many draws, so much time, so many tries. -/
def Bd (d t : Int) (e : DEnd) : Prop := (1 ≤ e.draw ∧ e.draw ≤ d) ∧ e.now ≤ t ∧ ∀ s ∈ e.subs, s.tries ≤ t
theorem Bd_mono {d d' t t' : Int} {e : DEnd} (h : Bd d t e) (hd : d ≤ d') (ht : t ≤ t') : Bd d' t' e :=
 ⟨⟨h.1.1, Int.le_trans h.1.2 hd⟩, Int.le_trans h.2.1 ht, fun s hs => Int.le_trans (h.2.2 s hs) ht⟩
theorem set_tries {l : List DSub} {k : Nat} {s : DSub} {t : Int} (h : ∀ x ∈ l, x.tries ≤ t) (hs : s.tries ≤ t) : ∀ x ∈ l.set k s, x.tries ≤ t := fun x hx => by
 rcases List.mem_or_eq_of_mem_set hx with h1 | h1
 ·exact h x h1
 ·subst h1; exact hs
theorem get_tries {l : List DSub} {t : Int} (h : ∀ x ∈ l, x.tries ≤ t) (ht : 0 ≤ t) (k : Nat) : (l.getD k (ETy.zero .sub)).tries ≤ t := by
 rcases Nat.lt_or_ge k l.length with hk | hk
 ·rw [List.getD, List.getElem?_eq_getElem hk]; exact h _ (List.getElem_mem hk)
 ·rw [List.getD, List.getElem?_eq_none hk]; exact ht
theorem app_tries {l : List DSub} {s : DSub} {t : Int} (h : ∀ x ∈ l, x.tries ≤ t) (hs : s.tries ≤ t) : ∀ x ∈ l ++ [s], x.tries ≤ t := fun x hx => by
 rcases List.mem_append.1 hx with h1 | h1
 ·exact h x h1
 ·rw [List.mem_singleton.1 h1]; exact hs
theorem gone_tries {l : List DSub} (p : DSub → Bool) {t : Int} (h : ∀ x ∈ l, x.tries ≤ t) : ∀ x ∈ goneIf p l, x.tries ≤ t := fun x hx => by
 obtain ⟨s, hs, rfl⟩ := List.mem_map.1 hx
 have := h s hs
 split <;> exact this
theorem mJoin_Bd {d t : Int} {e : DEnd} (r : DRoad) (p : Bool) (h : Bd d t e) (ht : 0 ≤ t) : Bd (d + 4) t (mJoin e r p).1 := by
 unfold mJoin
 split
 ·exact ⟨by have := h.1; simp only []; omega, h.2.1, app_tries h.2.2 ht⟩
 ·exact Bd_mono h (by omega) (Int.le_refl _)
theorem mHearJoin_Bd {d t : Int} {e : DEnd} (x : DLetter) (h : Bd d t e) : Bd (d + 4) t (mHearJoin e x).1 := by
 unfold mHearJoin
 split
 ·refine ⟨?_, h.2.1, h.2.2⟩
  have := h.1
  show 1 ≤ mJoinDraw e x ∧ mJoinDraw e x ≤ d + 4
  unfold mJoinDraw
  split <;> omega
 ·exact Bd_mono h (by omega) (Int.le_refl _)
theorem mHearJoinBack_Bd {d t : Int} {e : DEnd} (x : DLetter) (h : Bd d t e) (ht : 0 ≤ t) : Bd d t (mHearJoinBack e x).1 := by
 unfold mHearJoinBack
 split
 ·exact ⟨h.1, h.2.1, set_tries h.2.2 ht⟩
 ·exact h
theorem mHearJoinDone_Bd {d t : Int} {e : DEnd} (x : DLetter) (h : Bd d t e) (ht : 0 ≤ t) : Bd d t (mHearJoinDone e x).1 := by
 unfold mHearJoinDone
 split
 ·split
  ·refine ⟨h.1, h.2.1, app_tries ?_ ht⟩
   unfold mGoneAt
   split
   ·exact set_tries h.2.2 (get_tries h.2.2 ht _)
   ·exact h.2.2
  ·split <;> exact h
 ·exact h
theorem mHearJoinAck_Bd {d t : Int} {e : DEnd} (x : DLetter) (h : Bd d t e) (ht : 0 ≤ t) : Bd d t (mHearJoinAck e x).1 := by
 unfold mHearJoinAck
 split
 ·exact ⟨h.1, h.2.1, set_tries h.2.2 (get_tries h.2.2 ht _)⟩
 ·exact h
theorem mHearAddr_Bd {d t : Int} {e : DEnd} (x : DLetter) (h : Bd d t e) : Bd d t (mHearAddr e x).1 := by
 unfold mHearAddr; split <;> exact h
theorem mHearEcho_Bd {d t : Int} {e : DEnd} (x : DLetter) (h : Bd d t e) : Bd d t (mHearEcho e x).1 := by
 unfold mHearEcho; split <;> exact h
theorem mHearGone_Bd {d t : Int} {e : DEnd} (x : DLetter) (h : Bd d t e) : Bd d t (mHearGone e x).1 := by
 unfold mHearGone; split
 ·exact ⟨h.1, h.2.1, gone_tries _ h.2.2⟩
 ·exact h
theorem mHearData_Bd {d t : Int} {e : DEnd} (x : DLetter) (h : Bd d t e) : Bd d t (mHearData e x).1 := by
 unfold mHearData; repeat' split
 all_goals exact h
theorem mHearCame_Bd {d t : Int} {e : DEnd} (x : DLetter) (h : Bd d t e) : Bd d t (mHearCame e x).1 := by
 unfold mHearCame; split <;> exact h
theorem mHearReset_Bd {d t : Int} {e : DEnd} (x : DLetter) (h : Bd d t e) (ht : 0 ≤ t) : Bd d t (mHearReset e x).1 := by
 unfold mHearReset; split
 ·exact ⟨h.1, h.2.1, set_tries h.2.2 (get_tries h.2.2 ht _)⟩
 ·exact h
theorem mHear_Bd {d t : Int} {e : DEnd} (x : DLetter) (h : Bd d t e) (ht : 0 ≤ t) (h2 : e.state = 2) : Bd (d + 4) t (mHear e x).1 := by
 have P := @iteP (DEnd × List DLetter) (fun z => Bd (d + 4) t z.1)
 have m : ∀ {o : DEnd}, Bd d t o → Bd (d + 4) t o := fun h => Bd_mono h (by omega) (Int.le_refl _)
 have h0 := m h
 unfold mHear
 refine P (P ?_ (P ?_ (P (mHearJoin_Bd x h) (P (m (mHearJoinBack_Bd x h ht)) (P (m (mHearJoinDone_Bd x h ht)) (P (m (mHearJoinAck_Bd x h ht)) (P (m (mHearAddr_Bd x h)) (P (m (mHearEcho_Bd x h)) (P (m (mHearGone_Bd x h)) (P (m (mHearData_Bd x h)) (P (m (mHearCame_Bd x h)) (P (m (mHearReset_Bd x h ht)) h0)))))))))))) h0
 ·rw [mHearHello_2 x h2]; exact h0
 ·rw [mHearBack_2 x h2]; exact h0
theorem mWrite_Bd {d t : Int} {e : DEnd} (x : List UInt8) (h : Bd d t e) : Bd d t (mWrite e x).1 := by
 unfold mWrite; split <;> exact h
theorem mRead_Bd {d t : Int} {e : DEnd} (n : Int) (h : Bd d t e) : Bd d t (mRead e n).1 := by
 unfold mRead; split <;> exact h
theorem mAddOwn_Bd {d t : Int} {e : DEnd} (a : DAddr) (h : Bd d t e) : Bd d t (mAddOwn e a).1 := by
 unfold mAddOwn; split <;> exact h
theorem mPush_Bd {d t : Int} {e : DEnd} (h : Bd d t e) : Bd d t (mPush e).1 := by
 unfold mPush; split <;> exact h
theorem pushN_Bd {d t : Int} {e : DEnd} (h : Bd d t e) : ∀ n, Bd d t (pushN n e).1
 | 0 => h
 | n + 1 => mPush_Bd (pushN_Bd h n)
theorem mTick1_Bd {d t : Int} {e : DEnd} (h : Bd d t e) : Bd d (t + 1) (mTick1 e) := by
 have h0 : Bd d (t + 1) (mTick0 e) := ⟨h.1, by have := h.2.1; simp only [mTick0]; omega, fun s hs => by have := h.2.2 s hs; omega⟩
 unfold mTick1
 split
 ·refine ⟨h0.1, h0.2.1, fun s hs => ?_⟩
  obtain ⟨s', hs', rfl⟩ := List.mem_map.1 hs
  have := h.2.2 s' hs'
  unfold tickG
  repeat' split
  all_goals first | omega | (dsimp only; omega)
 ·exact h0
theorem mTick_Bd {d t : Int} {e : DEnd} (h : Bd d t e) : Bd d (t + 1) (mTick e).1 := by
 unfold mTick; split
 ·exact pushN_Bd (mTick1_Bd h) 3
 ·exact Bd_mono h (Int.le_refl _) (by omega)
theorem mgL_Bd {t : Int} (ht : 0 ≤ t) (e : DEnd) : ∀ (l : List DRoad) (d : Int) (o : DEnd) (acc : List DLetter), Bd d t o → Bd (d + 4 * l.length) t (mgL e l o acc).1
 | [], d, _, _, h => by simpa [mgL] using h
 | r :: l, d, o, acc, h => by
  rw [mgL]
  have := mgL_Bd ht e l (d + 4) _ (acc ++ (mJoin o r (mSpare e r.far)).2) (mJoin_Bd r (mSpare e r.far) h ht)
  exact Bd_mono this (by simp only [List.length_cons]; omega) (Int.le_refl _)
theorem mManage_Bd {d t : Int} {e : DEnd} (h : Bd d t e) (ht : 0 ≤ t) : Bd (d + 32) t (mManage e).1 := by
 unfold mManage; split
 ·have := mMissL_len e
  exact Bd_mono (mgL_Bd ht e _ d e [] h) (by omega) (Int.le_refl _)
 ·exact Bd_mono h (by omega) (Int.le_refl _)
theorem talkL_Bd (ev : Bool) {t : Int} (ht : 0 ≤ t) : ∀ (ls : List DLetter) (c : DCur) (d : Int) (x y : DEnd) (back : List DLetter), x.R → y.R → Bd d t x → Bd d t y → Bd (d + 4 * ls.length) t (talkL ev ls c x y back).2.1 ∧ Bd (d + 4 * ls.length) t (talkL ev ls c x y back).2.2.1
 | [], _, d, _, _, _, _, _, hx, hy => by simpa [talkL] using ⟨hx, hy⟩
 | l :: r, c, d, x, y, back, rx, ry, hx, hy => by
  have mo : ∀ {o : DEnd}, Bd (d + 4 + 4 * r.length) t o → Bd (d + 4 * (l :: r).length) t o := fun h => Bd_mono h (by simp only [List.length_cons]; omega) (Int.le_refl _)
  have m1 : ∀ {o : DEnd}, Bd d t o → Bd (d + 4) t o := fun h => Bd_mono h (by omega) (Int.le_refl _)
  rw [talkL]
  repeat' split
  ·have := talkL_Bd ev ht r (mBelowC c 8) (d + 4) x y back rx ry (m1 hx) (m1 hy)
   exact ⟨mo this.1, mo this.2⟩
  ·have := talkL_Bd ev ht r (mBelowC c 8) (d + 4) x (mHear y l).1 (back ++ (mHear y l).2) rx (mHear_R l ry) (m1 hx) (mHear_Bd l hy ht ry.2)
   exact ⟨mo this.1, mo this.2⟩
  ·have := talkL_Bd ev ht r (mBelowC c 8) (d + 4) (mHear x l).1 y (back ++ (mHear x l).2) (mHear_R l rx) ry (mHear_Bd l hx ht rx.2) (m1 hy)
   exact ⟨mo this.1, mo this.2⟩
theorem talkT_Bd {t : Int} (ht : 0 ≤ t) {n : Nat} : ∀ (k i : Nat) (c : DCur) (d : Int) (x y : DEnd) (ls : List DLetter), ls.length ≤ n → x.R → y.R → Bd d t x → Bd d t y → Bd (d + 4 * n * k) t (talkT k i c x y ls).2.1 ∧ Bd (d + 4 * n * k) t (talkT k i c x y ls).2.2
 | 0, _, _, d, _, _, _, _, _, _, hx, hy => by simpa [talkT] using ⟨hx, hy⟩
 | k + 1, i, c, d, x, y, ls, hl, rx, ry, hx, hy => by
  have e1 : (4 * n * (k + 1) : Int) = 4 * n * k + 4 * n := by rw [Int.mul_add]; simp
  have hk : (0 : Int) ≤ 4 * n * k := Int.mul_nonneg (by omega) (by omega)
  rw [talkT]
  split
  ·exact ⟨Bd_mono hx (by push_cast; omega) (Int.le_refl _), Bd_mono hy (by push_cast; omega) (Int.le_refl _)⟩
  ·have h1 := talkL_Bd (i % 2 == 0) ht ls c d x y [] rx ry hx hy
   have h2 := talkL_R (i % 2 == 0) ls c x y [] rx ry
   have h3 := talkL_len (i % 2 == 0) ls c x y []
   have m : ∀ {o : DEnd}, Bd (d + 4 * ls.length) t o → Bd (d + 4 * n) t o := fun h => Bd_mono h (by omega) (Int.le_refl _)
   have := talkT_Bd ht (n := n) k (i + 1) (talkL (i % 2 == 0) ls c x y []).1 (d + 4 * n) _ _ (talkL (i % 2 == 0) ls c x y []).2.2.2 (by simp only [List.length_nil] at h3; omega) h2.1 h2.2 (m h1.1) (m h1.2)
   exact ⟨Bd_mono this.1 (by push_cast; omega) (Int.le_refl _), Bd_mono this.2 (by push_cast; omega) (Int.le_refl _)⟩
theorem mTick_len17 {e : DEnd} (h : mEndOk e = true) : (mTick e).2.length ≤ 17 := by
 have h1 := tell_small h
 have h2 := (endOk_split h).2.2.1
 unfold mTick
 split
 ·have h4 := pushN_len (mTick1 e) 3
  have h5 : (mTickL e).length ≤ e.subs.length := by
   unfold mTickL
   split
   ·exact colL_le _ _ _
   ·simp
  simp only [mTickEnd, List.length_append]
  omega
 ·simp
theorem mManage_len8 (e : DEnd) : (mManage e).2.length ≤ 8 := by
 unfold mManage
 split
 ·have := mgL_len e (mMissL e) e []
  have := mMissL_len e
  simp at *; omega
 ·simp
theorem actE_Bd (k : Int) {d t : Int} {x : DEnd} (c : DCur) (hx : x.R) (h : Bd d t x) (ht : 0 ≤ t) : Bd (d + 32) (t + 1) (actE k x c).1 ∧ (actE k x c).2.length ≤ 17 := by
 have m : ∀ {o : DEnd}, Bd d t o → Bd (d + 32) (t + 1) o := fun h => Bd_mono h (by omega) (by omega)
 unfold actE
 repeat' split
 ·have := pushN_len (mWrite x (actText c)).1 3
  exact ⟨m (pushN_Bd (mWrite_Bd _ h) 3), by show (pushN 3 _).2.length ≤ 17; omega⟩
 ·exact ⟨m (mAddOwn_Bd _ h), by simp⟩
 ·exact ⟨Bd_mono (mTick_Bd h) (by omega) (Int.le_refl _), mTick_len17 hx.1.1⟩
 ·have := mManage_len8 x
  exact ⟨Bd_mono (mManage_Bd h ht) (Int.le_refl _) (by omega), by omega⟩
 ·exact ⟨m (mRead_Bd _ h), by simp⟩
theorem roundT_Bd {d t : Int} (c : DCur) {x y : DEnd} (rx : x.R) (ry : y.R) (hx : Bd d t x) (hy : Bd d t y) (ht : 0 ≤ t) : Bd (d + 400) (t + 1) (roundT c x y).2.1 ∧ Bd (d + 400) (t + 1) (roundT c x y).2.2 := by
 have h1 := actE_Bd (roundK c) (roundC c) rx hx ht
 have h2 := talkT_Bd (t := t + 1) (by omega) (n := 17) 5 0 (actC (roundK c) (roundC c)) (d + 32) _ y (actE (roundK c) x (roundC c)).2 h1.2 (actE_R (roundK c) (roundC c) rx) ry h1.1 (Bd_mono hy (by omega) (by omega))
 exact ⟨Bd_mono h2.1 (by omega) (Int.le_refl _), Bd_mono h2.2 (by omega) (Int.le_refl _)⟩
theorem roundE_Bd {d t : Int} (c : DCur) {x y : DEnd} (rx : x.R) (ry : y.R) (hx : Bd d t x) (hy : Bd d t y) (ht : 0 ≤ t) : Bd (d + 400) (t + 1) (roundE c x y).2.1 ∧ Bd (d + 400) (t + 1) (roundE c x y).2.2 := by
 unfold roundE
 split
 ·have := roundT_Bd c ry rx hy hx ht
  exact ⟨this.2, this.1⟩
 ·exact roundT_Bd c rx ry hx hy ht
theorem endsL_Bd : ∀ (k i : Nat) (c : DCur) (d t : Int) (a b : DEnd), a.R → b.R → Bd d t a → Bd d t b → 0 ≤ t → Bd (d + 400 * k) (t + k) (endsL k i c a b).2.1 ∧ Bd (d + 400 * k) (t + k) (endsL k i c a b).2.2
 | 0, _, _, d, t, _, _, _, _, ha, hb, _ => by simpa [endsL] using ⟨ha, hb⟩
 | k + 1, i, c, d, t, a, b, ra, rb, ha, hb, ht => by
  rw [endsL]
  split
  ·have h1 := roundE_Bd (mBelowC c 12) ra rb ha hb ht
   have h2 := roundE_R (mBelowC c 12) ra rb
   have := endsL_Bd k (i + 1) (roundE (mBelowC c 12) a b).1 (d + 400) (t + 1) _ _ h2.1 h2.2 h1.1 h1.2 (by omega)
   exact ⟨Bd_mono this.1 (by push_cast; omega) (by push_cast; omega), Bd_mono this.2 (by push_cast; omega) (by push_cast; omega)⟩
  ·exact ⟨Bd_mono ha (by push_cast; omega) (by push_cast; omega), Bd_mono hb (by push_cast; omega) (by push_cast; omega)⟩
theorem mEnds_Bd (c : DCur) : Bd 7000 20 (mEnds c).2.1 ∧ Bd 7000 20 (mEnds c).2.2 := by
 have hA : Bd 1006 0 (endA (mDPol c)) := ⟨by simp [endA], by simp [endA], by simp [endA]⟩
 have hB : Bd 1006 0 (endB (mDPol (mDPolC c))) := ⟨by simp [endB], by simp [endB], by simp [endB]⟩
 have := endsL_Bd 13 0 (mDPolC (mDPolC c)) 1006 0 _ _ (endA_R (mDPol_ok _)) (endB_R (mDPol_ok _)) hA hB (by omega)
 exact ⟨Bd_mono this.1 (by omega) (by omega), Bd_mono this.2 (by omega) (by omega)⟩
/-! asked once, nothing more is missing -/
end Go.Eng

namespace Go.Eng

section
variable {J : DEnd → DEnd → Prop} {X X' Y Y' : DEnd → DEnd → DLetter → Prop}
 (hy : ∀ x y l, J x y → X x y l → J x (mHear y l).1 ∧ (∀ m ∈ (mHear y l).2, Y' x (mHear y l).1 m) ∧ (∀ m, X x y m → X x (mHear y l).1 m) ∧ (∀ m, Y' x y m → Y' x (mHear y l).1 m))
 (hx : ∀ x y l, J x y → Y x y l → J (mHear x l).1 y ∧ (∀ m ∈ (mHear x l).2, X' (mHear x l).1 y m) ∧ (∀ m, Y x y m → Y (mHear x l).1 y m) ∧ (∀ m, X' x y m → X' (mHear x l).1 y m))
 (lx : ∀ x y m, X' x y m → X x y m) (ly : ∀ x y m, Y' x y m → Y x y m)
end
section
variable {I : DEnd → DEnd → Prop} {A A' B B' : DEnd → DEnd → DLetter → Prop}
 (aa : ∀ k c a b, I a b → I (actE k a c).1 b ∧ ∀ l ∈ (actE k a c).2, A (actE k a c).1 b l)
 (ab : ∀ k c a b, I a b → I a (actE k b c).1 ∧ ∀ l ∈ (actE k b c).2, B a (actE k b c).1 l)
 (hb : ∀ a b l, I a b → A a b l → I a (mHear b l).1 ∧ (∀ m ∈ (mHear b l).2, B' a (mHear b l).1 m) ∧ (∀ m, A a b m → A a (mHear b l).1 m) ∧ (∀ m, B' a b m → B' a (mHear b l).1 m))
 (ha : ∀ a b l, I a b → B a b l → I (mHear a l).1 b ∧ (∀ m ∈ (mHear a l).2, A' (mHear a l).1 b m) ∧ (∀ m, B a b m → B (mHear a l).1 b m) ∧ (∀ m, A' a b m → A' (mHear a l).1 b m))
 (hb' : ∀ a b l, I a b → A' a b l → I a (mHear b l).1 ∧ (∀ m ∈ (mHear b l).2, B' a (mHear b l).1 m) ∧ (∀ m, A' a b m → A' a (mHear b l).1 m) ∧ (∀ m, B' a b m → B' a (mHear b l).1 m))
 (la : ∀ a b m, A' a b m → A a b m) (lb : ∀ a b m, B' a b m → B a b m)
end
end Go.Eng

namespace Go.Eng

def SubRel (l l' : List DSub) : Prop :=
 (∀ s' ∈ l', ∃ s ∈ l, s'.road = s.road ∧ s'.mine = s.mine ∧ s'.take = s.take ∧ ((s'.state = 2 ∨ s'.state = 3) → (s.state = 2 ∨ s.state = 3) ∧ s'.give = s.give)) ∧
 (∀ s ∈ l, ∃ s' ∈ l', s'.mine = s.mine ∧ s'.take = s.take)
structure AKeep (a o : DEnd) : Prop where
 draw : o.draw = a.draw
 done : o.done = a.done
 halfs : a.halfs = [] → o.halfs = []
 own : ∀ x' ∈ o.own, ∃ x ∈ a.own, x'.addr = x.addr ∧ x'.id = x.id
 subs : SubRel a.subs o.subs
theorem SubRel.refl (l : List DSub) : SubRel l l := ⟨fun s hs => ⟨s, hs, rfl, rfl, rfl, fun h => ⟨h, rfl⟩⟩, fun s hs => ⟨s, hs, rfl, rfl⟩⟩
theorem AKeep_q {a o : DEnd} (h1 : o.draw = a.draw) (h2 : o.done = a.done) (h3 : o.halfs = a.halfs) (h4 : o.own = a.own) (h5 : o.subs = a.subs) : AKeep a o :=
 ⟨h1, h2, fun h => h3.trans h, fun x hx => ⟨x, h4 ▸ hx, rfl, rfl⟩, h5 ▸ SubRel.refl _⟩
theorem AKeep.refl (a : DEnd) : AKeep a a := AKeep_q rfl rfl rfl rfl rfl
end Go.Eng

namespace Go.Eng

/-! what each end does -/
end Go.Eng

namespace Go.Eng

theorem subAt_set {e o : DEnd} {r : DRoad} {s : DSub} {n : Nat} (ho : o.subs = e.subs.set n s) (hn : n < e.subs.length) (hs : s.road = (gS e.subs n).road) (h4 : (gS e.subs n).state ≠ 4) (h4' : s.state ≠ 4) : mSubAt o r = mSubAt e r := by
 unfold mSubAt
 rw [ho]
 refine findL_same _ _ _ 0 ?_
 rw [List.map_set]
 apply List.ext_getElem?
 intro j
 rw [List.getElem?_set]
 split
 ·rename_i hj; subst hj
  have : gS e.subs n = e.subs[n] := by simp [gS, List.getD, hn]
  rw [this] at hs h4
  have e1 : (s.state != 4) = true := by simpa using h4'
  have e2 : (e.subs[n].state != 4) = true := by simpa using h4
  simp [hn, pSub, hs, e1, e2]
 ·rfl
end Go.Eng

namespace Go.Eng

def hF (F : DEnd → DLetter → DEnd × List DLetter) : List DLetter → DEnd → DEnd
 | [], x => x
 | l :: r, x => hF F r (F x l).1
end Go.Eng

namespace Go.Eng

theorem next_is {p : DPieces} (hk : p.K) (ho : mPiecesOk p = true) : mNextOf p = p.read + p.ready.length := (next_id ho (Nat.le_trans hk.1 (by decide))).1
end Go.Eng

namespace Go.Eng

theorem hear_inn {e : DEnd} (x : DLetter) (h : x.kind ≠ 11) : (mHear e x).1.inn = e.inn := by
 have P := @iteP (DEnd × List DLetter) (fun z => z.1.inn = e.inn)
 unfold mHear
 rw [if_neg h]
 refine P (P ?_ (P ?_ (P ?_ (P ?_ (P ?_ (P ?_ (P ?_ (P ?_ (P ?_ (P ?_ (P ?_ rfl))))))))))) rfl
 ·unfold mHearHello; split <;> rfl
 ·unfold mHearBack; split <;> rfl
 ·unfold mHearJoin; split <;> rfl
 ·unfold mHearJoinBack; split <;> rfl
 ·unfold mHearJoinDone; repeat' split
  all_goals rfl
 ·unfold mHearJoinAck; split <;> rfl
 ·unfold mHearAddr; split <;> rfl
 ·unfold mHearEcho; split <;> rfl
 ·unfold mHearGone; split <;> rfl
 ·unfold mHearCame; split <;> rfl
 ·unfold mHearReset; split <;> rfl
end Go.Eng

namespace Go.Eng

theorem ppF_laid : ∀ (l out : List DPiece) (x : DPiece), (∀ z ∈ l, w64 (x.pos + (x.text.length : Int)) < z.pos) → ppF l out x true = (out ++ l, x, true)
 | [], out, x, _ => by simp [ppF]
 | y :: l, out, x, h => by
  have ih := ppF_laid l (out ++ [y]) x fun z hz => h z (by simp [hz])
  have e : out ++ [y] ++ l = out ++ y :: l := by simp
  rw [ppF]
  split
  ·rw [ih, e]
  ·rw [if_pos (h y (by simp)), if_pos rfl, ih, e]
/-- What is held. -/
def hold (p : DPieces) : Nat := p.ready.length + sumT p.list
theorem put_old {p : DPieces} {pos : Int} {t : List UInt8} (hn : mNextOf p = p.read + p.ready.length) (h : pos + t.length ≤ p.read + p.ready.length) : mPutPiece p pos t = p := by
 unfold mPutPiece
 rw [if_neg (fun hc => by have := hc.2.2.2; omega)]
end Go.Eng

namespace Go.Eng

end Go.Eng

namespace Go.Eng

end Go.Eng

namespace Go.Eng
def mLong (n x : Int) : List UInt8 := List.replicate n.toNat (UInt8.ofNat x.toNat)
theorem rep_step {i n : Nat} (x : Int) (h : i < n) : (List.replicate i x ++ List.replicate (n - i) 0).set i x = List.replicate (i + 1) x ++ List.replicate (n - (i + 1)) 0 := by
 have e : n - i = (n - (i + 1)) + 1 := by omega
 rw [e, List.replicate_succ, List.set_append_right _ _ (by simp), List.length_replicate, Nat.sub_self, List.set_cons_zero]
 rw [List.replicate_succ' , List.append_assoc]
 rfl
theorem rep_len {i n : Nat} (x : Int) (h : i ≤ n) : (List.replicate i x ++ List.replicate (n - i) (0 : Int)).length = n := by simp; omega
end Go.Eng
