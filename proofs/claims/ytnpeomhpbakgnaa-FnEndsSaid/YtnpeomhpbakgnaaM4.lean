/- Plain models of what the functions compute. -/
import Derived.Test.YtnpeomhpbakgnaaM3
set_option linter.unusedVariables false
set_option linter.unusedSimpArgs false
namespace Go.Eng

/-- Do all fit? -/
def allL {α : Type} (p : α → Bool) : List α → Bool
  | [] => true
  | x :: l => if p x = true then allL p l else false
/-- Does p hold at the n places from i on? -/
def allI (p : Nat → Bool) : Nat → Nat → Bool
  | 0, _ => true
  | n + 1, i => if p i = true then allI p n (i + 1) else false
theorem allI_iff (p : Nat → Bool) : ∀ n i, allI p n i = true ↔ ∀ j, i ≤ j → j < i + n → p j = true
  | 0, i => by simp only [allI, true_iff]; intro j h1 h2; omega
  | n + 1, i => by
    rw [allI]
    constructor
    · intro h
      split at h
      · rename_i hp
        have := (allI_iff p n (i + 1)).1 h
        intro j h1 h2
        rcases Nat.lt_or_eq_of_le h1 with h3 | h3
        · exact this j h3 (by omega)
        · exact h3 ▸ hp
      · cases h
    · intro h
      rw [if_pos (h i (Nat.le_refl _) (by omega))]
      exact (allI_iff p n (i + 1)).2 fun j h1 h2 => h j (by omega) (by omega)
theorem allI_step (p : Nat → Bool) {n i : Nat} (h : i < n) : allI p (n - i) i = if p i = true then allI p (n - (i + 1)) (i + 1) else false := by
  rw [show n - i = (n - (i + 1)) + 1 by omega, allI]
theorem allI_end (p : Nat → Bool) (n : Nat) : allI p (n - n) n = true := by rw [Nat.sub_self, allI]
theorem allL_iff {α : Type} (p : α → Bool) : ∀ l, allL p l = true ↔ ∀ x ∈ l, p x = true
  | [] => by simp [allL]
  | x :: l => by
    rw [allL]
    have := allL_iff p l
    split <;> rename_i h <;> simp_all

def mNums (l : List Int) : Bool := allL mNum l
def mAddrAt (l : List DAddr) (id : Int) : Int := findL (fun a : DAddr => a.id == id) l 0
def mHalfAt (l : List DHalf) (r : DRoad) : Int := findL (fun h : DHalf => decide (h.road = r)) l 0
theorem mAddrAt_bd (l : List DAddr) (id : Int) : mAddrAt l id = -1 ∨ (0 ≤ mAddrAt l id ∧ mAddrAt l id < l.length) := by
  have := findL_bd (fun a : DAddr => a.id == id) l 0
  simpa [mAddrAt] using this
theorem mHalfAt_bd (l : List DHalf) (r : DRoad) : mHalfAt l r = -1 ∨ (0 ≤ mHalfAt l r ∧ mHalfAt l r < l.length) := by
  have := findL_bd (fun h : DHalf => decide (h.road = r)) l 0
  simpa [mHalfAt] using this
abbrev gA (l : List DAddr) (i : Nat) : DAddr := l.getD i (ETy.zero .addr)
def pDiff (l : List DAddr) (i j : Nat) : Bool := !((gA l i).addr == (gA l j).addr)
def pAddr0 (l : List DAddr) (i : Nat) : Bool :=
  mIn (gA l i).id 0 255 && mIn (gA l i).addr 1 65535 && !(decide (0 < i) && decide ((gA l (i - 1)).id ≥ (gA l i).id))
def pAddr (l : List DAddr) (i : Nat) : Bool := pAddr0 l i && allI (pDiff l i) i 0
def mAddrsOk (l : List DAddr) : Bool := decide (l.length ≤ 6) && allI (pAddr l) l.length 0
abbrev gH (l : List DHalf) (i : Nat) : DHalf := l.getD i (ETy.zero .half)
def pHalf (l : List DHalf) (i : Nat) : Bool :=
  decide (mHalfAt l (gH l i).road = i) && mRoadNum (gH l i).road && mNum (gH l i).theirs && mNum (gH l i).mine && mNum (gH l i).give && mNum (gH l i).take && mNum (gH l i).til
def mHalfsOk (l : List DHalf) : Bool := decide (l.length ≤ 4) && allI (pHalf l) l.length 0
def pRise (l : List Int) (i : Nat) : Bool := !decide (l.getD (i - 1) (ETy.zero .int) ≥ l.getD i (ETy.zero .int))
def mRising (l : List Int) : Bool := allI (pRise l) (l.length - 1) 1
def pId (t : List DAddr) (n : Int) : Bool := mIn n 0 255 && !decide (mAddrAt t n ≥ 0)
def pGone (l : List Int) (t : List DAddr) (i : Nat) : Bool := (decide (i = 0) || pRise l i) && pId t (l.getD i (ETy.zero .int))
def mGone (l : List Int) (t : List DAddr) : Bool := allI (pGone l t) l.length 0
theorem mGone_eq (l : List Int) (t : List DAddr) : (if mRising l = true then allL (pId t) l else false) = mGone l t := by
  rw [Bool.eq_iff_iff]
  have h1 := allI_iff (pRise l) (l.length - 1) 1
  have h2 := allI_iff (pGone l t) l.length 0
  have h3 := allL_iff (pId t) l
  constructor
  · intro h
    split at h
    · rename_i hr
      refine h2.2 fun j _ hj => ?_
      have hj : j < l.length := by omega
      have hx : l.getD j (ETy.zero .int) = l[j] := by simp [List.getD, hj]
      have ha := h3.1 h (l.getD j (ETy.zero .int)) (hx ▸ List.getElem_mem hj)
      simp only [pGone, Bool.and_eq_true, Bool.or_eq_true, decide_eq_true_eq]
      refine ⟨?_, ha⟩
      rcases Nat.eq_zero_or_pos j with h0 | h0
      · exact .inl h0
      · exact .inr (h1.1 hr j h0 (by omega))
    · cases h
  · intro h
    have h := h2.1 h
    have hr : mRising l = true := h1.2 fun j hj1 hj2 => by
      have := h j (by omega) (by omega)
      simp only [pGone, Bool.and_eq_true, Bool.or_eq_true, decide_eq_true_eq] at this
      rcases this.1 with h0 | h0
      · omega
      · exact h0
    rw [if_pos hr]
    · refine h3.2 fun x hx => ?_
      obtain ⟨j, hj, rfl⟩ := List.getElem_of_mem hx
      have := h j (by omega) (by omega)
      simp only [pGone, Bool.and_eq_true] at this
      have hx : l.getD j (ETy.zero .int) = l[j] := by simp [List.getD, hj]
      rw [hx] at this
      exact this.2
def mNextOf (p : DPieces) : Int := w64 (p.read + (p.ready.length : Int))
def hdW : List DPiece → Int → Int
  | [], n => n
  | x :: l, n => hdW l (w64 (n + (x.text.length : Int)))
def mHeldOf (p : DPieces) : Int := hdW p.list (p.ready.length : Int)
def pOrd (x : DPiece) (e : Int) : Bool := !(x.text.length == 0) && !decide (x.pos > 2000000000) && !decide (x.pos ≤ e)
def ordL : List DPiece → Int → Bool
  | [], _ => true
  | x :: l, e => if pOrd x e = true then ordL l (w64 (x.pos + (x.text.length : Int))) else false
def mPiecesOk (p : DPieces) : Bool := mNum p.read && decide (p.list.length ≤ 20) && ordL p.list (mNextOf p) && decide (mHeldOf p ≤ 200)
abbrev gS (l : List DSub) (i : Nat) : DSub := l.getD i (ETy.zero .sub)
def pSubOk (e : DEnd) (i : Nat) : Bool :=
  mIn (gS e.subs i).state 1 4 && mRoadNum (gS e.subs i).road && mNum (gS e.subs i).mine && mNum (gS e.subs i).theirs && mNum (gS e.subs i).give && mNum (gS e.subs i).take && mNum (gS e.subs i).tries &&
  (decide ((gS e.subs i).state = 4) || decide (mSubAt e (gS e.subs i).road = i))
def mEndOk0 (e : DEnd) : Bool := mIn e.side 1 2 && mIn e.state 0 2 && mPolicyOk e.policy && mAddrsOk e.own && mAddrsOk e.far && mHalfsOk e.halfs && mBucketOk e.bucket && mOutOk e.out && mPiecesOk e.inn
def mEndOk1 (e : DEnd) : Bool := mGone e.done e.own && mGone e.over e.far && mNum e.key && mNum e.peer && mNum e.draw && mNum e.now && mNum e.pick
def mEndOk (e : DEnd) : Bool := mEndOk0 e && mEndOk1 e && decide (e.subs.length ≤ 8) && allI (pSubOk e) e.subs.length 0
end Go.Eng
