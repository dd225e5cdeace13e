/- Plain models of what the functions compute. -/
import Derived.Test.YtnpeomhpbakgnaaM16
set_option linter.unusedVariables false
set_option linter.unusedSimpArgs false
namespace Go.Eng

def fYoung (now : Int) (h : DHalf) (_ : Nat) : Option DHalf := if h.til > now then some h else none
def mYounger (l : List DHalf) (now : Int) : List DHalf := colL (fYoung now) l 0
def mBrought (n l h : Int) : Int := if h < l ∨ n < l then l else if n > h then h else n
def tickG (s : DSub) : DSub :=
  if s.state ≠ 1 ∧ s.state ≠ 2 then s else if s.state = 2 ∧ s.tries + 1 ≥ 9 then { s with tries := s.tries + 1, state := 4 } else { s with tries := s.tries + 1 }
def tickF (e : DEnd) (s : DSub) (_ : Nat) : Option DLetter :=
  if s.state ≠ 1 ∧ s.state ≠ 2 then none else if s.state = 2 ∧ s.tries + 1 ≥ 9 then none else if (s.tries + 1).tmod 3 ≠ 0 then none
  else if s.state = 1 then some (mJoinLetter e s) else some (mDoneLetter e s)
def mTired (e : DEnd) : Bool := anyL (fun s : DSub => decide (s.tries ≥ 1000000000)) e.subs
def mTick0 (e : DEnd) : DEnd := { e with now := e.now + 1, bucket := mFilled e.bucket, halfs := mYounger e.halfs (e.now + 1), out := mAnew e.out }
def mTick1 (e : DEnd) : DEnd := if e.state = 2 then { mTick0 e with subs := e.subs.map tickG } else mTick0 e
def mTickL (e : DEnd) : List DLetter := if e.state = 2 then colL (tickF e) e.subs 0 else []
def mTickEnd (e : DEnd) (l : List DLetter) : DEnd × List DLetter := ((pushN 3 e).1, l ++ mTellAddrs e ++ (pushN 3 e).2)
def mTick (e : DEnd) : DEnd × List DLetter :=
  if mEndOk e = true ∧ e.now < 1000000000 ∧ mTired e = false then mTickEnd (mTick1 e) (mTickL e) else (e, [])
theorem mTick0_B {e : DEnd} (h : e.B) : (mTick0 e).B := by
  obtain ⟨h1, h2, h3, h4, h5, h6, h7⟩ := h
  exact ⟨h1, h2, h3, Nat.le_trans (colL_le _ _ _) h4, h5, h6, h7⟩
theorem mTick1_B {e : DEnd} (h : e.B) : (mTick1 e).B := by
  unfold mTick1
  split
  · obtain ⟨h1, h2, h3, h4, h5, h6, h7⟩ := mTick0_B h
    exact ⟨h1, h2, by show (e.subs.map tickG).length ≤ _; rw [List.length_map]; exact h3, h4, h5, h6, h7⟩
  · exact mTick0_B h
theorem mTick_B {e : DEnd} (h : e.B) : (mTick e).1.B := by
  unfold mTick
  split
  · exact pushN_B (mTick1_B h) 3
  · exact h
theorem mTick_len {e : DEnd} (h : e.B) (h2 : e.own.length ≤ 1048576) (h3 : e.subs.length ≤ 1048576) : (mTick e).2.length ≤ 1073741824 := by
  unfold mTick
  split
  · have h4 := pushN_len (mTick1 e) 3
    have h5 : (mTickL e).length ≤ e.subs.length := by
      unfold mTickL
      split
      · exact colL_le _ _ _
      · simp
    have h6 : (mTellAddrs (mTick1 e)).length ≤ e.own.length := by
      unfold mTellAddrs
      split
      · refine Nat.le_trans (colL_le _ _ _) ?_
        unfold mTick1
        split <;> exact Nat.le_refl _
      · simp
    simp only [mTickEnd, List.length_append]
    omega
  · simp
theorem tired_no {e : DEnd} (h : mTired e = false) (i : Nat) (s : DSub) (hs : e.subs[i]? = some s) : s.tries < 1000000000 := by
  have := mt (anyL_iff (fun s : DSub => decide (s.tries ≥ 1000000000)) e.subs).2 (by rw [mTired] at h; simp [h])
  have hm := List.mem_of_getElem? hs
  by_cases hc : s.tries ≥ 1000000000
  · exact absurd ⟨s, hm, by simpa using hc⟩ this
  · omega
theorem sub_nums {e : DEnd} (h : mEndOk e = true) (i : Nat) (s : DSub) (hs : e.subs[i]? = some s) : 0 ≤ s.tries ∧ s.tries ≤ 1000000000 := by
  have h2 := (allI_iff _ _ _).1 (endOk_split h).2.2.2 i (by omega) (by have := (List.getElem?_eq_some_iff.1 hs).1; omega)
  have hg : gS e.subs i = s := by simp [gS, List.getD, hs]
  simp only [pSubOk, hg, Bool.and_eq_true, mNum_iff] at h2
  omega
theorem join_tries (e : DEnd) (s : DSub) (t : Int) : mJoinLetter e { s with tries := t } = mJoinLetter e s := rfl
theorem done_tries (e : DEnd) (s : DSub) (t : Int) : mDoneLetter e { s with tries := t } = mDoneLetter e s := rfl
theorem now_w1 {e : DEnd} (h : mEndOk e = true) : w64 (e.now + 1) = e.now + 1 := by
  have := endOk_nums h
  exact w64_id (by omega) (by omega)
theorem tell_small {e : DEnd} (h : mEndOk e = true) : (mTellAddrs (mTick1 e)).length ≤ 6 := by
  have ha := mAddrsOk_len (endOk_parts h).1
  unfold mTellAddrs
  split
  · refine Nat.le_trans (colL_le _ _ _) ?_
    unfold mTick1
    split <;> exact ha
  · simp
end Go.Eng
