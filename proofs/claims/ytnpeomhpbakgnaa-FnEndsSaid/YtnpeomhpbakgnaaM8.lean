/- Plain models of what the functions compute. -/
import Derived.Test.YtnpeomhpbakgnaaM7
set_option linter.unusedVariables false
set_option linter.unusedSimpArgs false
namespace Go.Eng

theorem mIn_iff {n l h : Int} : mIn n l h = true ↔ l ≤ n ∧ n ≤ h := by simp [mIn]
theorem mNum_iff {n : Int} : mNum n = true ↔ 0 ≤ n ∧ n ≤ 1000000000 := mIn_iff
theorem endOk_split {e : DEnd} (h : mEndOk e = true) : mEndOk0 e = true ∧ mEndOk1 e = true ∧ e.subs.length ≤ 8 ∧ allI (pSubOk e) e.subs.length 0 = true := by
  simpa [mEndOk, and_assoc] using h
theorem endOk_nums {e : DEnd} (h : mEndOk e = true) : (0 ≤ e.key ∧ e.key ≤ 1000000000) ∧ (0 ≤ e.peer ∧ e.peer ≤ 1000000000) ∧ (0 ≤ e.draw ∧ e.draw ≤ 1000000000) ∧ (0 ≤ e.now ∧ e.now ≤ 1000000000) ∧ (0 ≤ e.pick ∧ e.pick ≤ 1000000000) := by
  have := (endOk_split h).2.1
  simp only [mEndOk1, Bool.and_eq_true, mNum_iff] at this
  omega
theorem endOk_pick {e : DEnd} (h : mEndOk e = true) : 0 ≤ e.pick := (endOk_nums h).2.2.2.2.1
theorem tmod_bd (l : List Int) {n : Int} (h : 0 ≤ n) : l.length ≠ 0 → (l.length : Int) ≠ 0 ∧ 0 ≤ n.tmod (l.length : Int) ∧ n.tmod (l.length : Int) < (l.length : Int) := by
  intro hl
  refine ⟨by omega, Int.tmod_nonneg _ h, ?_⟩
  rw [Int.tmod_eq_emod_of_nonneg h]
  exact Int.emod_lt_of_pos _ (by omega)
theorem outOk_bd {o : DOut} (h : mOutOk o = true) : (0 ≤ o.base ∧ o.base ≤ 1000000000) ∧ (1 ≤ o.room ∧ o.room ≤ 200) ∧ (o.text.length : Int) ≤ o.room ∧ o.base ≤ o.sent ∧ o.sent ≤ o.base + o.text.length := by
  simp only [mOutOk, Bool.and_eq_true, mNum_iff, mIn_iff, decide_eq_true_eq] at h
  obtain ⟨⟨⟨h1, h2⟩, h3⟩, h4, h5⟩ := h
  rw [w64_id (by omega) (by omega)] at h5
  omega
theorem endOk_parts {e : DEnd} (h : mEndOk e = true) : mAddrsOk e.own = true ∧ mAddrsOk e.far = true ∧ mHalfsOk e.halfs = true ∧ mBucketOk e.bucket = true ∧ mOutOk e.out = true ∧ mPiecesOk e.inn = true := by
  have := (endOk_split h).1
  simp only [mEndOk0, Bool.and_eq_true] at this
  simp [this]
theorem piecesOk_bd {p : DPieces} (h : mPiecesOk p = true) : (0 ≤ p.read ∧ p.read ≤ 1000000000) ∧ p.list.length ≤ 20 := by
  simp only [mPiecesOk, Bool.and_eq_true, mNum_iff, decide_eq_true_eq] at h
  exact ⟨h.1.1.1, h.1.1.2⟩
theorem mAddOwn_no {e : DEnd} {a : DAddr} (h : (mPutAddr e.own { a with told := false }).2 = false) : mAddOwn e a = (e, false) := by
  unfold mAddOwn
  rw [mPutAddr_no h, h]
  split <;> rfl
theorem mWrite_B {e : DEnd} (t : List UInt8) (h : e.B) : (mWrite e t).1.B := by unfold mWrite; split <;> exact h
theorem mTakeReady_list (p : DPieces) (n : Int) : (mTakeReady p n).1.list = p.list := by unfold mTakeReady; split <;> rfl
theorem mRead_B {e : DEnd} (n : Int) (h : e.B) : (mRead e n).1.B := by
  unfold mRead
  split
  · obtain ⟨h1, h2, h3, h4, h5, h6, h7⟩ := h
    exact ⟨h1, h2, h3, h4, by show (mTakeReady e.inn n).1.list.length ≤ _; rw [mTakeReady_list]; exact h5, h6, h7⟩
  · exact h
theorem mAddOwn_B {e : DEnd} (a : DAddr) (h : e.B) (h0 : e.own.length ≤ 1048576) : (mAddOwn e a).1.B := by
  unfold mAddOwn
  split
  · obtain ⟨h1, h2, h3, h4, h5, h6, h7⟩ := h
    have := mPutAddr_len e.own { a with told := false }
    exact ⟨by show (mPutAddr e.own { a with told := false }).1.length ≤ _; omega, h2, h3, h4, h5, h6, h7⟩
  · exact h
theorem mEndNew_B (s a : Int) (p : DPolicy) : (mEndNew s a p).1.B := by
  unfold mEndNew
  split <;> simp [DEnd.B]
theorem mTellAddrs_len {e : DEnd} (h : e.B) : (mTellAddrs e).length ≤ 1073741824 := by
  unfold mTellAddrs
  split
  · exact Nat.le_trans (colL_le _ _ _) h.1
  · simp
end Go.Eng
