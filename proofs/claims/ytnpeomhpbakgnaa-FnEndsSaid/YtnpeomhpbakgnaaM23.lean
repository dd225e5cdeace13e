/- Plain models of what the functions compute. -/
import Derived.Test.YtnpeomhpbakgnaaM22
set_option linter.unusedVariables false
set_option linter.unusedSimpArgs false
namespace Go.Eng
theorem bytesRow_W {l : List Int} (h : wfC (aRow .u8).cts ((aRow .u8).to l)) : l.length ≤ 9223372036854775807 := by
  simp only [wfC, wfL, LT.leaf, maxLen] at h
  obtain ⟨⟨h1, h2⟩, _⟩ := h
  omega
theorem endNew_ok {s a : Int} {p : DPolicy} (h : (mEndNew s a p).2 = true) :
    mEndOk (mEndNew s a p).1 = true ∧ mOwns (mEndNew s a p).1 a = true ∧ (mDrawn (mEndNew s a p).1).2 = w64 (1000 + s) ∧
    (mDrawn (mDrawn (mEndNew s a p).1).1).2 = w64 (w64 (1000 + s) + 2) ∧ (mDrawn (mDrawn (mEndNew s a p).1).1).1.draw = w64 (w64 (w64 (1000 + s) + 2) + 2) ∧
    mOnOf (mEndNew s a p).1 = [] ∧ mHaveOf (mEndNew s a p).1 = [] ∧ mTokenFor s = w64 (100 + s) := by
  unfold mEndNew at h ⊢
  split at h
  · rename_i hc
    obtain ⟨h1, h2, h3⟩ := hc
    rw [if_pos ⟨h1, h2, h3⟩]
    have hs := mIn_iff.1 h1
    have e1 : w64 (1000 + s) = 1000 + s := w64_id (by omega) (by omega)
    have e2 : w64 (1000 + s + 2) = 1000 + s + 2 := w64_id (by omega) (by omega)
    have e3 : w64 (1000 + s + 2 + 2) = 1000 + s + 4 := by rw [w64_id (by omega) (by omega)]; omega
    have d1 : mIn (1000 + s) 1 999999998 = true := mIn_iff.2 (by omega)
    have d2 : mIn (1000 + s + 2) 1 999999998 = true := mIn_iff.2 (by omega)
    have n1 : mNum (1000 + s) = true := mNum_iff.2 (by omega)
    simp only [e1]
    refine ⟨?_, ?_, ?_, ?_, ?_, rfl, rfl, ?_⟩
    · simp only [mEndOk, mEndOk0, mEndOk1, h1, h2, h3, n1, Bool.true_and, Bool.and_true]
      rfl
    · simp [mOwns, anyL]
    · simp only [mDrawn, d1, if_true]
    · simp only [mDrawn, d1, e2, d2, if_true]
    · simp only [mDrawn, d1, e2, d2, if_true, e3]
    · simp only [mTokenFor, h1, if_true]
  · exact absurd h (by simp)
end Go.Eng
