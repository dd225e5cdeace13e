/- Plain models of what the functions compute. -/
import Derived.Test.YtnpeomhpbakgnaaM12
set_option linter.unusedVariables false
set_option linter.unusedSimpArgs false
namespace Go.Eng
theorem mPutHalf_len (l : List DHalf) (h : DHalf) : (mPutHalf l h).1.length ≤ l.length + 1 := by
  have h1 : (mPutHalfL l h).length ≤ l.length + 1 := by unfold mPutHalfL; split <;> simp
  unfold mPutHalf
  split
  · exact h1
  · exact Nat.le_succ _
theorem mDropHalf_len (l : List DHalf) (r : DRoad) : (mDropHalf l r).length ≤ l.length := by
  unfold mDropHalf
  split
  · exact Nat.le_refl _
  · simp; omega
theorem mGoneAt_len (l : List DSub) (k : Int) : (mGoneAt l k).length = l.length := by
  unfold mGoneAt
  split <;> simp
theorem goneIf_len (p : DSub → Bool) (l : List DSub) : (goneIf p l).length = l.length := by simp [goneIf]
theorem mOpen_B {e : DEnd} (f : Int) (h : e.B) : (mOpen e f).1.B := by
  obtain ⟨h1, h2, h3, h4, h5, h6, h7⟩ := id h
  unfold mOpen
  repeat' split
  all_goals first | exact h | (rename_i hc; have h8 := (endOk_split hc.1).2.2.1; have h9 := endOk_ids hc.1; have ha := mAddrsOk_len (endOk_parts hc.1).2.1; have hz := mHalfsOk_len (endOk_parts hc.1).2.2.1) | (rename_i hc _; have h8 := (endOk_split hc.1).2.2.1; have h9 := endOk_ids hc.1; have ha := mAddrsOk_len (endOk_parts hc.1).2.1; have hz := mHalfsOk_len (endOk_parts hc.1).2.2.1) | (rename_i hc; have h8 := (endOk_split hc.1.1).2.2.1; have h9 := endOk_ids hc.1.1; have ha := mAddrsOk_len (endOk_parts hc.1.1).2.1; have hz := mHalfsOk_len (endOk_parts hc.1.1).2.2.1) | skip
  all_goals (unfold DEnd.B at h ⊢; simp only [setSub, mMet, List.length_append, List.length_set, List.length_cons, List.length_nil, goneIf_len, mGoneAt_len]; omega)
theorem mOpen_len (e : DEnd) (f : Int) : (mOpen e f).2.length ≤ 1073741824 := by
  unfold mOpen
  repeat' split
  all_goals simp
theorem mHearHello_B {e : DEnd} (x : DLetter) (h : e.B) : (mHearHello e x).1.B := by
  obtain ⟨h1, h2, h3, h4, h5, h6, h7⟩ := id h
  unfold mHearHello
  repeat' split
  all_goals first | exact h | (rename_i hc; have h8 := (endOk_split hc.1).2.2.1; have h9 := endOk_ids hc.1; have ha := mAddrsOk_len (endOk_parts hc.1).2.1; have hz := mHalfsOk_len (endOk_parts hc.1).2.2.1) | (rename_i hc _; have h8 := (endOk_split hc.1).2.2.1; have h9 := endOk_ids hc.1; have ha := mAddrsOk_len (endOk_parts hc.1).2.1; have hz := mHalfsOk_len (endOk_parts hc.1).2.2.1) | (rename_i hc; have h8 := (endOk_split hc.1.1).2.2.1; have h9 := endOk_ids hc.1.1; have ha := mAddrsOk_len (endOk_parts hc.1.1).2.1; have hz := mHalfsOk_len (endOk_parts hc.1.1).2.2.1) | skip
  all_goals (unfold DEnd.B at h ⊢; simp only [setSub, mMet, List.length_append, List.length_set, List.length_cons, List.length_nil, goneIf_len, mGoneAt_len]; omega)
theorem mHearHello_len (e : DEnd) (x : DLetter) : (mHearHello e x).2.length ≤ 1073741824 := by
  unfold mHearHello
  repeat' split
  all_goals simp
theorem mHearBack_B {e : DEnd} (x : DLetter) (h : e.B) : (mHearBack e x).1.B := by
  obtain ⟨h1, h2, h3, h4, h5, h6, h7⟩ := id h
  unfold mHearBack
  repeat' split
  all_goals first | exact h | (rename_i hc; have h8 := (endOk_split hc.1).2.2.1; have h9 := endOk_ids hc.1; have ha := mAddrsOk_len (endOk_parts hc.1).2.1; have hz := mHalfsOk_len (endOk_parts hc.1).2.2.1) | (rename_i hc _; have h8 := (endOk_split hc.1).2.2.1; have h9 := endOk_ids hc.1; have ha := mAddrsOk_len (endOk_parts hc.1).2.1; have hz := mHalfsOk_len (endOk_parts hc.1).2.2.1) | (rename_i hc; have h8 := (endOk_split hc.1.1).2.2.1; have h9 := endOk_ids hc.1.1; have ha := mAddrsOk_len (endOk_parts hc.1.1).2.1; have hz := mHalfsOk_len (endOk_parts hc.1.1).2.2.1) | skip
  all_goals (unfold DEnd.B at h ⊢; simp only [setSub, mMet, List.length_append, List.length_set, List.length_cons, List.length_nil, goneIf_len, mGoneAt_len]; omega)
theorem mHearBack_len (e : DEnd) (x : DLetter) : (mHearBack e x).2.length ≤ 1073741824 := by
  unfold mHearBack
  repeat' split
  all_goals simp
theorem mJoin_B {e : DEnd} (r : DRoad) (p : Bool) (h : e.B) : (mJoin e r p).1.B := by
  obtain ⟨h1, h2, h3, h4, h5, h6, h7⟩ := id h
  unfold mJoin
  repeat' split
  all_goals first | exact h | (rename_i hc; have h8 := (endOk_split hc.1).2.2.1; have h9 := endOk_ids hc.1; have ha := mAddrsOk_len (endOk_parts hc.1).2.1; have hz := mHalfsOk_len (endOk_parts hc.1).2.2.1) | (rename_i hc _; have h8 := (endOk_split hc.1).2.2.1; have h9 := endOk_ids hc.1; have ha := mAddrsOk_len (endOk_parts hc.1).2.1; have hz := mHalfsOk_len (endOk_parts hc.1).2.2.1) | (rename_i hc; have h8 := (endOk_split hc.1.1).2.2.1; have h9 := endOk_ids hc.1.1; have ha := mAddrsOk_len (endOk_parts hc.1.1).2.1; have hz := mHalfsOk_len (endOk_parts hc.1.1).2.2.1) | skip
  all_goals (unfold DEnd.B at h ⊢; simp only [setSub, mMet, List.length_append, List.length_set, List.length_cons, List.length_nil, goneIf_len, mGoneAt_len]; omega)
theorem mJoin_len (e : DEnd) (r : DRoad) (p : Bool) : (mJoin e r p).2.length ≤ 1073741824 := by
  unfold mJoin
  repeat' split
  all_goals simp
theorem mHearJoin_B {e : DEnd} (x : DLetter) (h : e.B) : (mHearJoin e x).1.B := by
  obtain ⟨h1, h2, h3, h4, h5, h6, h7⟩ := id h
  unfold mHearJoin
  repeat' split
  all_goals first | exact h | (rename_i hc; have h8 := (endOk_split hc.1).2.2.1; have h9 := endOk_ids hc.1; have ha := mAddrsOk_len (endOk_parts hc.1).2.1; have hz := mHalfsOk_len (endOk_parts hc.1).2.2.1) | (rename_i hc _; have h8 := (endOk_split hc.1).2.2.1; have h9 := endOk_ids hc.1; have ha := mAddrsOk_len (endOk_parts hc.1).2.1; have hz := mHalfsOk_len (endOk_parts hc.1).2.2.1) | (rename_i hc; have h8 := (endOk_split hc.1.1).2.2.1; have h9 := endOk_ids hc.1.1; have ha := mAddrsOk_len (endOk_parts hc.1.1).2.1; have hz := mHalfsOk_len (endOk_parts hc.1.1).2.2.1) | skip
  all_goals have hp := mPutHalf_len e.halfs (mJoinHalf e x)
  all_goals (unfold DEnd.B at h ⊢; simp only [setSub, mMet, List.length_append, List.length_set, List.length_cons, List.length_nil, goneIf_len, mGoneAt_len]; omega)
theorem mHearJoin_len (e : DEnd) (x : DLetter) : (mHearJoin e x).2.length ≤ 1073741824 := by
  unfold mHearJoin
  repeat' split
  all_goals simp
theorem mHearJoinBack_B {e : DEnd} (x : DLetter) (h : e.B) : (mHearJoinBack e x).1.B := by
  obtain ⟨h1, h2, h3, h4, h5, h6, h7⟩ := id h
  unfold mHearJoinBack
  repeat' split
  all_goals first | exact h | (rename_i hc; have h8 := (endOk_split hc.1).2.2.1; have h9 := endOk_ids hc.1; have ha := mAddrsOk_len (endOk_parts hc.1).2.1; have hz := mHalfsOk_len (endOk_parts hc.1).2.2.1) | (rename_i hc _; have h8 := (endOk_split hc.1).2.2.1; have h9 := endOk_ids hc.1; have ha := mAddrsOk_len (endOk_parts hc.1).2.1; have hz := mHalfsOk_len (endOk_parts hc.1).2.2.1) | (rename_i hc; have h8 := (endOk_split hc.1.1).2.2.1; have h9 := endOk_ids hc.1.1; have ha := mAddrsOk_len (endOk_parts hc.1.1).2.1; have hz := mHalfsOk_len (endOk_parts hc.1.1).2.2.1) | skip
  all_goals (unfold DEnd.B at h ⊢; simp only [setSub, mMet, List.length_append, List.length_set, List.length_cons, List.length_nil, goneIf_len, mGoneAt_len]; omega)
theorem mHearJoinBack_len (e : DEnd) (x : DLetter) : (mHearJoinBack e x).2.length ≤ 1073741824 := by
  unfold mHearJoinBack
  repeat' split
  all_goals simp
theorem mHearJoinDone_B {e : DEnd} (x : DLetter) (h : e.B) : (mHearJoinDone e x).1.B := by
  obtain ⟨h1, h2, h3, h4, h5, h6, h7⟩ := id h
  unfold mHearJoinDone
  repeat' split
  all_goals first | exact h | (rename_i hc; have h8 := (endOk_split hc.1).2.2.1; have h9 := endOk_ids hc.1; have ha := mAddrsOk_len (endOk_parts hc.1).2.1; have hz := mHalfsOk_len (endOk_parts hc.1).2.2.1) | (rename_i hc _; have h8 := (endOk_split hc.1).2.2.1; have h9 := endOk_ids hc.1; have ha := mAddrsOk_len (endOk_parts hc.1).2.1; have hz := mHalfsOk_len (endOk_parts hc.1).2.2.1) | (rename_i hc; have h8 := (endOk_split hc.1.1).2.2.1; have h9 := endOk_ids hc.1.1; have ha := mAddrsOk_len (endOk_parts hc.1.1).2.1; have hz := mHalfsOk_len (endOk_parts hc.1.1).2.2.1) | skip
  all_goals have hp := mDropHalf_len e.halfs (mRoadOf x)
  all_goals (unfold DEnd.B at h ⊢; simp only [setSub, mMet, List.length_append, List.length_set, List.length_cons, List.length_nil, goneIf_len, mGoneAt_len]; omega)
theorem mHearJoinDone_len (e : DEnd) (x : DLetter) : (mHearJoinDone e x).2.length ≤ 1073741824 := by
  unfold mHearJoinDone
  repeat' split
  all_goals simp
theorem mHearJoinAck_B {e : DEnd} (x : DLetter) (h : e.B) : (mHearJoinAck e x).1.B := by
  obtain ⟨h1, h2, h3, h4, h5, h6, h7⟩ := id h
  unfold mHearJoinAck
  repeat' split
  all_goals first | exact h | (rename_i hc; have h8 := (endOk_split hc.1).2.2.1; have h9 := endOk_ids hc.1; have ha := mAddrsOk_len (endOk_parts hc.1).2.1; have hz := mHalfsOk_len (endOk_parts hc.1).2.2.1) | (rename_i hc _; have h8 := (endOk_split hc.1).2.2.1; have h9 := endOk_ids hc.1; have ha := mAddrsOk_len (endOk_parts hc.1).2.1; have hz := mHalfsOk_len (endOk_parts hc.1).2.2.1) | (rename_i hc; have h8 := (endOk_split hc.1.1).2.2.1; have h9 := endOk_ids hc.1.1; have ha := mAddrsOk_len (endOk_parts hc.1.1).2.1; have hz := mHalfsOk_len (endOk_parts hc.1.1).2.2.1) | skip
  all_goals (unfold DEnd.B at h ⊢; simp only [setSub, mMet, List.length_append, List.length_set, List.length_cons, List.length_nil, goneIf_len, mGoneAt_len]; omega)
theorem mHearJoinAck_len (e : DEnd) (x : DLetter) : (mHearJoinAck e x).2.length ≤ 1073741824 := by
  unfold mHearJoinAck
  repeat' split
  all_goals simp
theorem mHearAddr_B {e : DEnd} (x : DLetter) (h : e.B) : (mHearAddr e x).1.B := by
  obtain ⟨h1, h2, h3, h4, h5, h6, h7⟩ := id h
  unfold mHearAddr
  repeat' split
  all_goals first | exact h | (rename_i hc; have h8 := (endOk_split hc.1).2.2.1; have h9 := endOk_ids hc.1; have ha := mAddrsOk_len (endOk_parts hc.1).2.1; have hz := mHalfsOk_len (endOk_parts hc.1).2.2.1) | (rename_i hc _; have h8 := (endOk_split hc.1).2.2.1; have h9 := endOk_ids hc.1; have ha := mAddrsOk_len (endOk_parts hc.1).2.1; have hz := mHalfsOk_len (endOk_parts hc.1).2.2.1) | (rename_i hc; have h8 := (endOk_split hc.1.1).2.2.1; have h9 := endOk_ids hc.1.1; have ha := mAddrsOk_len (endOk_parts hc.1.1).2.1; have hz := mHalfsOk_len (endOk_parts hc.1.1).2.2.1) | skip
  all_goals have hp := mPutAddr_len e.far ⟨x.id, x.addr, x.spare, true⟩
  all_goals (unfold DEnd.B at h ⊢; simp only [setSub, mMet, List.length_append, List.length_set, List.length_cons, List.length_nil, goneIf_len, mGoneAt_len]; omega)
theorem mHearAddr_len (e : DEnd) (x : DLetter) : (mHearAddr e x).2.length ≤ 1073741824 := by
  unfold mHearAddr
  repeat' split
  all_goals simp
theorem mHearEcho_B {e : DEnd} (x : DLetter) (h : e.B) : (mHearEcho e x).1.B := by
  obtain ⟨h1, h2, h3, h4, h5, h6, h7⟩ := id h
  unfold mHearEcho
  repeat' split
  all_goals first | exact h | (rename_i hc; have h8 := (endOk_split hc.1).2.2.1; have h9 := endOk_ids hc.1; have ha := mAddrsOk_len (endOk_parts hc.1).2.1; have hz := mHalfsOk_len (endOk_parts hc.1).2.2.1) | (rename_i hc _; have h8 := (endOk_split hc.1).2.2.1; have h9 := endOk_ids hc.1; have ha := mAddrsOk_len (endOk_parts hc.1).2.1; have hz := mHalfsOk_len (endOk_parts hc.1).2.2.1) | (rename_i hc; have h8 := (endOk_split hc.1.1).2.2.1; have h9 := endOk_ids hc.1.1; have ha := mAddrsOk_len (endOk_parts hc.1.1).2.1; have hz := mHalfsOk_len (endOk_parts hc.1.1).2.2.1) | skip
  all_goals (unfold DEnd.B at h ⊢; simp only [setSub, mMet, List.length_append, List.length_set, List.length_cons, List.length_nil, goneIf_len, mGoneAt_len]; omega)
theorem mHearEcho_len (e : DEnd) (x : DLetter) : (mHearEcho e x).2.length ≤ 1073741824 := by
  unfold mHearEcho
  repeat' split
  all_goals simp
theorem mHearGone_B {e : DEnd} (x : DLetter) (h : e.B) : (mHearGone e x).1.B := by
  obtain ⟨h1, h2, h3, h4, h5, h6, h7⟩ := id h
  unfold mHearGone
  repeat' split
  all_goals first | exact h | (rename_i hc; have h8 := (endOk_split hc.1).2.2.1; have h9 := endOk_ids hc.1; have ha := mAddrsOk_len (endOk_parts hc.1).2.1; have hz := mHalfsOk_len (endOk_parts hc.1).2.2.1) | (rename_i hc _; have h8 := (endOk_split hc.1).2.2.1; have h9 := endOk_ids hc.1; have ha := mAddrsOk_len (endOk_parts hc.1).2.1; have hz := mHalfsOk_len (endOk_parts hc.1).2.2.1) | (rename_i hc; have h8 := (endOk_split hc.1.1).2.2.1; have h9 := endOk_ids hc.1.1; have ha := mAddrsOk_len (endOk_parts hc.1.1).2.1; have hz := mHalfsOk_len (endOk_parts hc.1.1).2.2.1) | skip
  all_goals have hp := mPut_len e.over x.id
  all_goals have hq := mDropAddr_len e.far x.id
  all_goals (unfold DEnd.B at h ⊢; simp only [setSub, mMet, List.length_append, List.length_set, List.length_cons, List.length_nil, goneIf_len, mGoneAt_len]; omega)
theorem mHearGone_len (e : DEnd) (x : DLetter) : (mHearGone e x).2.length ≤ 1073741824 := by
  unfold mHearGone
  repeat' split
  all_goals simp
theorem mHearCame_B {e : DEnd} (x : DLetter) (h : e.B) : (mHearCame e x).1.B := by
  obtain ⟨h1, h2, h3, h4, h5, h6, h7⟩ := id h
  unfold mHearCame
  repeat' split
  all_goals first | exact h | (rename_i hc; have h8 := (endOk_split hc.1).2.2.1; have h9 := endOk_ids hc.1; have ha := mAddrsOk_len (endOk_parts hc.1).2.1; have hz := mHalfsOk_len (endOk_parts hc.1).2.2.1) | (rename_i hc _; have h8 := (endOk_split hc.1).2.2.1; have h9 := endOk_ids hc.1; have ha := mAddrsOk_len (endOk_parts hc.1).2.1; have hz := mHalfsOk_len (endOk_parts hc.1).2.2.1) | (rename_i hc; have h8 := (endOk_split hc.1.1).2.2.1; have h9 := endOk_ids hc.1.1; have ha := mAddrsOk_len (endOk_parts hc.1.1).2.1; have hz := mHalfsOk_len (endOk_parts hc.1.1).2.2.1) | skip
  all_goals (unfold DEnd.B at h ⊢; simp only [setSub, mMet, List.length_append, List.length_set, List.length_cons, List.length_nil, goneIf_len, mGoneAt_len]; omega)
theorem mHearCame_len (e : DEnd) (x : DLetter) : (mHearCame e x).2.length ≤ 1073741824 := by
  unfold mHearCame
  repeat' split
  all_goals simp
theorem mReset_B {e : DEnd} (k : Int) (h : e.B) : (mReset e k).1.B := by
  obtain ⟨h1, h2, h3, h4, h5, h6, h7⟩ := id h
  unfold mReset
  repeat' split
  all_goals first | exact h | (rename_i hc; have h8 := (endOk_split hc.1).2.2.1; have h9 := endOk_ids hc.1; have ha := mAddrsOk_len (endOk_parts hc.1).2.1; have hz := mHalfsOk_len (endOk_parts hc.1).2.2.1) | (rename_i hc _; have h8 := (endOk_split hc.1).2.2.1; have h9 := endOk_ids hc.1; have ha := mAddrsOk_len (endOk_parts hc.1).2.1; have hz := mHalfsOk_len (endOk_parts hc.1).2.2.1) | (rename_i hc; have h8 := (endOk_split hc.1.1).2.2.1; have h9 := endOk_ids hc.1.1; have ha := mAddrsOk_len (endOk_parts hc.1.1).2.1; have hz := mHalfsOk_len (endOk_parts hc.1.1).2.2.1) | skip
  all_goals (unfold DEnd.B at h ⊢; simp only [setSub, mMet, List.length_append, List.length_set, List.length_cons, List.length_nil, goneIf_len, mGoneAt_len]; omega)
theorem mReset_len (e : DEnd) (k : Int) : (mReset e k).2.length ≤ 1073741824 := by
  unfold mReset
  repeat' split
  all_goals simp
theorem mHearReset_B {e : DEnd} (x : DLetter) (h : e.B) : (mHearReset e x).1.B := by
  obtain ⟨h1, h2, h3, h4, h5, h6, h7⟩ := id h
  unfold mHearReset
  repeat' split
  all_goals first | exact h | (rename_i hc; have h8 := (endOk_split hc.1).2.2.1; have h9 := endOk_ids hc.1; have ha := mAddrsOk_len (endOk_parts hc.1).2.1; have hz := mHalfsOk_len (endOk_parts hc.1).2.2.1) | (rename_i hc _; have h8 := (endOk_split hc.1).2.2.1; have h9 := endOk_ids hc.1; have ha := mAddrsOk_len (endOk_parts hc.1).2.1; have hz := mHalfsOk_len (endOk_parts hc.1).2.2.1) | (rename_i hc; have h8 := (endOk_split hc.1.1).2.2.1; have h9 := endOk_ids hc.1.1; have ha := mAddrsOk_len (endOk_parts hc.1.1).2.1; have hz := mHalfsOk_len (endOk_parts hc.1.1).2.2.1) | skip
  all_goals (unfold DEnd.B at h ⊢; simp only [setSub, mMet, List.length_append, List.length_set, List.length_cons, List.length_nil, goneIf_len, mGoneAt_len]; omega)
theorem mHearReset_len (e : DEnd) (x : DLetter) : (mHearReset e x).2.length ≤ 1073741824 := by
  unfold mHearReset
  repeat' split
  all_goals simp
theorem mPush_B {e : DEnd}  (h : e.B) : (mPush e).1.B := by
  obtain ⟨h1, h2, h3, h4, h5, h6, h7⟩ := id h
  unfold mPush
  repeat' split
  all_goals first | exact h | (rename_i hc; have h8 := (endOk_split hc.1).2.2.1; have h9 := endOk_ids hc.1; have ha := mAddrsOk_len (endOk_parts hc.1).2.1; have hz := mHalfsOk_len (endOk_parts hc.1).2.2.1) | (rename_i hc _; have h8 := (endOk_split hc.1).2.2.1; have h9 := endOk_ids hc.1; have ha := mAddrsOk_len (endOk_parts hc.1).2.1; have hz := mHalfsOk_len (endOk_parts hc.1).2.2.1) | (rename_i hc; have h8 := (endOk_split hc.1.1).2.2.1; have h9 := endOk_ids hc.1.1; have ha := mAddrsOk_len (endOk_parts hc.1.1).2.1; have hz := mHalfsOk_len (endOk_parts hc.1.1).2.2.1) | skip
  all_goals (unfold DEnd.B at h ⊢; simp only [setSub, mMet, List.length_append, List.length_set, List.length_cons, List.length_nil, goneIf_len, mGoneAt_len]; omega)
theorem mPush_len (e : DEnd)  : (mPush e).2.length ≤ 1073741824 := by
  unfold mPush
  repeat' split
  all_goals simp
theorem mDropOwn_B {e : DEnd} (id : Int) (h : e.B) : (mDropOwn e id).1.B := by
  unfold mDropOwn
  split
  · rename_i hc; exact mDropEnd_B h hc.1
  · exact h
theorem mDropOwn_len {e : DEnd} (id : Int) (h : e.B) : (mDropOwn e id).2.length ≤ 1073741824 := by
  unfold mDropOwn
  split
  · rename_i hc
    have hd := mDropEnd_B (id := id) h hc.1
    have := colL_le fOn (mDropEnd e id).subs 0
    have hs := hd.2.2.1
    rw [List.length_map]
    exact Nat.le_trans this hs
  · simp
end Go.Eng
