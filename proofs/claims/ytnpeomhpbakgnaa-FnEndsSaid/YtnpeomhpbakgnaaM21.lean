/- Plain models of what the functions compute. -/
import Derived.Test.YtnpeomhpbakgnaaM20
set_option linter.unusedVariables false
set_option linter.unusedSimpArgs false
namespace Go.Eng

def mLearn (k : DKnown) (t : DTag) : DKnown := if mCanMake k t = false ∧ k.tags.length < 300 then { k with tags := k.tags ++ [t] } else k
def mHears (l : List Int) (n : Int) : List Int := if 0 < n ∧ (l.length : Int) < 300 ∧ mHas l n = false then l ++ [n] else l
def mHearsW (w : DWorld) (n : Int) : DWorld := if 0 < n ∧ (w.nums.length : Int) < 300 ∧ mHas w.nums n = false then { w with nums := w.nums ++ [n] } else w
theorem mHearsW_eq (w : DWorld) (n : Int) : mHearsW w n = { w with nums := mHears w.nums n } := by
  unfold mHearsW mHears
  split <;> rfl
theorem mHearsW_pos {w : DWorld} {n : Int} (h : 0 < n ∧ mHas w.nums n = false ∧ (w.nums.length : Int) < 300) : mHearsW w n = { w with nums := w.nums ++ [n] } := by
  unfold mHearsW
  rw [if_pos ⟨h.1, h.2.2, h.2.1⟩]
theorem mHearsW_neg {w : DWorld} {n : Int} (h : ¬ (0 < n ∧ mHas w.nums n = false ∧ (w.nums.length : Int) < 300)) : mHearsW w n = w := by
  unfold mHearsW
  rw [if_neg (fun hc => h ⟨hc.1, hc.2.2, hc.2.1⟩)]
def mNum3 (x : DLetter) : List Int := [x.nonce, x.give, x.sign]
def hearL : List Int → DWorld → DWorld
  | [], w => w
  | n :: l, w => hearL l (mHearsW w n)
def mPost0 (s : Int) (w : DWorld) (x : DLetter) : DWorld :=
  { w with
    past := if (w.past.length : Int) < 150 then w.past ++ [x] else w.past
    answersA := if x.kind = 5 ∧ s = 1 ∧ (w.answersA.length : Int) < 300 then w.answersA ++ [w.a.now] else w.answersA
    answersB := if x.kind = 5 ∧ s = 2 ∧ (w.answersB.length : Int) < 300 then w.answersB ++ [w.b.now] else w.answersB }
def mPost1 (s : Int) (w : DWorld) (x : DLetter) : DWorld :=
  if mSideAt x.dst = 0 then mHearsW (mHearsW (mHearsW { mPost0 s w x with known := mLearn w.known x.tag } x.nonce) x.give) x.sign
  else { mPost0 s w x with bag := if (w.bag.length : Int) < 40 then w.bag ++ [x] else w.bag }
def mPostL (s : Int) : List DLetter → DWorld → DWorld
  | [], w => w
  | x :: l, w => mPostL s l (mPost1 s w x)
def mPosted (w : DWorld) (s : Int) (l : List DLetter) : DWorld := if s = 1 ∨ s = 2 then mPostL s l w else w
theorem mHears_len {l : List Int} {n : Int} (h : l.length ≤ 1073741824) : (mHears l n).length ≤ 1073741824 := by
  unfold mHears
  split
  · rw [List.length_append]; simp only [List.length_cons, List.length_nil]; omega
  · exact h
theorem mLearn_B {k : DKnown} (t : DTag) (h : k.B) : (mLearn k t).B := by
  obtain ⟨h1, h2⟩ := h
  unfold mLearn
  split
  · refine ⟨h1, ?_⟩
    simp only [List.length_append, List.length_cons, List.length_nil]; omega
  · exact ⟨h1, h2⟩
theorem mHearsW_B {w : DWorld} (n : Int) (h : w.B) : (mHearsW w n).B := by
  obtain ⟨h1, h2, h3, h4, h5, h6, h7, h8, h9⟩ := h
  rw [mHearsW_eq]
  exact ⟨h1, h2, h3, h4, h5, h6, mHears_len h7, h8, h9⟩
theorem app_len {α : Type} {l : List α} {x : α} {c : Prop} [Decidable c] (h : l.length ≤ 1073741824) (hc : c → (l.length : Int) < 1073741824) : (if c then l ++ [x] else l).length ≤ 1073741824 := by
  split
  · rename_i hh
    have := hc hh
    simp only [List.length_append, List.length_cons, List.length_nil]; omega
  · exact h
theorem mPost0_B {w : DWorld} (s : Int) (x : DLetter) (h : w.B) : (mPost0 s w x).B := by
  obtain ⟨h1, h2, h3, h4, h5, h6, h7, h8, h9⟩ := h
  simp only [DWorld.B, mPost0]
  refine ⟨h1, h2, h3, app_len h4 (fun h => by omega), h5, h6, h7, app_len h8 (fun h => by have := h.2.2; omega), app_len h9 (fun h => by have := h.2.2; omega)⟩
theorem mPost1_B {w : DWorld} (s : Int) (x : DLetter) (h : w.B) : (mPost1 s w x).B := by
  have h0 := mPost0_B s x h
  obtain ⟨g1, g2, g3, g4, g5, g6, g7, g8, g9⟩ := id h0
  have hk := mLearn_B x.tag (k := w.known) ⟨h.2.2.2.2.1, h.2.2.2.2.2.1⟩
  have h3 := h.2.2.1
  unfold mPost1
  split
  · refine mHearsW_B _ (mHearsW_B _ (mHearsW_B _ ?_))
    simp only [DWorld.B]
    exact ⟨g1, g2, g3, g4, hk.1, hk.2, g7, g8, g9⟩
  · simp only [DWorld.B]
    exact ⟨g1, g2, app_len h3 (fun h => by omega), g4, g5, g6, g7, g8, g9⟩
theorem mPostL_B (s : Int) : ∀ (l : List DLetter) {w : DWorld}, w.B → (mPostL s l w).B
  | [], _, h => h
  | x :: l, _, h => mPostL_B s l (mPost1_B s x h)
theorem mPosted_B {w : DWorld} (s : Int) (l : List DLetter) (h : w.B) : (mPosted w s l).B := by
  unfold mPosted
  split
  · exact mPostL_B s l h
  · exact h
theorem lettersRow_W {l : List DLetter} (h : wfC (aRow .letter).cts ((aRow .letter).to l)) : l.length ≤ 9223372036854775807 ∧ ∀ x ∈ l, x.text.length ≤ 9223372036854775807 := by
  simp only [wfC, wfL, LT.leaf, maxLen] at h
  obtain ⟨⟨h1, h2⟩, _⟩ := h
  exact ⟨by omega, letters_W h2⟩
theorem lettersB_of {l : List DLetter} {q : Int} (hq : q ≤ 1048576) (h : ¬ szS szLetter l q < 0) : l.length ≤ 1073741824 := by
  have h : 0 ≤ szS szLetter l q := by omega
  unfold szS at h
  obtain ⟨h1, _⟩ := sq_ge h
  have := szN_ge h1
  omega
theorem KB_letters2 {w : DWorld} (hw : w.B) {l : List DLetter} (hl : l.length ≤ 1073741824) : KB (1 + (nWorld w : Int)) (19 * l.length) := by
  obtain ⟨h1, h2, h3, h4, h5, h6, h7, h8, h9⟩ := hw
  have := endN_le h1
  have := endN_le h2
  unfold nWorld nKnown KB
  omega
end Go.Eng
