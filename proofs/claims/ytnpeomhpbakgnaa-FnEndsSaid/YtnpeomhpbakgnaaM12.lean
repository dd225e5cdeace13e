/- Plain models of what the functions compute. -/
import Derived.Test.YtnpeomhpbakgnaaM11
set_option linter.unusedVariables false
set_option linter.unusedSimpArgs false
namespace Go.Eng

def goneG (p : DSub → Bool) (s : DSub) : DSub := if p s = true then { s with state := 4 } else s
theorem goneIf_eq (p : DSub → Bool) (l : List DSub) : goneIf p l = l.map (goneG p) := rfl
theorem map_get {α : Type} (g : α → α) (l : List α) (i : Nat) (d x : α) (h : l[i]? = some x) : ((l.take i).map g ++ l.drop i).getD i d = x := by
  have hi : i < l.length := (List.getElem?_eq_some_iff.1 h).1
  have hl : ((l.take i).map g).length = i := by simp; omega
  rw [List.getD, List.getElem?_append_right (by omega), hl, Nat.sub_self]
  simp [h]
theorem map_step {α : Type} (g : α → α) (l : List α) (i : Nat) (x : α) (h : l[i]? = some x) : ((l.take i).map g ++ l.drop i).set i (g x) = (l.take (i + 1)).map g ++ l.drop (i + 1) := by
  obtain ⟨hi, hx⟩ := List.getElem?_eq_some_iff.1 h
  have hl : ((l.take i).map g).length = i := by simp; omega
  rw [List.set_append_right i (g x) (by omega), hl, Nat.sub_self, List.take_add_one, List.map_append, h]
  have : l.drop i = x :: l.drop (i + 1) := by rw [List.drop_eq_getElem_cons hi, hx]
  rw [this]
  simp
theorem map_same {α : Type} (g : α → α) (l : List α) (i : Nat) (x : α) (h : l[i]? = some x) (hg : g x = x) : (l.take i).map g ++ l.drop i = (l.take (i + 1)).map g ++ l.drop (i + 1) := by
  obtain ⟨hi, hx⟩ := List.getElem?_eq_some_iff.1 h
  rw [List.take_add_one, List.map_append, h]
  have : l.drop i = x :: l.drop (i + 1) := by rw [List.drop_eq_getElem_cons hi, hx]
  rw [this]
  simp [hg]
/-- What is still to come when a number is put into a rising list. -/
def putR (n : Int) : List Int → Bool → List Int
  | [], b => if b = true then [] else [n]
  | x :: l, b => if b = false ∧ n ≤ x then (if n < x then n :: x :: putR n l true else x :: putR n l true) else x :: putR n l b
theorem putR_true (n : Int) : ∀ l, putR n l true = l
  | [] => rfl
  | x :: l => by simp [putR, putR_true n l]
theorem plN_le (n : Int) : ∀ (l : List Int) (i : Nat), i ≤ plN n l i
  | [], i => Nat.le_refl _
  | x :: l, i => by
    rw [plN]
    split
    · have := plN_le n l (i + 1); omega
    · exact Nat.le_refl _
theorem plN_add (n : Int) : ∀ (l : List Int) (i : Nat), plN n l i = i + plN n l 0
  | [], i => rfl
  | x :: l, i => by
    rw [plN, plN]
    split
    · rw [plN_add n l (i + 1), plN_add n l (0 + 1)]; omega
    · omega
theorem putR_mPut (n : Int) : ∀ l, putR n l false = mPut l n
  | [] => rfl
  | x :: l => by
    rw [putR]
    have ih := putR_mPut n l
    unfold mPut at ih ⊢
    rw [plN]
    by_cases h : x < n
    · rw [if_pos h, if_neg (by omega), plN_add n l (0 + 1), ih]
      simp only [Nat.zero_add, List.length_cons]
      rw [show 1 + plN n l 0 = plN n l 0 + 1 by omega]
      by_cases h2 : plN n l 0 < l.length ∧ l.getD (plN n l 0) (ETy.zero .int) = n
      · rw [if_pos h2, if_pos (by simpa using h2)]
      · rw [if_neg h2, if_neg (by simpa using h2)]
        simp
    · rw [if_neg h, if_pos (by simp; omega)]
      by_cases h2 : n < x
      · rw [if_pos h2, if_neg (by simp; omega), putR_true]; simp
      · rw [if_neg h2, if_pos (by simp; omega), putR_true]
theorem mGone_len {l : List Int} {t : List DAddr} (h : mGone l t = true) : l.length ≤ 256 := by
  have ha := (allI_iff _ _ _).1 h
  have hg : ∀ j, j < l.length → (j : Int) ≤ l.getD j (ETy.zero .int) ∧ l.getD j (ETy.zero .int) ≤ 255 := by
    intro j
    induction j with
    | zero =>
      intro hj
      have := ha 0 (by omega) (by omega)
      simp only [pGone, pId, Bool.and_eq_true, mIn_iff] at this
      exact ⟨by simpa using this.2.1.1, this.2.1.2⟩
    | succ j ih =>
      intro hj
      have h1 := ih (by omega)
      have := ha (j + 1) (by omega) (by omega)
      simp only [pGone, pId, pRise, Bool.and_eq_true, mIn_iff, Bool.or_eq_true, decide_eq_true_eq, Bool.not_eq_true', decide_eq_false_iff_not, Nat.add_sub_cancel] at this
      refine ⟨?_, this.2.1.2⟩
      rcases this.1 with h2 | h2
      · omega
      · have h2 := Int.not_le.1 h2
        have h3 : l.getD j (ETy.zero .int) < l.getD (j + 1) (ETy.zero .int) := h2
        omega
  by_cases h0 : l.length = 0
  · omega
  · have := hg (l.length - 1) (by omega)
    omega
theorem mPut_len (l : List Int) (n : Int) : (mPut l n).length ≤ l.length + 1 := by
  unfold mPut
  split
  · omega
  · simp; omega
theorem mDropAddr_len (l : List DAddr) (n : Int) : (mDropAddr l n).1.length ≤ l.length := by
  unfold mDropAddr
  split
  · exact Nat.le_refl _
  · simp; omega
theorem endOk_ids {e : DEnd} (h : mEndOk e = true) : e.done.length ≤ 256 ∧ e.over.length ≤ 256 := by
  have := (endOk_split h).2.1
  simp only [mEndOk1, Bool.and_eq_true] at this
  exact ⟨mGone_len this.1.1.1.1.1.1, mGone_len this.1.1.1.1.1.2⟩
def fDrop (e : DEnd) (id : Int) (k : Int) (_ : Nat) : Option DLetter := some (mDropLetter id (gSub (mDropEnd e id) k))
theorem fDrop_eq (e : DEnd) (id : Int) (l : List Int) : colL (fDrop e id) l 0 = l.map fun k => mDropLetter id (gSub (mDropEnd e id) k) := colL_map _ l 0
theorem mDropEnd_B {e : DEnd} {id : Int} (h : e.B) (ho : mEndOk e = true) : (mDropEnd e id).B := by
  obtain ⟨h1, h2, h3, h4, h5, h6, h7⟩ := h
  have := endOk_ids ho
  have := mPut_len e.done id
  have := mDropAddr_len e.own id
  refine ⟨?_, h2, ?_, h4, h5, ?_, h7⟩
  · show (mDropAddr e.own id).1.length ≤ _; omega
  · show (goneIf _ e.subs).length ≤ _; rw [goneIf_eq, List.length_map]; exact h3
  · show (mPut e.done id).length ≤ _; omega
end Go.Eng
