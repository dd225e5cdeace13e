/- Plain models of what the functions compute. -/
import Derived.Test.YtnpeomhpbakgnaaM18
set_option linter.unusedVariables false
set_option linter.unusedSimpArgs false
namespace Go.Eng

/-- Two pieces that overlap or touch; bytes of the first one stay. -/
def mMerge (a b : DPiece) : DPiece :=
  if b.pos < a.pos then ⟨b.pos, b.text.take (a.pos - b.pos).toNat ++ a.text ++ b.text.drop ((a.pos - b.pos).toNat + a.text.length)⟩
  else ⟨a.pos, a.text ++ b.text.drop (a.pos + a.text.length - b.pos).toNat⟩
def PB (a : DPiece) : Prop := 0 ≤ a.pos ∧ a.pos ≤ 4000000000 ∧ a.text.length ≤ 2305843009213693952
theorem mMerge_bd {a b : DPiece} (ha : PB a) (hb : PB b) : 0 ≤ (mMerge a b).pos ∧ (mMerge a b).pos ≤ a.pos ∧ (mMerge a b).text.length ≤ a.text.length + b.text.length := by
  obtain ⟨a1, a2, a3⟩ := ha
  obtain ⟨b1, b2, b3⟩ := hb
  unfold mMerge
  split
  · refine ⟨b1, by simp only []; omega, ?_⟩
    simp only [List.length_append, List.length_take, List.length_drop]
    omega
  · refine ⟨a1, Int.le_refl _, ?_⟩
    simp only [List.length_append, List.length_drop]
    omega
/-- The pieces behind those that were looked at, with one more laid among them. -/
def ppF : List DPiece → List DPiece → DPiece → Bool → List DPiece × DPiece × Bool
  | [], out, x, laid => (out, x, laid)
  | y :: l, out, x, laid =>
    if w64 (y.pos + (y.text.length : Int)) < x.pos then ppF l (out ++ [y]) x laid
    else if w64 (x.pos + (x.text.length : Int)) < y.pos then
      (if laid = true then ppF l (out ++ [y]) x true else ppF l (out ++ [x] ++ [y]) x true)
    else ppF l out (mMerge y x) laid
def ppEnd (s : List DPiece × DPiece × Bool) : List DPiece := if s.2.2 = true then s.1 else s.1 ++ [s.2.1]
def ppX (p : DPieces) (pos : Int) (text : List UInt8) : DPiece :=
  if pos < mNextOf p then ⟨mNextOf p, text.drop (mNextOf p - pos).toNat⟩ else ⟨pos, text⟩
def ppOut (p : DPieces) (pos : Int) (text : List UInt8) : DPieces :=
  if ((ppEnd (ppF p.list [] (ppX p pos text) false)).getD 0 (ETy.zero .piece)).pos = mNextOf p then
    ⟨p.read, p.ready ++ ((ppEnd (ppF p.list [] (ppX p pos text) false)).getD 0 (ETy.zero .piece)).text, (ppEnd (ppF p.list [] (ppX p pos text) false)).drop 1⟩
  else ⟨p.read, p.ready, ppEnd (ppF p.list [] (ppX p pos text) false)⟩
def mPutPiece (p : DPieces) (pos : Int) (text : List UInt8) : DPieces :=
  if mPiecesOk p = true ∧ mNum pos = true ∧ mIn text.length 1 200 = true ∧ mNextOf p - pos < (text.length : Int) then
    if mPiecesOk (ppOut p pos text) = true then ppOut p pos text else p
  else p
def DPieces.S (p : DPieces) : Prop := p.ready.length ≤ 1073741824 ∧ p.list.length ≤ 1073741824 ∧ ∀ x ∈ p.list, x.text.length ≤ 1073741824
theorem next_id {p : DPieces} (h : mPiecesOk p = true) (hs : p.ready.length ≤ 1073741824) : mNextOf p = p.read + p.ready.length ∧ 0 ≤ mNextOf p ∧ mNextOf p ≤ 2073741824 := by
  have := piecesOk_bd h
  unfold mNextOf
  rw [w64_id (by omega) (by omega)]
  omega
theorem pieces_pos {p : DPieces} (h : mPiecesOk p = true) (hs : p.S) : ∀ x ∈ p.list, 0 ≤ x.pos ∧ x.pos ≤ 2000000000 := by
  have hn := next_id h hs.1
  have ho : ordL p.list (mNextOf p) = true := by
    simp only [mPiecesOk, Bool.and_eq_true] at h
    exact h.1.2
  have gen : ∀ (l : List DPiece) (e : Int), 0 ≤ e → ordL l e = true → (∀ x ∈ l, x.text.length ≤ 1073741824) → ∀ x ∈ l, 0 ≤ x.pos ∧ x.pos ≤ 2000000000 := by
    intro l
    induction l with
    | nil => intro e _ _ _ x hx; simp at hx
    | cons y l ih =>
      intro e he ho ht x hx
      rw [ordL] at ho
      split at ho
      · rename_i hp
        simp only [pOrd, Bool.and_eq_true, Bool.not_eq_true', decide_eq_false_iff_not] at hp
        have hy := ht y (by simp)
        rcases List.mem_cons.1 hx with rfl | hx
        · omega
        · refine ih _ ?_ ho (fun z hz => ht z (by simp [hz])) x hx
          rw [w64_id (by omega) (by omega)]
          omega
      · cases ho
  exact gen p.list _ hn.2.1 ho hs.2.2
theorem ppX_bd {p : DPieces} {pos : Int} {text : List UInt8} (h : mPiecesOk p = true) (hs : p.S) (hp : 0 ≤ pos ∧ pos ≤ 1000000000) (ht : text.length ≤ 200) : 0 ≤ (ppX p pos text).pos ∧ (ppX p pos text).pos ≤ 2073741824 ∧ (ppX p pos text).text.length ≤ 200 := by
  have hn := next_id h hs.1
  unfold ppX
  split
  · refine ⟨hn.2.1, hn.2.2, ?_⟩
    simp only [List.length_drop]; omega
  · exact ⟨hp.1, by simp only []; omega, ht⟩
def TB (i : Nat) (l : List DPiece) : Prop := ∀ y ∈ l, y.text.length ≤ 200 + i * 1073741824
theorem TB_app {n m : Nat} {l : List DPiece} {x : DPiece} (h : TB n l) (hx : x.text.length ≤ 200 + m * 1073741824) (hn : n ≤ m) : TB m (l ++ [x]) := by
  intro y hy
  rcases List.mem_append.1 hy with h' | h'
  · exact Nat.le_trans (h y h') (Nat.add_le_add_left (Nat.mul_le_mul_right _ hn) _)
  · rw [List.mem_singleton.1 h']; exact hx
theorem TB_mono {n m : Nat} {l : List DPiece} (h : TB n l) (hn : n ≤ m) : TB m l := fun y hy => Nat.le_trans (h y hy) (Nat.add_le_add_left (Nat.mul_le_mul_right _ hn) _)
theorem TB_nil (n : Nat) : TB n [] := fun y hy => by simp at hy
theorem TB_get0 {B : Nat} {l : List DPiece} (h : ∀ y ∈ l, y.text.length ≤ B) : (l.getD 0 (ETy.zero .piece)).text.length ≤ B := by
  cases l with
  | nil => exact Nat.zero_le _
  | cons a l => exact h a (by simp)
theorem TB_getD {n : Nat} {l : List DPiece} (h : TB n l) : (l.getD 0 (ETy.zero .piece)).text.length ≤ 200 + n * 1073741824 := TB_get0 h
theorem bytes_nil : (ByteArray.mk #[]).data.toList = [] := rfl
theorem mNums1 (x : Int) : mNums [x] = mNum x := by unfold mNums allL; simp [allL]
theorem drop_nil_beq (n : Nat) (l : List UInt8) : (l.drop n == []) = decide (l.length ≤ n) := by
  by_cases h : l.length ≤ n
  · rw [List.drop_eq_nil_iff.2 h]; simp [h]
  · have : l.drop n ≠ [] := fun hh => h (List.drop_eq_nil_iff.1 hh)
    simp [h]
theorem ppF_len : ∀ (l out : List DPiece) (x : DPiece) (b : Bool), (ppF l out x b).1.length ≤ out.length + 2 * l.length
  | [], out, x, b => by simp [ppF]
  | y :: l, out, x, b => by
    rw [ppF]
    split
    · have := ppF_len l (out ++ [y]) x b; simp only [List.length_append, List.length_cons, List.length_nil] at *; omega
    · split
      · split
        · have := ppF_len l (out ++ [y]) x true; simp only [List.length_append, List.length_cons, List.length_nil] at *; omega
        · have := ppF_len l (out ++ [x] ++ [y]) x true; simp only [List.length_append, List.length_cons, List.length_nil] at *; omega
      · have := ppF_len l out (mMerge y x) b; simp only [List.length_cons] at *; omega
theorem ppF_pos : ∀ (l out : List DPiece) (x : DPiece) (b : Bool), (b = true → 0 < out.length) → 0 < (ppEnd (ppF l out x b)).length
  | [], out, x, b, h => by
    cases b with
    | true => exact h rfl
    | false => simp [ppF, ppEnd]
  | y :: l, out, x, b, h => by
    rw [ppF]
    split
    · exact ppF_pos l _ x b fun _ => by simp
    · split
      · split
        · exact ppF_pos l _ x true fun _ => by simp
        · exact ppF_pos l _ x true fun _ => by simp
      · exact ppF_pos l _ _ b h
end Go.Eng
