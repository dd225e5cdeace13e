/- Plain models of what the functions compute. -/
import Derived.Test.YtnpeomhpbakgnaaM19
set_option linter.unusedVariables false
set_option linter.unusedSimpArgs false
namespace Go.Eng

theorem mPutPiece_len {p : DPieces} {pos : Int} {text : List UInt8} (h : p.list.length ≤ 1073741824) : (mPutPiece p pos text).list.length ≤ 1073741824 := by
  unfold mPutPiece
  split
  · split
    · rename_i hk
      have := (piecesOk_bd hk).2
      omega
    · exact h
  · exact h
def mHearData (e : DEnd) (x : DLetter) : DEnd × List DLetter :=
  if mEndOk e = true ∧ mLetterOk x = true ∧ 0 ≤ mSignedOn e x then
    if 1000000000 < mNextOf (mPutPiece e.inn x.pos x.text) then (e, [])
    else ({ e with inn := mPutPiece e.inn x.pos x.text }, [mBetween (mRoadOf x) (ltr 12 0 0 0 0 (gSub e (mSignedOn e x)).give tg0 0 0 false (mNextOf (mPutPiece e.inn x.pos x.text)) [])])
  else (e, [])
def mHear (e : DEnd) (x : DLetter) : DEnd × List DLetter :=
  if mEndOk e = true ∧ mLetterOk x = true ∧ mOwns e x.dst = true then
    if x.kind = 1 then mHearHello e x else if x.kind = 2 then mHearBack e x else if x.kind = 4 then mHearJoin e x else if x.kind = 5 then mHearJoinBack e x
    else if x.kind = 6 then mHearJoinDone e x else if x.kind = 7 then mHearJoinAck e x else if x.kind = 8 then mHearAddr e x else if x.kind = 9 then mHearEcho e x
    else if x.kind = 10 then mHearGone e x else if x.kind = 11 then mHearData e x else if x.kind = 12 then mHearCame e x else if x.kind = 13 then mHearReset e x else (e, [])
  else (e, [])
theorem mHearData_B {e : DEnd} (x : DLetter) (h : e.B) : (mHearData e x).1.B := by
  obtain ⟨h1, h2, h3, h4, h5, h6, h7⟩ := id h
  unfold mHearData
  repeat' split
  · exact h
  · exact ⟨h1, h2, h3, h4, mPutPiece_len h5, h6, h7⟩
  · exact h
theorem mHearData_len (e : DEnd) (x : DLetter) : (mHearData e x).2.length ≤ 1073741824 := by
  unfold mHearData
  repeat' split
  all_goals simp
theorem iteP {α : Type} {P : α → Prop} {c : Prop} [Decidable c] {a b : α} (ha : P a) (hb : P b) : P (if c then a else b) := by
  split
  · exact ha
  · exact hb
theorem mHear_B {e : DEnd} (x : DLetter) (h : e.B) : (mHear e x).1.B :=
  iteP (P := fun z : DEnd × List DLetter => z.1.B) (iteP (P := fun z : DEnd × List DLetter => z.1.B) (mHearHello_B x h) (iteP (P := fun z : DEnd × List DLetter => z.1.B) (mHearBack_B x h) (iteP (P := fun z : DEnd × List DLetter => z.1.B) (mHearJoin_B x h) (iteP (P := fun z : DEnd × List DLetter => z.1.B) (mHearJoinBack_B x h) (iteP (P := fun z : DEnd × List DLetter => z.1.B) (mHearJoinDone_B x h) (iteP (P := fun z : DEnd × List DLetter => z.1.B) (mHearJoinAck_B x h) (iteP (P := fun z : DEnd × List DLetter => z.1.B) (mHearAddr_B x h) (iteP (P := fun z : DEnd × List DLetter => z.1.B) (mHearEcho_B x h) (iteP (P := fun z : DEnd × List DLetter => z.1.B) (mHearGone_B x h) (iteP (P := fun z : DEnd × List DLetter => z.1.B) (mHearData_B x h) (iteP (P := fun z : DEnd × List DLetter => z.1.B) (mHearCame_B x h) (iteP (P := fun z : DEnd × List DLetter => z.1.B) (mHearReset_B x h) (h))))))))))))) (h)
theorem mHear_len (e : DEnd) (x : DLetter) : (mHear e x).2.length ≤ 1073741824 :=
  iteP (P := fun z : DEnd × List DLetter => z.2.length ≤ 1073741824) (iteP (P := fun z : DEnd × List DLetter => z.2.length ≤ 1073741824) (mHearHello_len e x) (iteP (P := fun z : DEnd × List DLetter => z.2.length ≤ 1073741824) (mHearBack_len e x) (iteP (P := fun z : DEnd × List DLetter => z.2.length ≤ 1073741824) (mHearJoin_len e x) (iteP (P := fun z : DEnd × List DLetter => z.2.length ≤ 1073741824) (mHearJoinBack_len e x) (iteP (P := fun z : DEnd × List DLetter => z.2.length ≤ 1073741824) (mHearJoinDone_len e x) (iteP (P := fun z : DEnd × List DLetter => z.2.length ≤ 1073741824) (mHearJoinAck_len e x) (iteP (P := fun z : DEnd × List DLetter => z.2.length ≤ 1073741824) (mHearAddr_len e x) (iteP (P := fun z : DEnd × List DLetter => z.2.length ≤ 1073741824) (mHearEcho_len e x) (iteP (P := fun z : DEnd × List DLetter => z.2.length ≤ 1073741824) (mHearGone_len e x) (iteP (P := fun z : DEnd × List DLetter => z.2.length ≤ 1073741824) (mHearData_len e x) (iteP (P := fun z : DEnd × List DLetter => z.2.length ≤ 1073741824) (mHearCame_len e x) (iteP (P := fun z : DEnd × List DLetter => z.2.length ≤ 1073741824) (mHearReset_len e x) (Nat.zero_le _))))))))))))) (Nat.zero_le _)
theorem szL_each {α : Type} {f : α → Int → Int} (g : α → Nat) (hf : ∀ x q, 0 ≤ f x q → (g x : Int) ≤ q ∧ f x q ≤ q) : ∀ (l : List α) (q : Int), 0 ≤ szL f l q → ∀ x ∈ l, (g x : Int) ≤ q
  | [], _, _, x, hx => by simp at hx
  | y :: l, q, h, x, hx => by
    rw [szL] at h
    obtain ⟨h1, h2⟩ := sq_ge h
    have hy := hf y q h1
    rcases List.mem_cons.1 hx with rfl | hx
    · exact hy.1
    · have := szL_each g hf l _ h2 x hx
      omega
theorem endS_of {e : DEnd} (h : ¬ szEnd e 1048576 < 0) : e.inn.S := by
  have hb := szEnd_B (Int.le_refl _) h
  have h : 0 ≤ szEnd e 1048576 := by omega
  unfold szEnd at h
  obtain ⟨a1, h⟩ := sq_ge h
  obtain ⟨a2, h⟩ := sq_ge h
  obtain ⟨a3, h⟩ := sq_ge h
  obtain ⟨a4, h⟩ := sq_ge h
  obtain ⟨a5, h⟩ := sq_ge h
  obtain ⟨a6, h⟩ := sq_ge h
  have b1 := szN_ge a1
  have b2 := szN_ge a2
  have b3 := szN_ge a3
  have b4 := szN_ge a4
  have b5 := szN_ge a5
  have b5' : szOut e.out _ ≤ _ := b5.2
  unfold szPieces at a6
  obtain ⟨c1, a6⟩ := sq_ge a6
  obtain ⟨c2, a6⟩ := sq_ge a6
  have d1 := szN_ge c1
  unfold szS at c2
  obtain ⟨c2, c3⟩ := sq_ge c2
  have d2 := szN_ge c2
  refine ⟨by omega, by omega, fun x hx => ?_⟩
  have := szL_each (f := szPiece) (fun x => x.text.length) (fun x q h => szN_ge h) e.inn.list _ c3 x hx
  have : (x.text.length : Int) ≤ 1048576 := by omega
  omega
end Go.Eng
