/- Plain models of what the functions compute. -/
import Derived.Test.YtnpeomhpbakgnaaM21
set_option linter.unusedVariables false
set_option linter.unusedSimpArgs false
namespace Go.Eng

structure DCur where
  b : List Int
  i : Int
  h : Int
abbrev aCur : ATy := ⟨DCur, true, [.row .u8, ci, ci], fun c => (c.b, c.i, c.h, ()), fun (a, b, c, _) => ⟨a, b, c⟩, fun _ => rfl⟩
structure DIH where
  i : Int
  h : Int
abbrev aIH : ATy := ⟨DIH, true, [ci, ci], fun c => (c.i, c.h, ()), fun (a, b, _) => ⟨a, b⟩, fun _ => rfl⟩
theorem dPieces_iff (x y : DPieces) : x = y ↔ x.read = y.read ∧ x.ready = y.ready ∧ x.list = y.list := by
  rcases x with ⟨⟩; rcases y with ⟨⟩; simp
theorem dCur_eta (x : DCur) : (⟨x.b, x.i, x.h⟩ : DCur) = x := rfl
theorem dCur_fold {b : List Int} {x : DCur} (h : x.b = b) : (⟨b, x.i, x.h⟩ : DCur) = x := by subst h; rfl
theorem andI_255 (a : Int) : 0 ≤ andI a 255 ∧ andI a 255 ≤ 255 := by
  unfold andI
  have h : (BitVec.ofInt 64 a &&& BitVec.ofInt 64 255).toNat ≤ 255 := by
    rw [BitVec.toNat_and]
    have : (BitVec.ofInt 64 255).toNat = 255 := by decide
    rw [this]
    exact Nat.and_le_right
  rw [w64_id (by omega) (by omega)]
  omega
def curH (h x : Int) : Int := andI (w64 (w64 (w64 (h * 131) + w64 x) + 7)) 1073741823
def newL : List Int → Nat → Int → Int
  | [], _, h => h
  | _ :: _, 0, h => h
  | x :: l, k + 1, h => newL l k (curH h x)
def mNew (b : List Int) : DIH := ⟨0, newL b 4000 (w64 (94701 + b.length))⟩
def mCur (b : List Int) : DCur := ⟨b, 0, (mNew b).h⟩
def DCur.B (c : DCur) : Prop := 0 ≤ c.i ∧ c.i ≤ 1073741824 ∧ c.b.length ≤ 1073741824
theorem mCur_B {b : List Int} (h : b.length ≤ 1073741824) : (mCur b).B := ⟨Int.le_refl _, by show (0 : Int) ≤ _; decide, h⟩
def mByteH (c : DCur) : Int := w64 (w64 (c.h * 6364136223846793005) + 1442695040888963407)
def mByteX (h : Int) : Int := andI (xorI (shrI h 33) (shrI h 45)) 255
def mByte (c : DCur) : Int := if c.i < c.b.length then andI (w64 (mByteX (mByteH c) + w64 (c.b.getD c.i.toNat 0))) 255 else mByteX (mByteH c)
def mByteC (c : DCur) : DCur := ⟨c.b, if c.i < c.b.length then w64 (c.i + 1) else c.i, mByteH c⟩
theorem mByte_bd (c : DCur) : 0 ≤ mByte c ∧ mByte c ≤ 255 := by
  unfold mByte
  split
  · exact andI_255 _
  · exact andI_255 _
theorem mByteC_B {c : DCur} (h : c.B) : (mByteC c).B := by
  obtain ⟨h1, h2, h3⟩ := h
  unfold mByteC DCur.B
  refine ⟨?_, ?_, h3⟩ <;> simp only []
  · split
    · rw [w64_id (by omega) (by omega)]; omega
    · exact h1
  · split
    · rw [w64_id (by omega) (by omega)]; omega
    · exact h2
theorem mByteC_b (c : DCur) : (mByteC c).b = c.b := by
  rw [mByteC]
attribute [irreducible] mByteC
def mBelow4 (a b c d : Int) : Int := w64 (w64 (w64 (w64 (a * 16777216) + w64 (b * 65536)) + w64 (c * 256)) + d)
theorem mBelow4_bd {a b c d : Int} (ha : 0 ≤ a ∧ a ≤ 255) (hb : 0 ≤ b ∧ b ≤ 255) (hc : 0 ≤ c ∧ c ≤ 255) (hd : 0 ≤ d ∧ d ≤ 255) : 0 ≤ mBelow4 a b c d := by
  unfold mBelow4
  simp (disch := omega) only [w64_id]
  omega
def mBelow (c : DCur) (n : Int) : Int :=
  if n ≤ 0 then 0 else if n ≤ 256 then (mByte c).tmod n
  else (mBelow4 (mByte c) (mByte (mByteC c)) (mByte (mByteC (mByteC c))) (mByte (mByteC (mByteC (mByteC c))))).tmod n
def mBelowC (c : DCur) (n : Int) : DCur :=
  if n ≤ 0 then c else if n ≤ 256 then mByteC c else mByteC (mByteC (mByteC (mByteC c)))
theorem mBelow_bd {c : DCur} {n : Int} (h : 0 < n) : 0 ≤ mBelow c n ∧ mBelow c n < n := by
  unfold mBelow
  rw [if_neg (by omega)]
  split
  · exact ⟨Int.tmod_nonneg _ (mByte_bd c).1, Int.tmod_lt_of_pos _ h⟩
  · exact ⟨Int.tmod_nonneg _ (mBelow4_bd (mByte_bd _) (mByte_bd _) (mByte_bd _) (mByte_bd _)), Int.tmod_lt_of_pos _ h⟩
theorem mBelowC_B {c : DCur} (n : Int) (h : c.B) : (mBelowC c n).B := by
  unfold mBelowC
  split
  · exact h
  · split
    · exact mByteC_B h
    · exact mByteC_B (mByteC_B (mByteC_B (mByteC_B h)))
theorem mBelowC_b (c : DCur) (n : Int) : (mBelowC c n).b = c.b := by
  unfold mBelowC
  split
  · rfl
  · split <;> simp only [mByteC_b]
def mPickInt (c : DCur) (l : List Int) : Int := l.getD (mBelow c l.length).toNat 0
def mPickIntC (c : DCur) (l : List Int) : DCur := mBelowC c l.length
theorem mPickIntC_b (c : DCur) (l : List Int) : (mPickIntC c l).b = c.b := mBelowC_b c _
def mOnce (c : DCur) (n : Int) : Bool := mBelow c n == 0
def mDPol (c : DCur) : DPolicy := if mBelow c 3 = 0 then ⟨1, 0⟩ else if mBelow c 3 = 1 then ⟨2, w64 (1 + mBelow (mBelowC c 3) 4)⟩ else ⟨3, 0⟩
def mDPolC (c : DCur) : DCur := if mBelow c 3 = 0 then mBelowC c 3 else if mBelow c 3 = 1 then mBelowC (mBelowC c 3) 4 else mBelowC c 3
theorem mDPolC_B {c : DCur} (h : c.B) : (mDPolC c).B := by
  have := mBelowC_B 3 h
  have := mBelowC_B 4 this
  unfold mDPolC
  repeat' split
  all_goals assumption
theorem mDPolC_b (c : DCur) : (mDPolC c).b = c.b := by
  unfold mDPolC
  repeat' split
  all_goals simp only [mBelowC_b]
def lAny : List Int := [0, 8, 9, -1]
def mDAny1 (c : DCur) : DPolicy := if mBelow (mDPolC c) 6 = 0 then { mDPol c with many := mPickInt (mBelowC (mDPolC c) 6) lAny } else mDPol c
def mDAny1C (c : DCur) : DCur := if mBelow (mDPolC c) 6 = 0 then mPickIntC (mBelowC (mDPolC c) 6) lAny else mBelowC (mDPolC c) 6
theorem mDAny1C_B {c : DCur} (h : c.B) : (mDAny1C c).B := by
  unfold mDAny1C
  split
  · exact mBelowC_B _ (mBelowC_B _ (mDPolC_B h))
  · exact mBelowC_B _ (mDPolC_B h)
def mDAny (c : DCur) : DPolicy := if mBelow (mDAny1C c) 12 = 0 then { mDAny1 c with kind := mBelow (mBelowC (mDAny1C c) 12) 5 } else mDAny1 c
def mDAnyC (c : DCur) : DCur := if mBelow (mDAny1C c) 12 = 0 then mBelowC (mBelowC (mDAny1C c) 12) 5 else mBelowC (mDAny1C c) 12
theorem mDAnyC_B {c : DCur} (h : c.B) : (mDAnyC c).B := by
  unfold mDAnyC
  split
  · exact mBelowC_B _ (mBelowC_B _ (mDAny1C_B h))
  · exact mBelowC_B _ (mDAny1C_B h)
theorem mDAny1C_b (c : DCur) : (mDAny1C c).b = c.b := by
  unfold mDAny1C mPickIntC
  repeat' split
  all_goals simp only [mBelowC_b, mDPolC_b]
theorem mDAnyC_b (c : DCur) : (mDAnyC c).b = c.b := by
  unfold mDAnyC
  repeat' split
  all_goals simp only [mBelowC_b, mDAny1C_b]
def lSides : List Int := [1, 2, 1, 2, 0, 3]
def lAddrs : List Int := [11, 21, 1, 65535, 0, 65536]
theorem mCur_b (b : List Int) : (mCur b).b = b := rfl
theorem mCur_fold (b : List Int) : (⟨b, (mNew b).i, (mNew b).h⟩ : DCur) = mCur b := rfl
def mDNewC (b : List Int) : DCur := mPickIntC (mPickIntC (mCur b) lSides) lAddrs
def mDNewS (b : List Int) : Int := mPickInt (mCur b) lSides
def mDNewA (b : List Int) : Int := mPickInt (mPickIntC (mCur b) lSides) lAddrs
def mDNewP (b : List Int) : DPolicy := mDAny (mDNewC b)
theorem mDNewC_B {b : List Int} (h : b.length ≤ 1073741824) : (mDNewC b).B := mBelowC_B _ (mBelowC_B _ (mCur_B h))
end Go.Eng
