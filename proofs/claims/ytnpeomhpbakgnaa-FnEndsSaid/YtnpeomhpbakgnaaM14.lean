/- Plain models of what the functions compute. -/
import Derived.Test.YtnpeomhpbakgnaaM13
set_option linter.unusedVariables false
set_option linter.unusedSimpArgs false
namespace Go.Eng

def pushN : Nat → DEnd → DEnd × List DLetter
  | 0, e => (e, [])
  | n + 1, e => ((mPush (pushN n e).1).1, (pushN n e).2 ++ (mPush (pushN n e).1).2)
theorem mPush_len1 (e : DEnd) : (mPush e).2.length ≤ 1 := by
  unfold mPush
  split <;> simp
theorem pushN_B {e : DEnd} (h : e.B) : ∀ n, (pushN n e).1.B
  | 0 => h
  | n + 1 => mPush_B (pushN_B h n)
theorem pushN_len (e : DEnd) : ∀ n, (pushN n e).2.length ≤ n
  | 0 => Nat.le_refl _
  | n + 1 => by
    have := pushN_len e n
    have := mPush_len1 (pushN n e).1
    rw [pushN, List.length_append]; omega
def mWriteAll (e : DEnd) (t : List UInt8) : DEnd × List DLetter := pushN 3 (mWrite e t).1
theorem mWriteAll_B {e : DEnd} (t : List UInt8) (h : e.B) : (mWriteAll e t).1.B := pushN_B (mWrite_B t h) 3
theorem mWriteAll_len (e : DEnd) (t : List UInt8) : (mWriteAll e t).2.length ≤ 1073741824 := by
  have := pushN_len (mWrite e t).1 3
  show (pushN 3 _).2.length ≤ _
  omega
end Go.Eng
