/- Plain models of what the functions compute. -/
import Derived.Test.YtnpeomhpbakgnaaM8
set_option linter.unusedVariables false
set_option linter.unusedSimpArgs false
namespace Go.Eng

def lNums (x : DLetter) : List Int := [x.src, x.dst, x.port, x.key, x.token, x.nonce, x.give, x.sign, x.id, x.addr, x.pos, x.tag.kind, x.tag.one, x.tag.two, x.tag.a, x.tag.b]
def mLetterOk (x : DLetter) : Bool := mIn x.kind 1 13 && mNums (lNums x) && decide ((x.text.length : Int) ≤ 20)
theorem mNums_of {l : List Int} (h : mNums l = true) : ∀ n ∈ l, 0 ≤ n ∧ n ≤ 1000000000 := fun n hn => mNum_iff.1 ((allL_iff mNum l).1 h n hn)
theorem letterOk_bd {x : DLetter} (h : mLetterOk x = true) : (0 ≤ x.src ∧ x.src ≤ 1000000000) ∧ (0 ≤ x.dst ∧ x.dst ≤ 1000000000) ∧ (0 ≤ x.port ∧ x.port ≤ 1000000000) ∧ (0 ≤ x.pos ∧ x.pos ≤ 1000000000) ∧ x.text.length ≤ 20 := by
  simp only [mLetterOk, Bool.and_eq_true, decide_eq_true_eq] at h
  have := mNums_of h.1.2
  refine ⟨this _ (by simp [lNums]), this _ (by simp [lNums]), this _ (by simp [lNums]), this _ (by simp [lNums]), by omega⟩
end Go.Eng
