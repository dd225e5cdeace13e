/- Plain models of what the functions compute. -/
import Derived.Test.YtnpeomhpbakgnaaM4
set_option linter.unusedVariables false
set_option linter.unusedSimpArgs false
namespace Go.Eng

theorem mkEnd_re (r : DEnd) (k : Int) : ({ side := r.side, state := r.state, key := r.key, peer := r.peer, policy := r.policy, own := (mkEnd r k).own, far := (mkEnd r k).far, subs := (mkEnd r k).subs, halfs := (mkEnd r k).halfs, bucket := r.bucket, out := r.out, inn := { read := r.inn.read, ready := r.inn.ready, list := (mkEnd r k).inn.list }, done := (mkEnd r k).done, over := (mkEnd r k).over, draw := r.draw, now := r.now, pick := r.pick } : DEnd) = mkEnd r k := rfl
theorem hd_mk1 (r : DEnd) : hdEnd (mkEnd r 1) 1 = 1 + (nEnd r : Int) := hd_mkEnd r 1 (by decide)
theorem lt0_1 (n : Nat) : (1 + (n : Int) < 0) = False := by simp; omega
theorem lt0_2 (n m : Nat) : (1 + (n : Int) + 19 * (m : Int) < 0) = False := by simp; omega
theorem lt0_3 (n : Nat) : (1 + 19 * (n : Int) < 0) = False := by simp; omega
theorem KB_of_B {r : DEnd} (h : r.B) : KB 1 (nEnd r) := by
  obtain ⟨h1, h2, h3, h4, h5, h6, h7⟩ := h
  unfold nEnd KB
  omega
theorem KB_letters {r : DEnd} (h : r.B) {l : List DLetter} (hl : l.length ≤ 1073741824) : KB (1 + (nEnd r : Int)) (19 * l.length) := by
  obtain ⟨h1, h2, h3, h4, h5, h6, h7⟩ := h
  unfold nEnd KB
  omega
theorem KB_letters1 {l : List DLetter} (hl : l.length ≤ 1073741824) : KB 1 (19 * l.length) := by
  unfold KB
  omega
theorem hd_letters (l : List DLetter) (k : Int) : hdL mkLetter 19 (mkL mkLetter 19 l k) k = k + 19 * (l.length : Int) := hdL_mkL mkLetter 19 l k
end Go.Eng
