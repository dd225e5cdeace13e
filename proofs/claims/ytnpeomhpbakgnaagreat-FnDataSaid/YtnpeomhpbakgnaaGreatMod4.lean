/- Plain models of what the functions compute; part 4. No program in sight. -/
import Derived.Test.YtnpeomhpbakgnaaGreatMod3
set_option linter.unusedVariables false
set_option linter.unusedSimpArgs false
namespace Go.Eng
def mLong (n x : Int) : List UInt8 := List.replicate n.toNat (UInt8.ofNat x.toNat)
theorem rep_step {i n : Nat} (x : Int) (h : i < n) : (List.replicate i x ++ List.replicate (n - i) 0).set i x = List.replicate (i + 1) x ++ List.replicate (n - (i + 1)) 0 := by
 have e : n - i = (n - (i + 1)) + 1 := by omega
 rw [e, List.replicate_succ, List.set_append_right _ _ (by simp), List.length_replicate, Nat.sub_self, List.set_cons_zero]
 rw [List.replicate_succ' , List.append_assoc]
 rfl
theorem rep_len {i n : Nat} (x : Int) (h : i ≤ n) : (List.replicate i x ++ List.replicate (n - i) (0 : Int)).length = n := by simp; omega
def lKey : List Int := [0, 1, 20, 32, 63, 64, 65, 100]
def dKey (c : DCur) : List UInt8 := mLong (mPickInt c lKey) (IntKind.u8.wrap (mByte (mPickIntC c lKey)))
def dKeyC (c : DCur) : DCur := mByteC (mPickIntC c lKey)
theorem dKeyC_b (c : DCur) : (dKeyC c).b = c.b := by rw [dKeyC, mByteC_b, mPickIntC_b]
theorem pick_key (c : DCur) : 0 ≤ mPickInt c lKey ∧ mPickInt c lKey ≤ 100 := by
 have h := mBelow_bd (c := c) (n := 8) (by decide)
 have hk : ∀ k : Nat, k < 8 → 0 ≤ lKey.getD k 0 ∧ lKey.getD k 0 ≤ 100 := by decide
 unfold mPickInt
 exact hk _ (by show (mBelow c 8).toNat < 8; omega)
theorem dKey_len (c : DCur) : (dKey c).length ≤ 100 := by
 have := pick_key c
 rw [dKey, mLong, List.length_replicate]
 omega
theorem G_U {x : DEnd} (h : x.G) : x.own.length ≤ 1048576 ∧ x.subs.length ≤ 1048576 ∧ x.inn.ready.length ≤ 1073741824 ∧ x.far.length ≤ 1073741824 ∧ x.halfs.length ≤ 1073741824 ∧ x.inn.list.length ≤ 1073741824 ∧ x.done.length ≤ 1073741824 ∧ x.over.length ≤ 1073741824 := by
 have h1 := G_lens h
 have h2 := G_B h
 unfold DEnd.B at h2
 omega
end Go.Eng
