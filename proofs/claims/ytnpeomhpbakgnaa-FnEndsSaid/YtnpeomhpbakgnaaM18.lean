/- Plain models of what the functions compute. -/
import Derived.Test.YtnpeomhpbakgnaaM17
set_option linter.unusedVariables false
set_option linter.unusedSimpArgs false
namespace Go.Eng

def meshIn (a : DAddr) : List DAddr → List DRoad → List DRoad
  | [], acc => acc
  | b :: l, acc => meshIn a l (if acc.length < 8 then acc ++ [⟨a.addr, b.addr, 0⟩] else acc)
def meshOut (far : List DAddr) : List DAddr → List DRoad → List DRoad
  | [], acc => acc
  | a :: l, acc => meshOut far l (meshIn a far acc)
theorem meshIn_full (a : DAddr) : ∀ (l : List DAddr) (acc : List DRoad), ¬ acc.length < 8 → meshIn a l acc = acc
  | [], _, _ => rfl
  | b :: l, acc, h => by rw [meshIn, if_neg h]; exact meshIn_full a l acc h
theorem meshIn_len (a : DAddr) : ∀ (l : List DAddr) (acc : List DRoad), acc.length ≤ 8 → (meshIn a l acc).length ≤ 8
  | [], _, h => h
  | b :: l, acc, h => by
    rw [meshIn]
    apply meshIn_len a l
    split
    · simp; omega
    · exact h
theorem meshOut_len (far : List DAddr) : ∀ (l : List DAddr) (acc : List DRoad), acc.length ≤ 8 → (meshOut far l acc).length ≤ 8
  | [], _, h => h
  | a :: l, acc, h => meshOut_len far l _ (meshIn_len a far acc h)
def manyR (a b : DAddr) : Nat → List DRoad
  | 0 => []
  | n + 1 => manyR a b n ++ [⟨a.addr, b.addr, (n : Int)⟩]
theorem manyR_len (a b : DAddr) : ∀ n, (manyR a b n).length = n
  | 0 => rfl
  | n + 1 => by simp [manyR, manyR_len a b n]
def mMany (p : DPolicy) : Nat := if p.kind = 2 then p.many.toNat else 1
def mWanted (p : DPolicy) (own far : List DAddr) : List DRoad :=
  if mPolicyOk p = true ∧ mIn own.length 1 6 = true ∧ mIn far.length 1 6 = true then
    if p.kind = 1 then meshOut far own [] else manyR (gA own 0) (gA far 0) (mMany p)
  else []
theorem policy_many {p : DPolicy} (h : mPolicyOk p = true) : (mMany p : Int) = (if p.many > 1 then p.many else 1) ∧ (p.kind = 2 → (mMany p : Int) = p.many) ∧ (p.kind ≠ 2 → p.many = 0 ∧ mMany p = 1) ∧ mMany p ≤ 8 ∧ 1 ≤ mMany p := by
  unfold mMany
  simp only [mPolicyOk] at h
  split at h
  · rename_i h2
    have := mIn_iff.1 h
    simp only [h2, if_true]
    refine ⟨?_, ?_, ?_, ?_, ?_⟩
    · split <;> omega
    · intro _; omega
    · intro hh; exact absurd rfl hh
    · omega
    · omega
  · rename_i h2
    simp only [Bool.and_eq_true, beq_iff_eq] at h
    simp only [h2, if_false, h.2]
    refine ⟨by simp, fun hh => absurd hh (by simp), fun _ => ⟨trivial, trivial⟩, by omega, by omega⟩
theorem mWanted_len (p : DPolicy) (own far : List DAddr) : (mWanted p own far).length ≤ 8 := by
  unfold mWanted
  split
  · rename_i h
    split
    · exact meshOut_len _ _ _ (by simp)
    · rw [manyR_len]; exact (policy_many h.1).2.2.2.1
  · simp
def mHasRoad (l : List DRoad) (r : DRoad) : Bool := anyL (fun x : DRoad => decide (x = r)) l
def fMiss (have_ : List DRoad) (r : DRoad) (_ : Nat) : Option DRoad := if mHasRoad have_ r = true then none else some r
def mMissing (w h : List DRoad) : List DRoad := if w.length ≤ 64 ∧ h.length ≤ 64 then colL (fMiss h) w 0 else []
/-- Of the last address that fits, whether it is spare. -/
def spL (a : Int) : List DAddr → Bool → Bool
  | [], s => s
  | x :: l, s => spL a l (if x.addr = a then x.spare else s)
def mSpare (e : DEnd) (a : Int) : Bool := spL a e.far false
theorem spL_append (a : Int) : ∀ (l m : List DAddr) (s : Bool), spL a (l ++ m) s = spL a m (spL a l s)
  | [], _, _ => rfl
  | x :: l, m, s => by simp only [List.cons_append, spL]; exact spL_append a l m _
theorem spare_eq (e : DEnd) (a : Int) : mSpare e a = (decide (0 ≤ mFarAt e a) && (gA e.far (mFarAt e a).toNat).spare) := by
  have : ∀ n, n ≤ e.far.length → spL a (e.far.take n) false = (decide (0 ≤ dnL a e.far n) && (gA e.far (dnL a e.far n).toNat).spare) := by
    intro n
    induction n with
    | zero => intro _; simp [spL, dnL]
    | succ n ih =>
      intro hn
      have hg : e.far[n]? = some (gA e.far n) := by
        rw [List.getElem?_eq_getElem (by omega)]; simp [gA, List.getD, (by omega : n < e.far.length)]
      rw [List.take_add_one, hg, spL_append, ih (by omega)]
      simp only [Option.toList, spL, dnL]
      split
      · simp
      · rfl
  have h := this e.far.length (Nat.le_refl _)
  rw [List.take_length] at h
  exact h
def mgL (e : DEnd) : List DRoad → DEnd → List DLetter → DEnd × List DLetter
  | [], o, acc => (o, acc)
  | r :: l, o, acc => mgL e l (mJoin o r (mSpare e r.far)).1 (acc ++ (mJoin o r (mSpare e r.far)).2)
def mMissL (e : DEnd) : List DRoad := mMissing (mWanted e.policy e.own e.far) (mHaveOf e)
def mManage (e : DEnd) : DEnd × List DLetter := if mEndOk e = true ∧ e.side = 1 then mgL e (mMissL e) e [] else (e, [])
theorem mJoin_len1 (e : DEnd) (r : DRoad) (p : Bool) : (mJoin e r p).2.length ≤ 1 := by
  unfold mJoin
  split <;> simp
theorem mgL_B (e : DEnd) : ∀ (l : List DRoad) (o : DEnd) (acc : List DLetter), o.B → (mgL e l o acc).1.B
  | [], _, _, h => h
  | r :: l, o, acc, h => mgL_B e l _ _ (mJoin_B r _ h)
theorem mgL_len (e : DEnd) : ∀ (l : List DRoad) (o : DEnd) (acc : List DLetter), (mgL e l o acc).2.length ≤ acc.length + l.length
  | [], _, _ => by simp [mgL]
  | r :: l, o, acc => by
    rw [mgL]
    have := mgL_len e l (mJoin o r (mSpare e r.far)).1 (acc ++ (mJoin o r (mSpare e r.far)).2)
    have := mJoin_len1 o r (mSpare e r.far)
    rw [List.length_append] at *
    simp only [List.length_cons]
    omega
theorem mMissL_len (e : DEnd) : (mMissL e).length ≤ 8 := by
  unfold mMissL mMissing
  split
  · exact Nat.le_trans (colL_le _ _ _) (mWanted_len _ _ _)
  · simp
theorem mManage_B {e : DEnd} (h : e.B) : (mManage e).1.B := by
  unfold mManage
  split
  · exact mgL_B _ _ _ _ h
  · exact h
theorem mManage_len (e : DEnd) : (mManage e).2.length ≤ 1073741824 := by
  unfold mManage
  split
  · have := mgL_len e (mMissL e) e []
    have := mMissL_len e
    simp at *; omega
  · simp
end Go.Eng
