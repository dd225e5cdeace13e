/- Plain models of what the functions compute. -/
import Derived.Test.YtnpeomhpbakgnaaM5
set_option linter.unusedVariables false
set_option linter.unusedSimpArgs false
namespace Go.Eng

def mHas (l : List Int) (n : Int) : Bool := anyL (fun x : Int => x == n) l
def plL (id : Int) : List DAddr → Nat → Nat
  | [], i => i
  | x :: l, i => if x.id < id then plL id l (i + 1) else i
def mPutL (l : List DAddr) (a : DAddr) : List DAddr :=
  if 0 ≤ mAddrAt l a.id then l.set (mAddrAt l a.id).toNat a else l.take (plL a.id l 0) ++ [a] ++ l.drop (plL a.id l 0)
def mPutAddr (l : List DAddr) (a : DAddr) : List DAddr × Bool :=
  if mAddrsOk (mPutL l a) = true then (mPutL l a, true) else (l, false)
theorem mAddrsOk_len {l : List DAddr} (h : mAddrsOk l = true) : l.length ≤ 6 := by
  simp only [mAddrsOk, Bool.and_eq_true, decide_eq_true_eq] at h
  exact h.1
theorem mPutL_len (l : List DAddr) (a : DAddr) : (mPutL l a).length ≤ l.length + 1 ∧ l.length ≤ (mPutL l a).length := by
  unfold mPutL
  split
  · simp
  · simp; omega
theorem mPutAddr_big {l : List DAddr} {a : DAddr} (h : 6 < l.length) : mPutAddr l a = (l, false) := by
  unfold mPutAddr
  rw [if_neg]
  intro h'
  have := mAddrsOk_len h'
  have := mPutL_len l a
  omega
theorem mPutAddr_no {l : List DAddr} {a : DAddr} (h : (mPutAddr l a).2 = false) : (mPutAddr l a).1 = l := by
  unfold mPutAddr at h ⊢
  split at h
  · cases h
  · rename_i hn; rw [if_neg hn]
theorem mPutAddr_len (l : List DAddr) (a : DAddr) : (mPutAddr l a).1.length ≤ l.length + 1 := by
  unfold mPutAddr
  split
  · exact (mPutL_len l a).1
  · simp
def fUntold (a : DAddr) (_ : Nat) : Option Int := if a.told = true then none else some a.id
def mUntold (l : List DAddr) : List Int := colL fUntold l 0
def mAddOwn (e : DEnd) (a : DAddr) : DEnd × Bool :=
  if mEndOk e = true ∧ mAddrAt e.own a.id < 0 ∧ mHas e.done a.id = false then ({ e with own := (mPutAddr e.own { a with told := false }).1 }, (mPutAddr e.own { a with told := false }).2) else (e, false)
def mEndNew (side addr : Int) (p : DPolicy) : DEnd × Bool :=
  if mIn side 1 2 = true ∧ mPolicyOk p = true ∧ mAddrsOk [⟨0, addr, false, true⟩] = true then
    (⟨side, 0, 0, 0, p, [⟨0, addr, false, true⟩], [], [], [], ⟨1, 3, 3⟩, ⟨[], 0, 0, 120⟩, ⟨0, [], []⟩, [], [], w64 (1000 + side), 0, 0⟩, true)
  else (⟨0, 0, 0, 0, ⟨0, 0⟩, [], [], [], [], ⟨0, 0, 0⟩, ⟨[], 0, 0, 0⟩, ⟨0, [], []⟩, [], [], 0, 0, 0⟩, false)
def gSub (e : DEnd) (k : Int) : DSub := e.subs.getD k.toNat (ETy.zero .sub)
def fCarr (e : DEnd) (k : Int) (_ : Nat) : Option Int := if (gSub e k).spare = true then none else some k
def mCarr0 (e : DEnd) : List Int := colL (fCarr e) (mOnOf e) 0
def mCarr (e : DEnd) : List Int := if (mCarr0 e).length = 0 then mOnOf e else mCarr0 e
def mNextSub (e : DEnd) : Int :=
  if mEndOk e = true ∧ (mCarr e).length ≠ 0 then (mCarr e).getD (e.pick.tmod ((mCarr e).length : Int)).toNat (ETy.zero .int) else -1
theorem mOnOf_mem (e : DEnd) : ∀ k ∈ mOnOf e, 0 ≤ k ∧ k < (e.subs.length : Int) := by
  have : ∀ (l : List DSub) (i : Nat), ∀ k ∈ colL fOn l i, (i : Int) ≤ k ∧ k < ((i + l.length : Nat) : Int) := by
    intro l
    induction l with
    | nil => intro i k hk; simp [colL] at hk
    | cons x l ih =>
      intro i k hk
      rw [colL] at hk
      split at hk
      · rename_i y hy
        simp only [fOn] at hy
        split at hy
        · cases hy
          rcases List.mem_cons.1 hk with h | h
          · subst h; simp; omega
          · have := ih (i + 1) k h; simp at this ⊢; omega
        · cases hy
      · have := ih (i + 1) k hk; simp at this ⊢; omega
  intro k hk
  have := this e.subs 0 k hk
  simpa using this
def mAccept (o : DOut) (t : List UInt8) : DOut × Int :=
  if mOutOk o = true ∧ o.base + o.text.length + (if o.room - o.text.length < t.length then o.room - o.text.length else t.length) ≤ 1000000000 then
    ({ o with text := o.text ++ t.take (if o.room - o.text.length < t.length then o.room - o.text.length else (t.length : Int)).toNat }, if o.room - o.text.length < t.length then o.room - o.text.length else t.length)
  else (o, 0)
def mWrite (e : DEnd) (t : List UInt8) : DEnd × Int := if mEndOk e = true then ({ e with out := (mAccept e.out t).1 }, (mAccept e.out t).2) else (e, 0)
def mTakeN (p : DPieces) (n : Int) : Int := if (p.ready.length : Int) < n then p.ready.length else n
def mTakeReady (p : DPieces) (n : Int) : DPieces × List UInt8 :=
  if mPiecesOk p = true ∧ 0 ≤ n ∧ p.read + mTakeN p n ≤ 1000000000 then
    ({ p with read := p.read + mTakeN p n, ready := p.ready.drop (mTakeN p n).toNat }, p.ready.take (mTakeN p n).toNat)
  else (p, [])
def mRead (e : DEnd) (n : Int) : DEnd × List UInt8 := if mEndOk e = true then ({ e with inn := (mTakeReady e.inn n).1 }, (mTakeReady e.inn n).2) else (e, [])
def mTagAddr (m t i a : Int) : DTag := ⟨3, m, t, i, a⟩
def mTellOne (e : DEnd) (a : DAddr) : DLetter :=
  mBetween (gSub e ((mOnOf e).getD 0 (ETy.zero .int))).road ⟨8, 0, 0, 0, 0, 0, 0, 0, (gSub e ((mOnOf e).getD 0 (ETy.zero .int))).give, mTagAddr e.key e.peer a.id a.addr, a.id, a.addr, a.spare, 0, []⟩
def fTell (e : DEnd) (a : DAddr) (_ : Nat) : Option DLetter := if a.told = true then none else some (mTellOne e a)
def mTellAddrs (e : DEnd) : List DLetter :=
  if mEndOk e = true ∧ e.state = 2 ∧ (mOnOf e).length ≠ 0 then colL (fTell e) e.own 0 else []
end Go.Eng
