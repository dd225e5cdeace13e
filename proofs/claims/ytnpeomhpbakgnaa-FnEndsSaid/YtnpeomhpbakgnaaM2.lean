/- Plain models of what the functions compute. -/
import Derived.Test.YtnpeomhpbakgnaaM1
set_option linter.unusedVariables false
set_option linter.unusedSimpArgs false
namespace Go.Eng

/-- The place of the first element that fits, from i on; -1. -/
def findL {α : Type} (p : α → Bool) : List α → Nat → Int
  | [], _ => -1
  | x :: l, i => if p x = true then (i : Int) else findL p l (i + 1)
/-- Does one fit? -/
def anyL {α : Type} (p : α → Bool) : List α → Bool
  | [] => false
  | x :: l => if p x = true then true else anyL p l
/-- What the elements give, in order. -/
def colL {α β : Type} (f : α → Nat → Option β) : List α → Nat → List β
  | [], _ => []
  | x :: l, i => match f x i with
    | some y => y :: colL f l (i + 1)
    | none => colL f l (i + 1)
theorem colL_some {α β : Type} {f : α → Nat → Option β} {x : α} {l : List α} {i : Nat} {y : β} (h : f x i = some y) : colL f (x :: l) i = y :: colL f l (i + 1) := by rw [colL, h]
theorem colL_none {α β : Type} {f : α → Nat → Option β} {x : α} {l : List α} {i : Nat} (h : f x i = none) : colL f (x :: l) i = colL f l (i + 1) := by rw [colL, h]
theorem colL_le {α β : Type} (f : α → Nat → Option β) : ∀ (l : List α) (i : Nat), (colL f l i).length ≤ l.length
  | [], _ => Nat.le_refl _
  | x :: l, i => by
    rw [colL]
    split
    · have := colL_le f l (i + 1); simp; omega
    · have := colL_le f l (i + 1); simp; omega
theorem findL_bd {α : Type} (p : α → Bool) : ∀ (l : List α) (i : Nat), findL p l i = -1 ∨ ((i : Int) ≤ findL p l i ∧ findL p l i < i + l.length)
  | [], _ => .inl rfl
  | x :: l, i => by
    rw [findL]
    split
    · refine .inr ⟨Int.le_refl _, ?_⟩
      rw [List.length_cons]; omega
    · rcases findL_bd p l (i + 1) with h | ⟨h1, h2⟩
      · exact .inl h
      · refine .inr ⟨by omega, ?_⟩
        rw [List.length_cons]; omega

def pSub (r : DRoad) (s : DSub) : Bool := s.state != 4 && decide (s.road = r)
def mSubAt (e : DEnd) (r : DRoad) : Int := findL (pSub r) e.subs 0
theorem mSubAt_bd (e : DEnd) (r : DRoad) : mSubAt e r = -1 ∨ (0 ≤ mSubAt e r ∧ mSubAt e r < e.subs.length) := by
  have := findL_bd (pSub r) e.subs 0
  simpa [mSubAt] using this
def mOwns (e : DEnd) (addr : Int) : Bool := anyL (fun a : DAddr => a.addr == addr) e.own
def mRoadOf (x : DLetter) : DRoad := ⟨x.dst, x.src, x.port⟩
def mBetween (r : DRoad) (x : DLetter) : DLetter := { x with src := r.own, dst := r.far, port := r.port }
def fOn (s : DSub) (i : Nat) : Option Int := if s.state = 3 then some (i : Int) else none
def mOnOf (e : DEnd) : List Int := colL fOn e.subs 0
def fHave (s : DSub) (_ : Nat) : Option DRoad := if s.state ≠ 4 then some s.road else none
def mHaveOf (e : DEnd) : List DRoad := colL fHave e.subs 0
def mSignedOn (e : DEnd) (x : DLetter) : Int :=
  if mSubAt e (mRoadOf x) < 0 ∨ (e.subs.getD (mSubAt e (mRoadOf x)).toNat (ETy.zero .sub)).state ≠ 3 ∨ (e.subs.getD (mSubAt e (mRoadOf x)).toNat (ETy.zero .sub)).take ≠ x.sign then -1 else mSubAt e (mRoadOf x)
def mIn (n lo hi : Int) : Bool := decide (lo ≤ n) && decide (n ≤ hi)
end Go.Eng
