/- Plain models of what the functions compute. -/
import Derived.Test.YtnpeomhpbakgnaaM2
set_option linter.unusedVariables false
set_option linter.unusedSimpArgs false
namespace Go.Eng

abbrev MN : Int := 1000000000
def mNum (n : Int) : Bool := mIn n 0 1000000000
def mRoadNum (r : DRoad) : Bool := mNum r.own && mNum r.far && mNum r.port
def mPolicyOk (p : DPolicy) : Bool := if p.kind = 2 then mIn p.many 1 8 else (p.kind == 1 || p.kind == 3) && p.many == 0
def mBucketOk (b : DBucket) : Bool := mIn b.rate 0 100 && mIn b.burst 1 100 && mIn b.hav 0 b.burst
def mBucketNew (r u : Int) : DBucket × Bool := if mBucketOk ⟨r, u, u⟩ = true then (⟨r, u, u⟩, true) else (⟨0, 0, 0⟩, false)
def mTokenFor (s : Int) : Int := if mIn s 1 2 = true then w64 (100 + s) else 0
def mDrawn (e : DEnd) : DEnd × Int := if mIn e.draw 1 999999998 = true then ({ e with draw := w64 (e.draw + 2) }, e.draw) else (e, 0)
def mOutOk (o : DOut) : Bool := mNum o.base && mIn o.room 1 200 && decide ((o.text.length : Int) ≤ o.room) && mIn o.sent o.base (w64 (o.base + o.text.length))
def fAll {α : Type} (x : α) (_ : Nat) : Option α := some x
theorem colL_all {α : Type} : ∀ (l : List α) (i : Nat), colL fAll l i = l
  | [], _ => rfl
  | x :: l, i => by rw [colL_some (f := fAll) (y := x) rfl, colL_all l]
end Go.Eng
