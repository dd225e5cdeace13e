/- Plain models of what the functions compute; part 1. No program in sight. -/
import Derived.Test.YtnpeomhpbakgnaaGreatEng6
set_option linter.unusedVariables false
set_option linter.unusedSimpArgs false
namespace Go.Eng
/-- What was taken apart and put together again is the same. -/
theorem etas : (∀ x : DTag, (⟨x.kind, x.one, x.two, x.a, x.b⟩ : DTag) = x) ∧ (∀ x : DRoad, (⟨x.own, x.far, x.port⟩ : DRoad) = x) ∧ (∀ x : DLetter, (⟨x.kind, x.src, x.dst, x.port, x.key, x.token, x.nonce, x.give, x.sign, x.tag, x.id, x.addr, x.spare, x.pos, x.text⟩ : DLetter) = x) ∧ (∀ x : DAddr, (⟨x.id, x.addr, x.spare, x.told⟩ : DAddr) = x) ∧ (∀ x : DSub, (⟨x.road, x.state, x.spare, x.mine, x.theirs, x.give, x.take, x.tries⟩ : DSub) = x) ∧ (∀ x : DHalf, (⟨x.road, x.theirs, x.mine, x.give, x.take, x.til⟩ : DHalf) = x) ∧ (∀ x : DPiece, (⟨x.pos, x.text⟩ : DPiece) = x) ∧ (∀ x : DPolicy, (⟨x.kind, x.many⟩ : DPolicy) = x) ∧ (∀ x : DBucket, (⟨x.rate, x.burst, x.hav⟩ : DBucket) = x) ∧ (∀ x : DOut, (⟨x.text, x.base, x.sent, x.room⟩ : DOut) = x) ∧ (∀ x : DPieces, (⟨x.read, x.ready, x.list⟩ : DPieces) = x) ∧ (∀ x : DEnd, (⟨x.side, x.state, x.key, x.peer, x.policy, x.own, x.far, x.subs, x.halfs, x.bucket, x.out, x.inn, x.done, x.over, x.draw, x.now, x.pick⟩ : DEnd) = x) ∧ (∀ x : DKnown, (⟨x.keys, x.tags⟩ : DKnown) = x) ∧ (∀ x : DWorld, (⟨x.a, x.b, x.bag, x.past, x.wroteA, x.wroteB, x.readA, x.readB, x.known, x.nums, x.answersA, x.answersB⟩ : DWorld) = x) := ⟨dTag_eta, dRoad_eta, dLetter_eta, dAddr_eta, dSub_eta, dHalf_eta, dPiece_eta, dPolicy_eta, dBucket_eta, dOut_eta, dPieces_eta, dEnd_eta, dKnown_eta, dWorld_eta⟩
theorem nbls : (∀ c b : Bool, (bif c then true else b) = (c || b)) ∧ (∀ c b : Bool, (bif c then b else false) = (c && b)) ∧ (∀ x y : Bool, (x || y) = false ↔ x = false ∧ y = false) ∧ (∀ a b : Bool, ((a || b) = true) = (a = true ∨ b = true)) ∧ (∀ a b : Bool, ((a && b) = true) = (a = true ∧ b = true)) ∧
  (∀ x y : Bool, (x && y) = false ↔ (x = true → y = false)) ∧ (∀ b : Bool, ((!b) = true) = (b = false)) ∧ (∀ b : Bool, ((!b) = false) = (b = true)) ∧ (∀ a b : Bool, ((!a) = b) = (a = !b)) ∧ ((!true) = false) ∧ ((!false) = true) :=
 ⟨fun c b => by cases c <;> rfl, fun c b => by cases c <;> rfl, fun x y => by cases x <;> cases y <;> simp, fun x y => by cases x <;> cases y <;> simp, fun x y => by cases x <;> cases y <;> simp, fun x y => by cases x <;> cases y <;> simp, fun x => by cases x <;> simp, fun x => by cases x <;> simp, fun x y => by cases x <;> cases y <;> simp, rfl, rfl⟩
theorem rSV {a : SV} : a = a := rfl
theorem rSC {a : List SC} : a = a := rfl
theorem r00 : ((0 : Nat) : Int) = 0 := rfl
theorem sp1 {p : Prop} (h : p := by first | with_reducible exact rfl | exact trivial | with_reducible assumption | exact rSV | exact rSC | (show drawOk _ _ _ = true; exact rfl) | exact r00) : p := h




/-! sizes -/
def sq (q : Int) (k : Int → Int) : Int := if q < 0 then -1 else k q
def DPieces.W (p : DPieces) : Prop := p.ready.length ≤ 9223372036854775807 ∧ p.list.length ≤ 9223372036854775807 ∧ ∀ x ∈ p.list, x.text.length ≤ 9223372036854775807
def DEnd.W (e : DEnd) : Prop := e.own.length ≤ 9223372036854775807 ∧ e.far.length ≤ 9223372036854775807 ∧ e.subs.length ≤ 9223372036854775807 ∧ e.halfs.length ≤ 9223372036854775807 ∧ e.out.text.length ≤ 9223372036854775807 ∧ e.inn.W ∧ e.done.length ≤ 9223372036854775807 ∧ e.over.length ≤ 9223372036854775807
def DWorld.W (w : DWorld) : Prop := w.a.W ∧ w.b.W ∧ (w.bag.length ≤ 9223372036854775807 ∧ ∀ x ∈ w.bag, x.text.length ≤ 9223372036854775807) ∧ (w.past.length ≤ 9223372036854775807 ∧ ∀ x ∈ w.past, x.text.length ≤ 9223372036854775807) ∧
 w.wroteA.length ≤ 9223372036854775807 ∧ w.wroteB.length ≤ 9223372036854775807 ∧ w.readA.length ≤ 9223372036854775807 ∧ w.readB.length ≤ 9223372036854775807 ∧ w.known.keys.length ≤ 9223372036854775807 ∧ w.known.tags.length ≤ 9223372036854775807 ∧ w.nums.length ≤ 9223372036854775807 ∧ w.answersA.length ≤ 9223372036854775807 ∧ w.answersB.length ≤ 9223372036854775807
def QB (q : Int) : Prop := 0 ≤ q ∧ q ≤ 1048576

/-- All slices are of moderate length. -/
def DEnd.B (e : DEnd) : Prop := e.own.length ≤ 1073741824 ∧ e.far.length ≤ 1073741824 ∧ e.subs.length ≤ 1073741824 ∧ e.halfs.length ≤ 1073741824 ∧ e.inn.list.length ≤ 1073741824 ∧ e.done.length ≤ 1073741824 ∧ e.over.length ≤ 1073741824
def DWorld.B (w : DWorld) : Prop := w.a.B ∧ w.b.B ∧ w.bag.length ≤ 1073741824 ∧ w.past.length ≤ 1073741824 ∧ w.known.keys.length ≤ 1073741824 ∧ w.known.tags.length ≤ 1073741824 ∧ w.nums.length ≤ 1073741824 ∧ w.answersA.length ≤ 1073741824 ∧ w.answersB.length ≤ 1073741824

theorem sq_pos {q : Int} {k : Int → Int} (h : ¬ q < 0) : sq q k = k q := if_neg h
theorem sq_eq {q : Int} {k : Int → Int} (h : 0 ≤ q) : sq q k = k q := by unfold sq; rw [if_neg (by omega)]

theorem dEnd_iff (x y : DEnd) : x = y ↔ x.side = y.side ∧ x.state = y.state ∧ x.key = y.key ∧ x.peer = y.peer ∧ x.policy = y.policy ∧ x.own = y.own ∧ x.far = y.far ∧ x.subs = y.subs ∧ x.halfs = y.halfs ∧ x.bucket = y.bucket ∧ x.out = y.out ∧ x.inn = y.inn ∧ x.done = y.done ∧ x.over = y.over ∧ x.draw = y.draw ∧ x.now = y.now ∧ x.pick = y.pick := by
 rcases x with ⟨⟩; rcases y with ⟨⟩; simp
/-! marks -/
def mDig (k : Nat) (out : List UInt8) : List UInt8 :=
 if h : k = 0 then out else mDig (k / 10) (UInt8.ofNat (IntKind.u8.wrap (w64 (48 + (k : Int).tmod 10))).toNat :: out)
termination_by k
decreasing_by omega
def mText (k : Int) : List UInt8 := if k ≤ 0 then [109, 48] else 109 :: mDig k.toNat []

def m3 (k : Int) : Bool := k.tmod 3 == 0
def mkInt (k : Int) : Int := k
def mkAddr (k : Int) : DAddr := ⟨k, k + 1, m3 (k + 2), m3 (k + 3)⟩
def mkSub (k : Int) : DSub := ⟨⟨k, k + 1, k + 2⟩, k + 3, m3 (k + 4), k + 5, k + 6, k + 7, k + 8, k + 9⟩
def mkHalf (k : Int) : DHalf := ⟨⟨k, k + 1, k + 2⟩, k + 3, k + 4, k + 5, k + 6, k + 7⟩
def mkPiece (k : Int) : DPiece := ⟨k, mText (k + 1)⟩
def mkLetter (k : Int) : DLetter := ⟨k, k + 1, k + 2, k + 3, k + 4, k + 5, k + 6, k + 7, k + 8, ⟨k + 9, k + 10, k + 11, k + 12, k + 13⟩, k + 14, k + 15, m3 (k + 16), k + 17, mText (k + 18)⟩

/-- A list, its elements marked from k on, n numbers an element. -/
def mkL {α : Type} (mk : Int → α) (n : Nat) : List α → Int → List α
 | [], _ => []
 | _ :: l, k => mk k :: mkL mk n l (k + n)
theorem mkL_length {α : Type} (mk : Int → α) (n : Nat) : ∀ (l : List α) (k : Int), (mkL mk n l k).length = l.length
 | [], _ => rfl
 | _ :: l, k => by simp [mkL, mkL_length mk n l]
/-- Are the marks still there? -/
def hdL {α : Type} [DecidableEq α] (mk : Int → α) (n : Nat) : List α → Int → Int
 | [], k => k
 | x :: l, k => if x = mk k then hdL mk n l (k + n) else -1
theorem hdL_mkL {α : Type} [DecidableEq α] (mk : Int → α) (n : Nat) : ∀ (l : List α) (k : Int), hdL mk n (mkL mk n l k) k = k + n * l.length
 | [], k => by simp [hdL, mkL]
 | _ :: l, k => by
  rw [mkL, hdL, if_pos rfl, hdL_mkL mk n l]
  rw [List.length_cons, Int.natCast_add, Int.mul_add]
  omega

theorem set_get {α : Type} (l : List α) (i : Nat) (x d : α) (h : i < l.length) : (l.set i x).getD i d = x := by
 simp [List.getD, h]
theorem u8_bd (n : Int) : 0 ≤ IntKind.u8.wrap n ∧ IntKind.u8.wrap n ≤ 255 := by
 unfold IntKind.wrap
 simp [IntKind.signed, IntKind.bits]
 omega
def mkEnd (e : DEnd) (k : Int) : DEnd :=
 let k1 := k + 4 * e.own.length
 let k2 := k1 + 4 * e.far.length
 let k3 := k2 + 10 * e.subs.length
 let k4 := k3 + 8 * e.halfs.length
 let k5 := k4 + 2 * e.inn.list.length
 let k6 := k5 + 1 * e.done.length
 { e with own := mkL mkAddr 4 e.own k, far := mkL mkAddr 4 e.far k1, subs := mkL mkSub 10 e.subs k2, halfs := mkL mkHalf 8 e.halfs k3,
           inn := { e.inn with list := mkL mkPiece 2 e.inn.list k4 }, done := mkL mkInt 1 e.done k5, over := mkL mkInt 1 e.over k6 }
def nEnd (e : DEnd) : Nat := 4 * e.own.length + 4 * e.far.length + 10 * e.subs.length + 8 * e.halfs.length + 2 * e.inn.list.length + e.done.length + e.over.length
def hdEnd (e : DEnd) (k : Int) : Int :=
 sq (hdL mkAddr 4 e.own k) fun k => sq (hdL mkAddr 4 e.far k) fun k => sq (hdL mkSub 10 e.subs k) fun k => sq (hdL mkHalf 8 e.halfs k) fun k =>
 sq (sq (hdL mkPiece 2 e.inn.list k) id) fun k => sq (hdL mkInt 1 e.done k) fun k => sq (hdL mkInt 1 e.over k) id
theorem hd_mkEnd (e : DEnd) (k : Int) (hk : 0 ≤ k) : hdEnd (mkEnd e k) k = k + nEnd e := by
 unfold hdEnd mkEnd nEnd
 dsimp only
 rw [hdL_mkL, sq_eq (by omega)]
 rw [show k + ((4 : Nat) : Int) * e.own.length = k + 4 * e.own.length from rfl, hdL_mkL, sq_eq (by omega)]
 rw [show ∀ a : Int, a + ((4 : Nat) : Int) * e.far.length = a + 4 * e.far.length from fun _ => rfl, hdL_mkL, sq_eq (by omega)]
 rw [show ∀ a : Int, a + ((10 : Nat) : Int) * e.subs.length = a + 10 * e.subs.length from fun _ => rfl, hdL_mkL, sq_eq (by omega)]
 rw [show ∀ a : Int, a + ((8 : Nat) : Int) * e.halfs.length = a + 8 * e.halfs.length from fun _ => rfl, hdL_mkL, sq_eq (q := k + _ + _ + _ + _ + _) (by omega), sq_eq (by simp only [id]; omega)]
 simp only [id]
 rw [show ∀ a : Int, a + ((2 : Nat) : Int) * e.inn.list.length = a + 2 * e.inn.list.length from fun _ => rfl, hdL_mkL, sq_eq (by omega)]
 rw [show ∀ a : Int, a + ((1 : Nat) : Int) * e.done.length = a + 1 * e.done.length from fun _ => rfl, hdL_mkL, sq_eq (by omega)]
 simp only [id]
 omega
end Go.Eng

namespace Go.Eng

/-- The place of the first element that fits, from i on; -1. -/
def findL {α : Type} (p : α → Bool) : List α → Nat → Int
 | [], _ => -1
 | x :: l, i => if p x = true then (i : Int) else findL p l (i + 1)
/-- Does one fit? -/
def anyL {α : Type} (p : α → Bool) : List α → Bool
 | [] => false
 | x :: l => if p x = true then true else anyL p l
/-- What the elements give, in order. -/
def colL {α β : Type} (f : α → Nat → Option β) : List α → Nat → List β
 | [], _ => []
 | x :: l, i => match f x i with
  | some y => y :: colL f l (i + 1)
  | none => colL f l (i + 1)
theorem colL_some {α β : Type} {f : α → Nat → Option β} {x : α} {l : List α} {i : Nat} {y : β} (h : f x i = some y) : colL f (x :: l) i = y :: colL f l (i + 1) := by rw [colL, h]
theorem colL_none {α β : Type} {f : α → Nat → Option β} {x : α} {l : List α} {i : Nat} (h : f x i = none) : colL f (x :: l) i = colL f l (i + 1) := by rw [colL, h]
theorem colL_le {α β : Type} (f : α → Nat → Option β) : ∀ (l : List α) (i : Nat), (colL f l i).length ≤ l.length
 | [], _ => Nat.le_refl _
 | x :: l, i => by
  rw [colL]
  split
  ·have := colL_le f l (i + 1); simp; omega
  ·have := colL_le f l (i + 1); simp; omega
theorem findL_bd {α : Type} (p : α → Bool) : ∀ (l : List α) (i : Nat), findL p l i = -1 ∨ ((i : Int) ≤ findL p l i ∧ findL p l i < i + l.length)
 | [], _ => .inl rfl
 | x :: l, i => by
  rw [findL]
  split
  ·refine .inr ⟨Int.le_refl _, ?_⟩
   rw [List.length_cons]; omega
  ·rcases findL_bd p l (i + 1) with h | ⟨h1, h2⟩
   ·exact .inl h
   ·refine .inr ⟨by omega, ?_⟩
    rw [List.length_cons]; omega

def pSub (r : DRoad) (s : DSub) : Bool := s.state != 4 && decide (s.road = r)
def mSubAt (e : DEnd) (r : DRoad) : Int := findL (pSub r) e.subs 0
theorem mSubAt_bd (e : DEnd) (r : DRoad) : mSubAt e r = -1 ∨ (0 ≤ mSubAt e r ∧ mSubAt e r < e.subs.length) := by
 have := findL_bd (pSub r) e.subs 0
 simpa [mSubAt] using this
def mOwns (e : DEnd) (addr : Int) : Bool := anyL (fun a : DAddr => a.addr == addr) e.own
def mRoadOf (x : DLetter) : DRoad := ⟨x.dst, x.src, x.port⟩
def mBetween (r : DRoad) (x : DLetter) : DLetter := { x with src := r.own, dst := r.far, port := r.port }
def fOn (s : DSub) (i : Nat) : Option Int := if s.state = 3 then some (i : Int) else none
def mOnOf (e : DEnd) : List Int := colL fOn e.subs 0
def fHave (s : DSub) (_ : Nat) : Option DRoad := if s.state ≠ 4 then some s.road else none
def mHaveOf (e : DEnd) : List DRoad := colL fHave e.subs 0
def mSignedOn (e : DEnd) (x : DLetter) : Int :=
 if mSubAt e (mRoadOf x) < 0 ∨ (e.subs.getD (mSubAt e (mRoadOf x)).toNat (ETy.zero .sub)).state ≠ 3 ∨ (e.subs.getD (mSubAt e (mRoadOf x)).toNat (ETy.zero .sub)).take ≠ x.sign then -1 else mSubAt e (mRoadOf x)
def mIn (n lo hi : Int) : Bool := decide (lo ≤ n) && decide (n ≤ hi)
end Go.Eng

namespace Go.Eng

def mNum (n : Int) : Bool := mIn n 0 1000000000
def mRoadNum (r : DRoad) : Bool := mNum r.own && mNum r.far && mNum r.port
def mPolicyOk (p : DPolicy) : Bool := if p.kind = 2 then mIn p.many 1 8 else (p.kind == 1 || p.kind == 3) && p.many == 0
def mBucketOk (b : DBucket) : Bool := mIn b.rate 0 100 && mIn b.burst 1 100 && mIn b.hav 0 b.burst
def mBucketNew (r u : Int) : DBucket × Bool := if mBucketOk ⟨r, u, u⟩ = true then (⟨r, u, u⟩, true) else (⟨0, 0, 0⟩, false)
def mTokenFor (s : Int) : Int := if mIn s 1 2 = true then w64 (100 + s) else 0
def mDrawn (e : DEnd) : DEnd × Int := if mIn e.draw 1 999999998 = true then ({ e with draw := w64 (e.draw + 2) }, e.draw) else (e, 0)
def mOutOk (o : DOut) : Bool := mNum o.base && mIn o.room 1 200 && decide ((o.text.length : Int) ≤ o.room) && mIn o.sent o.base (w64 (o.base + o.text.length))
def fAll {α : Type} (x : α) (_ : Nat) : Option α := some x
theorem colL_all {α : Type} : ∀ (l : List α) (i : Nat), colL fAll l i = l
 | [], _ => rfl
 | x :: l, i => by rw [colL_some (f := fAll) (y := x) rfl, colL_all l]
end Go.Eng

namespace Go.Eng

/-- Do all fit? -/
def allL {α : Type} (p : α → Bool) : List α → Bool
 | [] => true
 | x :: l => if p x = true then allL p l else false
/-- Does p hold at the n places from i on? -/
def allI (p : Nat → Bool) : Nat → Nat → Bool
 | 0, _ => true
 | n + 1, i => if p i = true then allI p n (i + 1) else false
theorem allI_iff (p : Nat → Bool) : ∀ n i, allI p n i = true ↔ ∀ j, i ≤ j → j < i + n → p j = true
 | 0, i => by simp only [allI, true_iff]; intro j h1 h2; omega
 | n + 1, i => by
  rw [allI]
  constructor
  ·intro h
   split at h
   ·rename_i hp
    have := (allI_iff p n (i + 1)).1 h
    intro j h1 h2
    rcases Nat.lt_or_eq_of_le h1 with h3 | h3
    ·exact this j h3 (by omega)
    ·exact h3 ▸ hp
   ·cases h
  ·intro h
   rw [if_pos (h i (Nat.le_refl _) (by omega))]
   exact (allI_iff p n (i + 1)).2 fun j h1 h2 => h j (by omega) (by omega)
theorem allI_step (p : Nat → Bool) {n i : Nat} (h : i < n) : allI p (n - i) i = if p i = true then allI p (n - (i + 1)) (i + 1) else false := by
 rw [show n - i = (n - (i + 1)) + 1 by omega, allI]
theorem allI_end (p : Nat → Bool) (n : Nat) : allI p (n - n) n = true := by rw [Nat.sub_self, allI]
theorem allL_iff {α : Type} (p : α → Bool) : ∀ l, allL p l = true ↔ ∀ x ∈ l, p x = true
 | [] => by simp [allL]
 | x :: l => by
  rw [allL]
  have := allL_iff p l
  split <;> rename_i h <;> simp_all

def mNums (l : List Int) : Bool := allL mNum l
def mAddrAt (l : List DAddr) (id : Int) : Int := findL (fun a : DAddr => a.id == id) l 0
def mHalfAt (l : List DHalf) (r : DRoad) : Int := findL (fun h : DHalf => decide (h.road = r)) l 0
theorem mAddrAt_bd (l : List DAddr) (id : Int) : mAddrAt l id = -1 ∨ (0 ≤ mAddrAt l id ∧ mAddrAt l id < l.length) := by
 have := findL_bd (fun a : DAddr => a.id == id) l 0
 simpa [mAddrAt] using this
theorem mHalfAt_bd (l : List DHalf) (r : DRoad) : mHalfAt l r = -1 ∨ (0 ≤ mHalfAt l r ∧ mHalfAt l r < l.length) := by
 have := findL_bd (fun h : DHalf => decide (h.road = r)) l 0
 simpa [mHalfAt] using this
abbrev gA (l : List DAddr) (i : Nat) : DAddr := l.getD i (ETy.zero .addr)
def pDiff (l : List DAddr) (i j : Nat) : Bool := !((gA l i).addr == (gA l j).addr)
def pAddr0 (l : List DAddr) (i : Nat) : Bool :=
 mIn (gA l i).id 0 255 && mIn (gA l i).addr 1 65535 && !(decide (0 < i) && decide ((gA l (i - 1)).id ≥ (gA l i).id))
def pAddr (l : List DAddr) (i : Nat) : Bool := pAddr0 l i && allI (pDiff l i) i 0
def mAddrsOk (l : List DAddr) : Bool := decide (l.length ≤ 6) && allI (pAddr l) l.length 0
abbrev gH (l : List DHalf) (i : Nat) : DHalf := l.getD i (ETy.zero .half)
def pHalf (l : List DHalf) (i : Nat) : Bool :=
 decide (mHalfAt l (gH l i).road = i) && mRoadNum (gH l i).road && mNum (gH l i).theirs && mNum (gH l i).mine && mNum (gH l i).give && mNum (gH l i).take && mNum (gH l i).til
def mHalfsOk (l : List DHalf) : Bool := decide (l.length ≤ 4) && allI (pHalf l) l.length 0
def pRise (l : List Int) (i : Nat) : Bool := !decide (l.getD (i - 1) (ETy.zero .int) ≥ l.getD i (ETy.zero .int))
def mRising (l : List Int) : Bool := allI (pRise l) (l.length - 1) 1
def pId (t : List DAddr) (n : Int) : Bool := mIn n 0 255 && !decide (mAddrAt t n ≥ 0)
def pGone (l : List Int) (t : List DAddr) (i : Nat) : Bool := (decide (i = 0) || pRise l i) && pId t (l.getD i (ETy.zero .int))
def mGone (l : List Int) (t : List DAddr) : Bool := allI (pGone l t) l.length 0
theorem mGone_eq (l : List Int) (t : List DAddr) : (if mRising l = true then allL (pId t) l else false) = mGone l t := by
 rw [Bool.eq_iff_iff]
 have h1 := allI_iff (pRise l) (l.length - 1) 1
 have h2 := allI_iff (pGone l t) l.length 0
 have h3 := allL_iff (pId t) l
 constructor
 ·intro h
  split at h
  ·rename_i hr
   refine h2.2 fun j _ hj => ?_
   have hj : j < l.length := by omega
   have hx : l.getD j (ETy.zero .int) = l[j] := by simp [List.getD, hj]
   have ha := h3.1 h (l.getD j (ETy.zero .int)) (hx ▸ List.getElem_mem hj)
   simp only [pGone, Bool.and_eq_true, Bool.or_eq_true, decide_eq_true_eq]
   refine ⟨?_, ha⟩
   rcases Nat.eq_zero_or_pos j with h0 | h0
   ·exact .inl h0
   ·exact .inr (h1.1 hr j h0 (by omega))
  ·cases h
 ·intro h
  have h := h2.1 h
  have hr : mRising l = true := h1.2 fun j hj1 hj2 => by
   have := h j (by omega) (by omega)
   simp only [pGone, Bool.and_eq_true, Bool.or_eq_true, decide_eq_true_eq] at this
   rcases this.1 with h0 | h0
   ·omega
   ·exact h0
  rw [if_pos hr]
  ·refine h3.2 fun x hx => ?_
   obtain ⟨j, hj, rfl⟩ := List.getElem_of_mem hx
   have := h j (by omega) (by omega)
   simp only [pGone, Bool.and_eq_true] at this
   have hx : l.getD j (ETy.zero .int) = l[j] := by simp [List.getD, hj]
   rw [hx] at this
   exact this.2
def mNextOf (p : DPieces) : Int := w64 (p.read + (p.ready.length : Int))
def hdW : List DPiece → Int → Int
 | [], n => n
 | x :: l, n => hdW l (w64 (n + (x.text.length : Int)))
def mHeldOf (p : DPieces) : Int := hdW p.list (p.ready.length : Int)
def pOrd (x : DPiece) (e : Int) : Bool := !(x.text.length == 0) && !decide (x.pos > 2000000000) && !decide (x.pos ≤ e)
def ordL : List DPiece → Int → Bool
 | [], _ => true
 | x :: l, e => if pOrd x e = true then ordL l (w64 (x.pos + (x.text.length : Int))) else false
def mPiecesOk (p : DPieces) : Bool := mNum p.read && decide (p.list.length ≤ 20) && ordL p.list (mNextOf p) && decide (mHeldOf p ≤ 200)
abbrev gS (l : List DSub) (i : Nat) : DSub := l.getD i (ETy.zero .sub)
def pSubOk (e : DEnd) (i : Nat) : Bool :=
 mIn (gS e.subs i).state 1 4 && mRoadNum (gS e.subs i).road && mNum (gS e.subs i).mine && mNum (gS e.subs i).theirs && mNum (gS e.subs i).give && mNum (gS e.subs i).take && mNum (gS e.subs i).tries &&
 (decide ((gS e.subs i).state = 4) || decide (mSubAt e (gS e.subs i).road = i))
def mEndOk0 (e : DEnd) : Bool := mIn e.side 1 2 && mIn e.state 0 2 && mPolicyOk e.policy && mAddrsOk e.own && mAddrsOk e.far && mHalfsOk e.halfs && mBucketOk e.bucket && mOutOk e.out && mPiecesOk e.inn
def mEndOk1 (e : DEnd) : Bool := mGone e.done e.own && mGone e.over e.far && mNum e.key && mNum e.peer && mNum e.draw && mNum e.now && mNum e.pick
def mEndOk (e : DEnd) : Bool := mEndOk0 e && mEndOk1 e && decide (e.subs.length ≤ 8) && allI (pSubOk e) e.subs.length 0
end Go.Eng

namespace Go.Eng

theorem mkEnd_re (r : DEnd) (k : Int) : ({ side := r.side, state := r.state, key := r.key, peer := r.peer, policy := r.policy, own := (mkEnd r k).own, far := (mkEnd r k).far, subs := (mkEnd r k).subs, halfs := (mkEnd r k).halfs, bucket := r.bucket, out := r.out, inn := { read := r.inn.read, ready := r.inn.ready, list := (mkEnd r k).inn.list }, done := (mkEnd r k).done, over := (mkEnd r k).over, draw := r.draw, now := r.now, pick := r.pick } : DEnd) = mkEnd r k := rfl
theorem hd_mk1 (r : DEnd) : hdEnd (mkEnd r 1) 1 = 1 + (nEnd r : Int) := hd_mkEnd r 1 (by decide)
theorem lt0_1 (n : Nat) : (1 + (n : Int) < 0) = False := by simp; omega
theorem lt0_2 (n m : Nat) : (1 + (n : Int) + 19 * (m : Int) < 0) = False := by simp; omega
theorem lt0_3 (n : Nat) : (1 + 19 * (n : Int) < 0) = False := by simp; omega
theorem hd_letters (l : List DLetter) (k : Int) : hdL mkLetter 19 (mkL mkLetter 19 l k) k = k + 19 * (l.length : Int) := hdL_mkL mkLetter 19 l k
end Go.Eng

namespace Go.Eng

def mHas (l : List Int) (n : Int) : Bool := anyL (fun x : Int => x == n) l
def plL (id : Int) : List DAddr → Nat → Nat
 | [], i => i
 | x :: l, i => if x.id < id then plL id l (i + 1) else i
def mPutL (l : List DAddr) (a : DAddr) : List DAddr :=
 if 0 ≤ mAddrAt l a.id then l.set (mAddrAt l a.id).toNat a else l.take (plL a.id l 0) ++ [a] ++ l.drop (plL a.id l 0)
def mPutAddr (l : List DAddr) (a : DAddr) : List DAddr × Bool :=
 if mAddrsOk (mPutL l a) = true then (mPutL l a, true) else (l, false)
theorem mAddrsOk_len {l : List DAddr} (h : mAddrsOk l = true) : l.length ≤ 6 := by
 simp only [mAddrsOk, Bool.and_eq_true, decide_eq_true_eq] at h
 exact h.1
theorem mPutL_len (l : List DAddr) (a : DAddr) : (mPutL l a).length ≤ l.length + 1 ∧ l.length ≤ (mPutL l a).length := by
 unfold mPutL
 split
 ·simp
 ·simp; omega
theorem mPutAddr_big {l : List DAddr} {a : DAddr} (h : 6 < l.length) : mPutAddr l a = (l, false) := by
 unfold mPutAddr
 rw [if_neg]
 intro h'
 have := mAddrsOk_len h'
 have := mPutL_len l a
 omega
theorem mPutAddr_no {l : List DAddr} {a : DAddr} (h : (mPutAddr l a).2 = false) : (mPutAddr l a).1 = l := by
 unfold mPutAddr at h ⊢
 split at h
 ·cases h
 ·rename_i hn; rw [if_neg hn]
theorem mPutAddr_len (l : List DAddr) (a : DAddr) : (mPutAddr l a).1.length ≤ l.length + 1 := by
 unfold mPutAddr
 split
 ·exact (mPutL_len l a).1
 ·simp
def fUntold (a : DAddr) (_ : Nat) : Option Int := if a.told = true then none else some a.id
def mUntold (l : List DAddr) : List Int := colL fUntold l 0
def mAddOwn (e : DEnd) (a : DAddr) : DEnd × Bool :=
 if mEndOk e = true ∧ mAddrAt e.own a.id < 0 ∧ mHas e.done a.id = false then ({ e with own := (mPutAddr e.own { a with told := false }).1 }, (mPutAddr e.own { a with told := false }).2) else (e, false)
def mEndNew (side addr : Int) (p : DPolicy) : DEnd × Bool :=
 if mIn side 1 2 = true ∧ mPolicyOk p = true ∧ mAddrsOk [⟨0, addr, false, true⟩] = true then
  (⟨side, 0, 0, 0, p, [⟨0, addr, false, true⟩], [], [], [], ⟨1, 3, 3⟩, ⟨[], 0, 0, 120⟩, ⟨0, [], []⟩, [], [], w64 (1000 + side), 0, 0⟩, true)
 else (⟨0, 0, 0, 0, ⟨0, 0⟩, [], [], [], [], ⟨0, 0, 0⟩, ⟨[], 0, 0, 0⟩, ⟨0, [], []⟩, [], [], 0, 0, 0⟩, false)
def gSub (e : DEnd) (k : Int) : DSub := e.subs.getD k.toNat (ETy.zero .sub)
def fCarr (e : DEnd) (k : Int) (_ : Nat) : Option Int := if (gSub e k).spare = true then none else some k
def mCarr0 (e : DEnd) : List Int := colL (fCarr e) (mOnOf e) 0
def mCarr (e : DEnd) : List Int := if (mCarr0 e).length = 0 then mOnOf e else mCarr0 e
def mNextSub (e : DEnd) : Int :=
 if mEndOk e = true ∧ (mCarr e).length ≠ 0 then (mCarr e).getD (e.pick.tmod ((mCarr e).length : Int)).toNat (ETy.zero .int) else -1
theorem mOnOf_mem (e : DEnd) : ∀ k ∈ mOnOf e, 0 ≤ k ∧ k < (e.subs.length : Int) := by
 have : ∀ (l : List DSub) (i : Nat), ∀ k ∈ colL fOn l i, (i : Int) ≤ k ∧ k < ((i + l.length : Nat) : Int) := by
  intro l
  induction l with
  | nil => intro i k hk; simp [colL] at hk
  | cons x l ih =>
   intro i k hk
   rw [colL] at hk
   split at hk
   ·rename_i y hy
    simp only [fOn] at hy
    split at hy
    ·cases hy
     rcases List.mem_cons.1 hk with h | h
     ·subst h; simp; omega
     ·have := ih (i + 1) k h; simp at this ⊢; omega
    ·cases hy
   ·have := ih (i + 1) k hk; simp at this ⊢; omega
 intro k hk
 have := this e.subs 0 k hk
 simpa using this
def mAccept (o : DOut) (t : List UInt8) : DOut × Int :=
 if mOutOk o = true ∧ o.base + o.text.length + (if o.room - o.text.length < t.length then o.room - o.text.length else t.length) ≤ 1000000000 then
  ({ o with text := o.text ++ t.take (if o.room - o.text.length < t.length then o.room - o.text.length else (t.length : Int)).toNat }, if o.room - o.text.length < t.length then o.room - o.text.length else t.length)
 else (o, 0)
def mWrite (e : DEnd) (t : List UInt8) : DEnd × Int := if mEndOk e = true then ({ e with out := (mAccept e.out t).1 }, (mAccept e.out t).2) else (e, 0)
def mTakeN (p : DPieces) (n : Int) : Int := if (p.ready.length : Int) < n then p.ready.length else n
def mTakeReady (p : DPieces) (n : Int) : DPieces × List UInt8 :=
 if mPiecesOk p = true ∧ 0 ≤ n ∧ p.read + mTakeN p n ≤ 1000000000 then
  ({ p with read := p.read + mTakeN p n, ready := p.ready.drop (mTakeN p n).toNat }, p.ready.take (mTakeN p n).toNat)
 else (p, [])
def mRead (e : DEnd) (n : Int) : DEnd × List UInt8 := if mEndOk e = true then ({ e with inn := (mTakeReady e.inn n).1 }, (mTakeReady e.inn n).2) else (e, [])
def mTagAddr (m t i a : Int) : DTag := ⟨3, m, t, i, a⟩
def mTellOne (e : DEnd) (a : DAddr) : DLetter :=
 mBetween (gSub e ((mOnOf e).getD 0 (ETy.zero .int))).road ⟨8, 0, 0, 0, 0, 0, 0, 0, (gSub e ((mOnOf e).getD 0 (ETy.zero .int))).give, mTagAddr e.key e.peer a.id a.addr, a.id, a.addr, a.spare, 0, []⟩
def fTell (e : DEnd) (a : DAddr) (_ : Nat) : Option DLetter := if a.told = true then none else some (mTellOne e a)
def mTellAddrs (e : DEnd) : List DLetter :=
 if mEndOk e = true ∧ e.state = 2 ∧ (mOnOf e).length ≠ 0 then colL (fTell e) e.own 0 else []
end Go.Eng

namespace Go.Eng

theorem findL_at {α : Type} (p : α → Bool) : ∀ (l : List α) (i j : Nat) (a : α), l[j]? = some a → p a = true → (∀ k b, k < j → l[k]? = some b → p b = false) → findL p l i = ((i + j : Nat) : Int)
 | [], _, _, _, h, _, _ => by simp at h
 | x :: l, i, 0, a, h, hp, _ => by
  simp only [List.getElem?_cons_zero, Option.some.injEq] at h
  subst h
  rw [findL, if_pos hp]; rfl
 | x :: l, i, j + 1, a, h, hp, hk => by
  have h0 := hk 0 x (by omega) (by simp)
  rw [findL, if_neg (by simp [h0]), findL_at p l (i + 1) j a (by simpa using h) hp fun k b hkj hb => hk (k + 1) b (by omega) (by simpa using hb)]
  omega
theorem addrs_rise {l : List DAddr} (h : mAddrsOk l = true) : ∀ (d j : Nat), j + d + 1 < l.length → (gA l j).id < (gA l (j + d + 1)).id := by
 simp only [mAddrsOk, Bool.and_eq_true, decide_eq_true_eq] at h
 have h1 := (allI_iff (pAddr l) l.length 0).1 h.2
 have hs : ∀ j, j + 1 < l.length → (gA l j).id < (gA l (j + 1)).id := fun j hj => by
  have := h1 (j + 1) (by omega) (by omega)
  simp only [pAddr, pAddr0, Bool.and_eq_true, Bool.not_eq_true', Bool.and_eq_false_imp, decide_eq_true_eq, decide_eq_false_iff_not] at this
  have := this.1.2 (by omega)
  simp only [Nat.add_sub_cancel] at this
  omega
 intro d
 induction d with
 | zero => intro j hj; exact hs j hj
 | succ d ih =>
  intro j hj
  have h2 := ih j (by omega)
  have h3 := hs (j + d + 1) (by omega)
  rw [show j + (d + 1) + 1 = j + d + 1 + 1 by omega]
  omega
theorem addrAt_of {l : List DAddr} (h : mAddrsOk l = true) {j : Nat} {a : DAddr} (ha : l[j]? = some a) : mAddrAt l a.id = (j : Int) := by
 unfold mAddrAt
 have hj : j < l.length := (List.getElem?_eq_some_iff.1 ha).1
 have hg : gA l j = a := by simp [gA, List.getD, ha]
 rw [findL_at _ l 0 j a ha (by simp) fun k b hk hb => ?_, Nat.zero_add]
 have hgb : gA l k = b := by simp [gA, List.getD, hb]
 have := addrs_rise h (j - k - 1) k (by omega)
 rw [show k + (j - k - 1) + 1 = j by omega, hg, hgb] at this
 simp; omega
def fTellId (e : DEnd) (n : Int) (_ : Nat) : Option DLetter := some (mTellOne e (gA e.own (mAddrAt e.own n).toNat))
theorem colL_map {α β : Type} (f : α → β) : ∀ (l : List α) (i : Nat), colL (fun x _ => some (f x)) l i = l.map f
 | [], _ => rfl
 | x :: l, i => by rw [colL_some (f := fun x _ => some (f x)) (y := f x) rfl, colL_map f l]; rfl
theorem tell_eq (e : DEnd) (h : mAddrsOk e.own = true) : colL (fTellId e) (mUntold e.own) 0 = colL (fTell e) e.own 0 := by
 have gen : ∀ (m : List DAddr) (i n : Nat), (∀ j a, m[j]? = some a → mAddrAt e.own a.id = ((i + j : Nat) : Int) ∧ e.own[i + j]? = some a) → colL (fTellId e) (colL fUntold m n) 0 = colL (fTell e) m n := by
  have hm : ∀ l : List Int, ∀ i, colL (fTellId e) l i = l.map fun n => mTellOne e (gA e.own (mAddrAt e.own n).toNat) := fun l i => colL_map _ l i
  intro m
  induction m with
  | nil => intro i n _; rfl
  | cons x m ih =>
   intro i n hj
   have h0 := hj 0 x (by simp)
   have ih' := ih (i + 1) (n + 1) fun j a ha => by
    have := hj (j + 1) a (by simpa using ha)
    rw [show i + 1 + j = i + (j + 1) by omega]
    exact this
   by_cases ht : x.told = true
   ·rw [colL_none (f := fUntold) (by simp [fUntold, ht]), colL_none (f := fTell e) (by simp [fTell, ht])]
    exact ih'
   ·rw [colL_some (f := fUntold) (y := x.id) (by simp [fUntold, ht]), colL_some (f := fTell e) (y := mTellOne e x) (by simp [fTell, ht]), ← ih', hm, hm, List.map_cons]
    congr 2
    rw [h0.1, Int.toNat_natCast]
    have := h0.2
    simp only [gA, List.getD]
    rw [this]; rfl
 exact gen e.own 0 0 fun j a ha => by
  rw [Nat.zero_add]
  exact ⟨addrAt_of h ha, ha⟩
theorem untold_bd (e : DEnd) (h : mAddrsOk e.own = true) : ∀ n ∈ mUntold e.own, 0 ≤ mAddrAt e.own n ∧ mAddrAt e.own n < (e.own.length : Int) := by
 intro n hn
 have : ∀ (m : List DAddr) (i : Nat), n ∈ colL fUntold m i → ∃ a ∈ m, a.id = n := by
  intro m
  induction m with
  | nil => intro i h; simp [colL] at h
  | cons x m ih =>
   intro i h
   rw [colL] at h
   split at h
   ·rename_i y hy
    rcases List.mem_cons.1 h with h1 | h1
    ·subst h1
     simp only [fUntold] at hy
     split at hy
     ·cases hy
     ·cases hy; exact ⟨x, by simp, rfl⟩
    ·obtain ⟨a, ha, hb⟩ := ih _ h1; exact ⟨a, by simp [ha], hb⟩
   ·obtain ⟨a, ha, hb⟩ := ih _ h; exact ⟨a, by simp [ha], hb⟩
 obtain ⟨a, ha, rfl⟩ := this _ _ hn
 obtain ⟨j, hj, rfl⟩ := List.getElem_of_mem ha
 rw [addrAt_of h (List.getElem?_eq_getElem hj)]
 omega
end Go.Eng

namespace Go.Eng

theorem mIn_iff {n l h : Int} : mIn n l h = true ↔ l ≤ n ∧ n ≤ h := by simp [mIn]
theorem mNum_iff {n : Int} : mNum n = true ↔ 0 ≤ n ∧ n ≤ 1000000000 := mIn_iff
theorem endOk_split {e : DEnd} (h : mEndOk e = true) : mEndOk0 e = true ∧ mEndOk1 e = true ∧ e.subs.length ≤ 8 ∧ allI (pSubOk e) e.subs.length 0 = true := by
 simpa [mEndOk, and_assoc] using h
theorem endOk_nums {e : DEnd} (h : mEndOk e = true) : (0 ≤ e.key ∧ e.key ≤ 1000000000) ∧ (0 ≤ e.peer ∧ e.peer ≤ 1000000000) ∧ (0 ≤ e.draw ∧ e.draw ≤ 1000000000) ∧ (0 ≤ e.now ∧ e.now ≤ 1000000000) ∧ (0 ≤ e.pick ∧ e.pick ≤ 1000000000) := by
 have := (endOk_split h).2.1
 simp only [mEndOk1, Bool.and_eq_true, mNum_iff] at this
 omega
theorem endOk_pick {e : DEnd} (h : mEndOk e = true) : 0 ≤ e.pick := (endOk_nums h).2.2.2.2.1
theorem tmod_bd (l : List Int) {n : Int} (h : 0 ≤ n) : l.length ≠ 0 → (l.length : Int) ≠ 0 ∧ 0 ≤ n.tmod (l.length : Int) ∧ n.tmod (l.length : Int) < (l.length : Int) := by
 intro hl
 refine ⟨by omega, Int.tmod_nonneg _ h, ?_⟩
 rw [Int.tmod_eq_emod_of_nonneg h]
 exact Int.emod_lt_of_pos _ (by omega)
theorem outOk_bd {o : DOut} (h : mOutOk o = true) : (0 ≤ o.base ∧ o.base ≤ 1000000000) ∧ (1 ≤ o.room ∧ o.room ≤ 200) ∧ (o.text.length : Int) ≤ o.room ∧ o.base ≤ o.sent ∧ o.sent ≤ o.base + o.text.length := by
 simp only [mOutOk, Bool.and_eq_true, mNum_iff, mIn_iff, decide_eq_true_eq] at h
 obtain ⟨⟨⟨h1, h2⟩, h3⟩, h4, h5⟩ := h
 rw [w64_id (by omega) (by omega)] at h5
 omega
theorem endOk_parts {e : DEnd} (h : mEndOk e = true) : mAddrsOk e.own = true ∧ mAddrsOk e.far = true ∧ mHalfsOk e.halfs = true ∧ mBucketOk e.bucket = true ∧ mOutOk e.out = true ∧ mPiecesOk e.inn = true := by
 have := (endOk_split h).1
 simp only [mEndOk0, Bool.and_eq_true] at this
 simp [this]
theorem piecesOk_bd {p : DPieces} (h : mPiecesOk p = true) : (0 ≤ p.read ∧ p.read ≤ 1000000000) ∧ p.list.length ≤ 20 := by
 simp only [mPiecesOk, Bool.and_eq_true, mNum_iff, decide_eq_true_eq] at h
 exact ⟨h.1.1.1, h.1.1.2⟩
theorem mAddOwn_no {e : DEnd} {a : DAddr} (h : (mPutAddr e.own { a with told := false }).2 = false) : mAddOwn e a = (e, false) := by
 unfold mAddOwn
 rw [mPutAddr_no h, h]
 split <;> rfl
theorem mWrite_B {e : DEnd} (t : List UInt8) (h : e.B) : (mWrite e t).1.B := by unfold mWrite; split <;> exact h
theorem mEndNew_B (s a : Int) (p : DPolicy) : (mEndNew s a p).1.B := by
 unfold mEndNew
 split <;> simp [DEnd.B]
end Go.Eng

namespace Go.Eng

def lNums (x : DLetter) : List Int := [x.src, x.dst, x.port, x.key, x.token, x.nonce, x.give, x.sign, x.id, x.addr, x.pos, x.tag.kind, x.tag.one, x.tag.two, x.tag.a, x.tag.b]
def mLetterOk (x : DLetter) : Bool := mIn x.kind 1 13 && mNums (lNums x) && decide ((x.text.length : Int) ≤ 20)
end Go.Eng

namespace Go.Eng

abbrev tg0 : DTag := ⟨0, 0, 0, 0, 0⟩
def ltr (kind key token nonce give sign : Int) (tag : DTag) (id addr : Int) (spare : Bool) (pos : Int) (text : List UInt8) : DLetter := ⟨kind, 0, 0, 0, key, token, nonce, give, sign, tag, id, addr, spare, pos, text⟩
def mRoom (e : DEnd) : Bool := mIn e.draw 1 999999996
def mTagBack (m t a b : Int) : DTag := ⟨1, m, t, a, b⟩
def mTagDone (m t a b : Int) : DTag := ⟨2, m, t, a, b⟩
def mMet (a : Int) : List DAddr := [⟨0, a, false, true⟩]
def setSub (e : DEnd) (k : Int) (f : DSub → DSub) : DEnd := { e with subs := e.subs.set k.toNat (f (gSub e k)) }
def gHalf (e : DEnd) (k : Int) : DHalf := e.halfs.getD k.toNat (ETy.zero .half)

def mOpenRoad (e : DEnd) (far : Int) : DRoad := ⟨(e.own.getD 0 (ETy.zero .addr)).addr, far, 0⟩
def mOpen (e : DEnd) (far : Int) : DEnd × List DLetter :=
 if mEndOk e = true ∧ e.state = 0 ∧ e.own.length ≠ 0 ∧ mIn far 1 65535 = true ∧ e.subs.length < 8 ∧ mRoom e = true ∧ mSubAt e (mOpenRoad e far) < 0 then
  ({ e with state := 1, key := e.draw, draw := e.draw + 4, subs := e.subs ++ [⟨mOpenRoad e far, 1, false, 0, 0, 0, e.draw + 2, 0⟩] },
   [mBetween (mOpenRoad e far) (ltr 1 e.draw 0 0 (e.draw + 2) 0 tg0 0 0 false 0 [])])
 else (e, [])
def mHearHello (e : DEnd) (x : DLetter) : DEnd × List DLetter :=
 if mEndOk e = true ∧ mLetterOk x = true ∧ e.state = 0 ∧ mOwns e x.dst = true ∧ mIn x.src 1 65535 = true ∧ mSubAt e (mRoadOf x) < 0 ∧ e.subs.length < 8 ∧ mRoom e = true then
  ({ e with state := 2, key := e.draw, peer := x.key, far := mMet x.src, draw := e.draw + 4, subs := e.subs ++ [⟨mRoadOf x, 3, false, 0, 0, x.give, e.draw + 2, 0⟩] },
   [mBetween (mRoadOf x) (ltr 2 e.draw 0 0 (e.draw + 2) 0 tg0 0 0 false 0 [])])
 else (e, [])
def mHearBack (e : DEnd) (x : DLetter) : DEnd × List DLetter :=
 if mEndOk e = true ∧ mLetterOk x = true ∧ e.state = 1 ∧ 0 ≤ mSubAt e (mRoadOf x) ∧ (gSub e (mSubAt e (mRoadOf x))).state = 1 ∧ mIn x.src 1 65535 = true then
  ({ setSub e (mSubAt e (mRoadOf x)) (fun s => { s with state := 3, give := x.give }) with state := 2, peer := x.key, far := mMet x.src }, [mBetween (mRoadOf x) (ltr 3 0 0 0 0 0 tg0 0 0 false 0 [])])
 else (e, [])
def mJoinLetter (e : DEnd) (s : DSub) : DLetter := mBetween s.road (ltr 4 0 (mTokenFor (w64 (3 - e.side))) s.mine s.take 0 tg0 0 0 s.spare 0 [])
def mDoneLetter (e : DEnd) (s : DSub) : DLetter := mBetween s.road (ltr 6 0 0 0 0 0 (mTagDone e.key e.peer s.mine s.theirs) 0 0 false 0 [])
def mFarHas (e : DEnd) (a : Int) : Bool := anyL (fun x : DAddr => x.addr == a) e.far
/-- The last place below n whose address it is. -/
def dnL (a : Int) (l : List DAddr) : Nat → Int
 | 0 => -1
 | n + 1 => if (gA l n).addr = a then (n : Int) else dnL a l n
def mFarAt (e : DEnd) (a : Int) : Int := dnL a e.far e.far.length
theorem dnL_bd (a : Int) (l : List DAddr) : ∀ n, dnL a l n = -1 ∨ (0 ≤ dnL a l n ∧ dnL a l n < n)
 | 0 => .inl rfl
 | n + 1 => by
  rw [dnL]
  split
  ·right; omega
  ·rcases dnL_bd a l n with h | h
   ·exact .inl h
   ·right; omega
theorem anyL_iff {α : Type} (p : α → Bool) : ∀ l, anyL p l = true ↔ ∃ x ∈ l, p x = true
 | [] => by simp [anyL]
 | x :: l => by
  rw [anyL]
  have := anyL_iff p l
  split <;> rename_i h <;> simp_all
def mJoin (e : DEnd) (r : DRoad) (sp : Bool) : DEnd × List DLetter :=
 if mEndOk e = true ∧ e.state = 2 ∧ mRoadNum r = true ∧ mSubAt e r < 0 ∧ mOwns e r.own = true ∧ mFarHas e r.far = true ∧ e.subs.length < 8 ∧ mRoom e = true then
  ({ e with draw := e.draw + 4, subs := e.subs ++ [⟨r, 1, sp, e.draw, 0, 0, e.draw + 2, 0⟩] }, [mJoinLetter e ⟨r, 1, sp, e.draw, 0, 0, e.draw + 2, 0⟩])
 else (e, [])
def mTakeOne (b : DBucket) : DBucket × Bool := if mBucketOk b = true ∧ b.hav ≠ 0 then ({ b with hav := b.hav - 1 }, true) else (b, false)
def mPutHalfL (l : List DHalf) (h : DHalf) : List DHalf := if 0 ≤ mHalfAt l h.road then l.set (mHalfAt l h.road).toNat h else l ++ [h]
def mPutHalf (l : List DHalf) (h : DHalf) : List DHalf × Bool := if mHalfsOk (mPutHalfL l h) = true then (mPutHalfL l h, true) else (l, false)
def mDropHalf (l : List DHalf) (r : DRoad) : List DHalf := if mHalfAt l r < 0 then l else l.take (mHalfAt l r).toNat ++ l.drop ((mHalfAt l r).toNat + 1)
def mJoinHalf (e : DEnd) (x : DLetter) : DHalf :=
 if 0 ≤ mHalfAt e.halfs (mRoadOf x) ∧ (gHalf e (mHalfAt e.halfs (mRoadOf x))).theirs = x.nonce ∧ (gHalf e (mHalfAt e.halfs (mRoadOf x))).give = x.give then
  { gHalf e (mHalfAt e.halfs (mRoadOf x)) with til := e.now + 6 }
 else ⟨mRoadOf x, x.nonce, e.draw, x.give, e.draw + 2, e.now + 6⟩
def mJoinDraw (e : DEnd) (x : DLetter) : Int :=
 if 0 ≤ mHalfAt e.halfs (mRoadOf x) ∧ (gHalf e (mHalfAt e.halfs (mRoadOf x))).theirs = x.nonce ∧ (gHalf e (mHalfAt e.halfs (mRoadOf x))).give = x.give then e.draw else e.draw + 4
def mHearJoin (e : DEnd) (x : DLetter) : DEnd × List DLetter :=
 if (mEndOk e = true ∧ mLetterOk x = true ∧ e.state = 2 ∧ x.token = mTokenFor e.side ∧ mOwns e x.dst = true ∧ e.subs.length < 8 ∧ (0 ≤ mHalfAt e.halfs (mRoadOf x) ∨ e.halfs.length < 4) ∧ mRoom e = true ∧ e.now ≤ 999999994) ∧ (mTakeOne e.bucket).2 = true then
  ({ e with bucket := (mTakeOne e.bucket).1, draw := mJoinDraw e x, halfs := (mPutHalf e.halfs (mJoinHalf e x)).1 },
   [mBetween (mRoadOf x) (ltr 5 0 0 (mJoinHalf e x).mine (mJoinHalf e x).take 0 (mTagBack e.key e.peer (mJoinHalf e x).mine (mJoinHalf e x).theirs) 0 0 false 0 [])])
 else (e, [])
def mHearJoinBack (e : DEnd) (x : DLetter) : DEnd × List DLetter :=
 if mEndOk e = true ∧ mLetterOk x = true ∧ e.state = 2 ∧ 0 ≤ mSubAt e (mRoadOf x) ∧ (gSub e (mSubAt e (mRoadOf x))).state = 1 ∧ x.tag = mTagBack e.peer e.key x.nonce (gSub e (mSubAt e (mRoadOf x))).mine then
  (setSub e (mSubAt e (mRoadOf x)) (fun s => { s with state := 2, theirs := x.nonce, give := x.give, tries := 0 }),
   [mDoneLetter e { gSub e (mSubAt e (mRoadOf x)) with state := 2, theirs := x.nonce, give := x.give, tries := 0 }])
 else (e, [])
def mAck (r : DRoad) (give : Int) : DLetter := mBetween r (ltr 7 0 0 0 0 give tg0 0 0 false 0 [])
def mGoneAt (l : List DSub) (k : Int) : List DSub := if 0 ≤ k then l.set k.toNat { l.getD k.toNat (ETy.zero .sub) with state := 4 } else l
def mHearJoinDone (e : DEnd) (x : DLetter) : DEnd × List DLetter :=
 if mEndOk e = true ∧ mLetterOk x = true ∧ e.state = 2 then
  if 0 ≤ mHalfAt e.halfs (mRoadOf x) ∧ e.subs.length < 8 ∧ x.tag = mTagDone e.peer e.key (gHalf e (mHalfAt e.halfs (mRoadOf x))).theirs (gHalf e (mHalfAt e.halfs (mRoadOf x))).mine then
   ({ e with subs := mGoneAt e.subs (mSubAt e (mRoadOf x)) ++ [⟨mRoadOf x, 3, false, (gHalf e (mHalfAt e.halfs (mRoadOf x))).mine, (gHalf e (mHalfAt e.halfs (mRoadOf x))).theirs, (gHalf e (mHalfAt e.halfs (mRoadOf x))).give, (gHalf e (mHalfAt e.halfs (mRoadOf x))).take, 0⟩], halfs := mDropHalf e.halfs (mRoadOf x) },
    [mAck (mRoadOf x) (gHalf e (mHalfAt e.halfs (mRoadOf x))).give])
  else if 0 ≤ mSubAt e (mRoadOf x) ∧ (gSub e (mSubAt e (mRoadOf x))).state = 3 ∧ x.tag = mTagDone e.peer e.key (gSub e (mSubAt e (mRoadOf x))).theirs (gSub e (mSubAt e (mRoadOf x))).mine then
   (e, [mAck (mRoadOf x) (gSub e (mSubAt e (mRoadOf x))).give])
  else (e, [])
 else (e, [])
def mHearJoinAck (e : DEnd) (x : DLetter) : DEnd × List DLetter :=
 if mEndOk e = true ∧ mLetterOk x = true ∧ 0 ≤ mSubAt e (mRoadOf x) ∧ (gSub e (mSubAt e (mRoadOf x))).state = 2 ∧ (gSub e (mSubAt e (mRoadOf x))).take = x.sign then
  (setSub e (mSubAt e (mRoadOf x)) (fun s => { s with state := 3 }), [])
 else (e, [])
def mL20On (e : DEnd) (x : DLetter) : Int := if mEndOk e = true ∧ mLetterOk x = true then mSignedOn e x else -1
def mHearAddr (e : DEnd) (x : DLetter) : DEnd × List DLetter :=
 if mEndOk e = true ∧ mLetterOk x = true ∧ 0 ≤ mSignedOn e x ∧ x.tag = mTagAddr e.peer e.key x.id x.addr ∧ mHas e.over x.id = false ∧ ¬(0 ≤ mAddrAt e.far x.id ∧ (e.far.getD (mAddrAt e.far x.id).toNat (ETy.zero .addr)).addr ≠ x.addr) ∧ (mPutAddr e.far ⟨x.id, x.addr, x.spare, true⟩).2 = true then
  ({ e with far := (mPutAddr e.far ⟨x.id, x.addr, x.spare, true⟩).1 }, [mBetween (mRoadOf x) (ltr 9 0 0 0 0 (gSub e (mSignedOn e x)).give tg0 x.id x.addr false 0 [])])
 else (e, [])
def mHearEcho (e : DEnd) (x : DLetter) : DEnd × List DLetter :=
 if mEndOk e = true ∧ mLetterOk x = true ∧ 0 ≤ mSignedOn e x ∧ 0 ≤ mAddrAt e.own x.id ∧ (e.own.getD (mAddrAt e.own x.id).toNat (ETy.zero .addr)).addr = x.addr then
  ({ e with own := e.own.set (mAddrAt e.own x.id).toNat { e.own.getD (mAddrAt e.own x.id).toNat (ETy.zero .addr) with told := true } }, [])
 else (e, [])
def mDropAddr (l : List DAddr) (id : Int) : List DAddr × Bool := if mAddrAt l id < 0 then (l, false) else (l.take (mAddrAt l id).toNat ++ l.drop ((mAddrAt l id).toNat + 1), true)
def plN (n : Int) : List Int → Nat → Nat
 | [], i => i
 | x :: l, i => if x < n then plN n l (i + 1) else i
def mPut (l : List Int) (n : Int) : List Int :=
 if plN n l 0 < l.length ∧ l.getD (plN n l 0) (ETy.zero .int) = n then l else l.take (plN n l 0) ++ [n] ++ l.drop (plN n l 0)
def goneIf (p : DSub → Bool) (l : List DSub) : List DSub := l.map fun s => if p s = true then { s with state := 4 } else s
def mHearGone (e : DEnd) (x : DLetter) : DEnd × List DLetter :=
 if mEndOk e = true ∧ mLetterOk x = true ∧ 0 ≤ mSignedOn e x ∧ 0 ≤ mAddrAt e.far x.id then
  ({ e with far := (mDropAddr e.far x.id).1, over := mPut e.over x.id, subs := goneIf (fun s => s.road.far == (e.far.getD (mAddrAt e.far x.id).toNat (ETy.zero .addr)).addr) e.subs }, [])
 else (e, [])
def mCame (o : DOut) (u : Int) : DOut :=
 if mOutOk o = true ∧ o.base < u ∧ u ≤ o.base + o.text.length then { o with text := o.text.drop (u - o.base).toNat, base := u, sent := if o.sent < u then u else o.sent } else o
def mHearCame (e : DEnd) (x : DLetter) : DEnd × List DLetter :=
 if mEndOk e = true ∧ mLetterOk x = true ∧ 0 ≤ mSignedOn e x then ({ e with out := mCame e.out x.pos }, []) else (e, [])
def mHearReset (e : DEnd) (x : DLetter) : DEnd × List DLetter :=
 if mEndOk e = true ∧ mLetterOk x = true ∧ 0 ≤ mSignedOn e x then (setSub e (mSignedOn e x) (fun s => { s with state := 4 }), []) else (e, [])
def mNextPiece (o : DOut) : DPiece × Bool :=
 if mOutOk o = true ∧ o.sent ≠ o.base + o.text.length then (⟨o.sent, (o.text.drop (o.sent - o.base).toNat).take 20⟩, true) else (⟨0, []⟩, false)
def mWasSent (o : DOut) : DOut := { o with sent := o.sent + ((mNextPiece o).1.text.length : Int) }
def mPush (e : DEnd) : DEnd × List DLetter :=
 if (mNextPiece e.out).2 = true ∧ 0 ≤ mNextSub e then
  ({ e with out := mWasSent e.out, pick := if e.pick ≥ 1000000000 then 0 else e.pick + 1 },
   [mBetween (gSub e (mNextSub e)).road (ltr 11 0 0 0 0 (gSub e (mNextSub e)).give tg0 0 0 false (mNextPiece e.out).1.pos (mNextPiece e.out).1.text)])
 else (e, [])
theorem room_bd {e : DEnd} (h : mRoom e = true) : 1 ≤ e.draw ∧ e.draw ≤ 999999996 ∧ w64 (e.draw + 2) = e.draw + 2 ∧ w64 (e.draw + 4) = e.draw + 4 ∧ w64 (e.draw + 2 + 2) = e.draw + 4 := by
 have := mIn_iff.1 h
 refine ⟨this.1, this.2, ?_, ?_, ?_⟩ <;> (rw [w64_id (by omega) (by omega)]; try omega)
theorem mSignedOn_bd (e : DEnd) (x : DLetter) : mSignedOn e x = -1 ∨ (0 ≤ mSignedOn e x ∧ mSignedOn e x < e.subs.length) := by
 have := mSubAt_bd e (mRoadOf x)
 unfold mSignedOn
 split <;> omega
end Go.Eng

namespace Go.Eng

theorem bucketOk_bd {b : DBucket} (h : mBucketOk b = true) : (0 ≤ b.rate ∧ b.rate ≤ 100) ∧ (1 ≤ b.burst ∧ b.burst ≤ 100) ∧ 0 ≤ b.hav ∧ b.hav ≤ b.burst := by
 simp only [mBucketOk, Bool.and_eq_true, mIn_iff] at h
 omega
theorem take_w {b : DBucket} (h : mBucketOk b = true) : w64 (b.hav - 1) = b.hav - 1 := by
 have := bucketOk_bd h
 exact w64_id (by omega) (by omega)
theorem mHalfsOk_len {l : List DHalf} (h : mHalfsOk l = true) : l.length ≤ 4 := by
 simp only [mHalfsOk, Bool.and_eq_true, decide_eq_true_eq] at h
 exact h.1
theorem nextPiece_len (o : DOut) : (mNextPiece o).1.text.length ≤ 20 := by
 unfold mNextPiece
 split
 ·simp; omega
 ·simp
theorem mCarr_mem (e : DEnd) : ∀ k ∈ mCarr e, 0 ≤ k ∧ k < (e.subs.length : Int) := by
 intro k hk
 unfold mCarr at hk
 split at hk
 ·exact mOnOf_mem e k hk
 ·have : ∀ (l : List Int) (i : Nat), k ∈ colL (fCarr e) l i → k ∈ l := by
   intro l
   induction l with
   | nil => intro i h; simp [colL] at h
   | cons x l ih =>
    intro i h
    rw [colL] at h
    split at h
    ·rename_i y hy
     simp only [fCarr] at hy
     split at hy
     ·cases hy
     ·cases hy
      rcases List.mem_cons.1 h with h | h
      ·simp [h]
      ·simp [ih _ h]
    ·simp [ih _ h]
  exact mOnOf_mem e k (this _ _ hk)
theorem mNextSub_bd (e : DEnd) : mNextSub e = -1 ∨ (0 ≤ mNextSub e ∧ mNextSub e < (e.subs.length : Int)) := by
 unfold mNextSub
 split
 ·rename_i h
  have := tmod_bd (mCarr e) (endOk_pick h.1) h.2
  right
  apply mCarr_mem
  have hlt : (e.pick.tmod ((mCarr e).length : Int)).toNat < (mCarr e).length := by omega
  rw [List.getD, List.getElem?_eq_getElem hlt]
  exact List.getElem_mem _
 ·exact .inl rfl
theorem nextSub_ok {e : DEnd} (h : 0 ≤ mNextSub e) : mEndOk e = true := by
 unfold mNextSub at h
 split at h
 ·rename_i h'; exact h'.1
 ·omega
theorem findL_ok {α : Type} (p : α → Bool) (d : α) : ∀ (l : List α) (i : Nat), 0 ≤ findL p l i → p (l.getD (findL p l i - i).toNat d) = true
 | [], i, h => by simp [findL] at h
 | x :: l, i, h => by
  rw [findL] at h ⊢
  split
  ·rename_i hp
   simpa using hp
  ·rename_i hp
   rw [if_neg hp] at h
   have ih := findL_ok p d l (i + 1) h
   rcases findL_bd p l (i + 1) with h1 | ⟨h1, h2⟩
   ·omega
   ·have : (findL p l (i + 1) - (i : Int)).toNat = (findL p l (i + 1) - ((i + 1 : Nat) : Int)).toNat + 1 := by omega
    rw [this, List.getD_cons_succ]
    exact ih
theorem mSubAt_road {e : DEnd} {r : DRoad} (h : 0 ≤ mSubAt e r) : (gSub e (mSubAt e r)).road = r ∧ (gSub e (mSubAt e r)).state ≠ 4 := by
 have := findL_ok (pSub r) (ETy.zero .sub) e.subs 0 h
 simp only [Int.natCast_zero, Int.sub_zero, pSub, Bool.and_eq_true, decide_eq_true_eq, bne_iff_ne] at this
 exact ⟨this.2, this.1⟩
theorem mHalfAt_road {l : List DHalf} {r : DRoad} (h : 0 ≤ mHalfAt l r) : (l.getD (mHalfAt l r).toNat (ETy.zero .half)).road = r := by
 have := findL_ok (fun h : DHalf => decide (h.road = r)) (ETy.zero .half) l 0 h
 simp only [Int.natCast_zero, Int.sub_zero, decide_eq_true_eq] at this
 exact this
def mAnew (o : DOut) : DOut := if mOutOk o = true then { o with sent := o.base } else o
def mFilled (b : DBucket) : DBucket := if mBucketOk b = true then { b with hav := if b.hav + b.rate < b.burst then b.hav + b.rate else b.burst } else b
theorem nextPiece_ok {o : DOut} (h : (mNextPiece o).2 = true) : mOutOk o = true := by
 unfold mNextPiece at h
 split at h
 ·rename_i h'; exact h'.1
 ·cases h
theorem now_w {e : DEnd} (h : mEndOk e = true) : w64 (e.now + 6) = e.now + 6 := by
 have := endOk_nums h
 exact w64_id (by omega) (by omega)
theorem findL_same {α : Type} (p : α → Bool) : ∀ (l m : List α) (i : Nat), l.map p = m.map p → findL p l i = findL p m i
 | [], [], _, _ => rfl
 | [], _ :: _, _, h => by simp at h
 | _ :: _, [], _, h => by simp at h
 | x :: l, y :: m, i, h => by
  simp only [List.map_cons, List.cons.injEq] at h
  rw [findL, findL, h.1, findL_same p l m (i + 1) h.2]
theorem half_map (l : List DHalf) (k : Nat) (t : Int) (r : DRoad) : (l.set k { l.getD k (ETy.zero .half) with til := t }).map (fun h : DHalf => decide (h.road = r)) = l.map (fun h : DHalf => decide (h.road = r)) := by
 rw [List.map_set]
 apply List.ext_getElem?
 intro j
 rw [List.getElem?_set]
 split
 ·rename_i hkj
  subst hkj
  split
  ·rename_i hk
   simp only [List.length_map] at hk
   simp [List.getD, hk]
  ·rename_i hk
   simp only [List.length_map] at hk
   simp [List.getElem?_eq_none (Nat.le_of_not_lt hk)]
 ·rfl
theorem halfs_til {l : List DHalf} (h : mHalfsOk l = true) (k : Nat) {t : Int} (ht : mNum t = true) : mHalfsOk (l.set k { l.getD k (ETy.zero .half) with til := t }) = true := by
 simp only [mHalfsOk, Bool.and_eq_true, decide_eq_true_eq, List.length_set] at h ⊢
 refine ⟨h.1, (allI_iff _ _ _).2 fun j _ hj => ?_⟩
 have hj' : j < l.length := by omega
 have ho := (allI_iff _ _ _).1 h.2 j (by omega) hj
 have hat : ∀ r, mHalfAt (l.set k { l.getD k (ETy.zero .half) with til := t }) r = mHalfAt l r := fun r => findL_same _ _ _ 0 (half_map l k t r)
 by_cases hkj : k = j
 ·subst hkj
  have hg : gH (l.set k { l.getD k (ETy.zero .half) with til := t }) k = { gH l k with til := t } := by simp [gH, List.getD, hj']
  simp only [pHalf, hg, hat] at ho ⊢
  simp only [Bool.and_eq_true] at ho ⊢
  exact ⟨ho.1, ht⟩
 ·have hg : gH (l.set k { l.getD k (ETy.zero .half) with til := t }) j = gH l j := by simp [gH, List.getD, List.getElem?_set, hkj]
  simp only [pHalf, hg, hat] at ho ⊢
  exact ho
theorem putHalf_til {l : List DHalf} {r : DRoad} {t : Int} (h : mHalfsOk l = true) (hk : 0 ≤ mHalfAt l r) (ht : mNum t = true) :
  mPutHalf l { l.getD (mHalfAt l r).toNat (ETy.zero .half) with til := t } = (l.set (mHalfAt l r).toNat { l.getD (mHalfAt l r).toNat (ETy.zero .half) with til := t }, true) := by
 have hr := mHalfAt_road hk
 have hl : mPutHalfL l { l.getD (mHalfAt l r).toNat (ETy.zero .half) with til := t } = l.set (mHalfAt l r).toNat { l.getD (mHalfAt l r).toNat (ETy.zero .half) with til := t } := by
  unfold mPutHalfL
  simp only [hr]
  rw [if_pos hk]
 unfold mPutHalf
 rw [hl, if_pos (halfs_til h _ ht)]
theorem joinHalf_til {e : DEnd} {r : DRoad} (h : mEndOk e = true) (hk : 0 ≤ mHalfAt e.halfs r) (hn : e.now ≤ 999999994) :
  mPutHalf e.halfs { e.halfs.getD (mHalfAt e.halfs r).toNat (ETy.zero .half) with til := e.now + 6 } = (e.halfs.set (mHalfAt e.halfs r).toNat { e.halfs.getD (mHalfAt e.halfs r).toNat (ETy.zero .half) with til := e.now + 6 }, true) :=
 putHalf_til (endOk_parts h).2.2.1 hk (mNum_iff.2 ⟨by have := endOk_nums h; omega, by omega⟩)
end Go.Eng

namespace Go.Eng

def goneG (p : DSub → Bool) (s : DSub) : DSub := if p s = true then { s with state := 4 } else s
theorem goneIf_eq (p : DSub → Bool) (l : List DSub) : goneIf p l = l.map (goneG p) := rfl
theorem map_get {α : Type} (g : α → α) (l : List α) (i : Nat) (d x : α) (h : l[i]? = some x) : ((l.take i).map g ++ l.drop i).getD i d = x := by
 have hi : i < l.length := (List.getElem?_eq_some_iff.1 h).1
 have hl : ((l.take i).map g).length = i := by simp; omega
 rw [List.getD, List.getElem?_append_right (by omega), hl, Nat.sub_self]
 simp [h]
theorem map_step {α : Type} (g : α → α) (l : List α) (i : Nat) (x : α) (h : l[i]? = some x) : ((l.take i).map g ++ l.drop i).set i (g x) = (l.take (i + 1)).map g ++ l.drop (i + 1) := by
 obtain ⟨hi, hx⟩ := List.getElem?_eq_some_iff.1 h
 have hl : ((l.take i).map g).length = i := by simp; omega
 rw [List.set_append_right i (g x) (by omega), hl, Nat.sub_self, List.take_add_one, List.map_append, h]
 have : l.drop i = x :: l.drop (i + 1) := by rw [List.drop_eq_getElem_cons hi, hx]
 rw [this]
 simp
theorem map_same {α : Type} (g : α → α) (l : List α) (i : Nat) (x : α) (h : l[i]? = some x) (hg : g x = x) : (l.take i).map g ++ l.drop i = (l.take (i + 1)).map g ++ l.drop (i + 1) := by
 obtain ⟨hi, hx⟩ := List.getElem?_eq_some_iff.1 h
 rw [List.take_add_one, List.map_append, h]
 have : l.drop i = x :: l.drop (i + 1) := by rw [List.drop_eq_getElem_cons hi, hx]
 rw [this]
 simp [hg]
/-- What is still to come when a number is put into a rising list. -/
def putR (n : Int) : List Int → Bool → List Int
 | [], b => if b = true then [] else [n]
 | x :: l, b => if b = false ∧ n ≤ x then (if n < x then n :: x :: putR n l true else x :: putR n l true) else x :: putR n l b
theorem putR_true (n : Int) : ∀ l, putR n l true = l
 | [] => rfl
 | x :: l => by simp [putR, putR_true n l]
theorem plN_add (n : Int) : ∀ (l : List Int) (i : Nat), plN n l i = i + plN n l 0
 | [], i => rfl
 | x :: l, i => by
  rw [plN, plN]
  split
  ·rw [plN_add n l (i + 1), plN_add n l (0 + 1)]; omega
  ·omega
theorem putR_mPut (n : Int) : ∀ l, putR n l false = mPut l n
 | [] => rfl
 | x :: l => by
  rw [putR]
  have ih := putR_mPut n l
  unfold mPut at ih ⊢
  rw [plN]
  by_cases h : x < n
  ·rw [if_pos h, if_neg (by omega), plN_add n l (0 + 1), ih]
   simp only [Nat.zero_add, List.length_cons]
   rw [show 1 + plN n l 0 = plN n l 0 + 1 by omega]
   by_cases h2 : plN n l 0 < l.length ∧ l.getD (plN n l 0) (ETy.zero .int) = n
   ·rw [if_pos h2, if_pos (by simpa using h2)]
   ·rw [if_neg h2, if_neg (by simpa using h2)]
    simp
  ·rw [if_neg h, if_pos (by simp; omega)]
   by_cases h2 : n < x
   ·rw [if_pos h2, if_neg (by simp; omega), putR_true]; simp
   ·rw [if_neg h2, if_pos (by simp; omega), putR_true]
theorem mGone_len {l : List Int} {t : List DAddr} (h : mGone l t = true) : l.length ≤ 256 := by
 have ha := (allI_iff _ _ _).1 h
 have hg : ∀ j, j < l.length → (j : Int) ≤ l.getD j (ETy.zero .int) ∧ l.getD j (ETy.zero .int) ≤ 255 := by
  intro j
  induction j with
  | zero =>
   intro hj
   have := ha 0 (by omega) (by omega)
   simp only [pGone, pId, Bool.and_eq_true, mIn_iff] at this
   exact ⟨by simpa using this.2.1.1, this.2.1.2⟩
  | succ j ih =>
   intro hj
   have h1 := ih (by omega)
   have := ha (j + 1) (by omega) (by omega)
   simp only [pGone, pId, pRise, Bool.and_eq_true, mIn_iff, Bool.or_eq_true, decide_eq_true_eq, Bool.not_eq_true', decide_eq_false_iff_not, Nat.add_sub_cancel] at this
   refine ⟨?_, this.2.1.2⟩
   rcases this.1 with h2 | h2
   ·omega
   ·have h2 := Int.not_le.1 h2
    have h3 : l.getD j (ETy.zero .int) < l.getD (j + 1) (ETy.zero .int) := h2
    omega
 by_cases h0 : l.length = 0
 ·omega
 ·have := hg (l.length - 1) (by omega)
  omega
theorem mPut_len (l : List Int) (n : Int) : (mPut l n).length ≤ l.length + 1 := by
 unfold mPut
 split
 ·omega
 ·simp; omega
theorem mDropAddr_len (l : List DAddr) (n : Int) : (mDropAddr l n).1.length ≤ l.length := by
 unfold mDropAddr
 split
 ·exact Nat.le_refl _
 ·simp; omega
theorem endOk_ids {e : DEnd} (h : mEndOk e = true) : e.done.length ≤ 256 ∧ e.over.length ≤ 256 := by
 have := (endOk_split h).2.1
 simp only [mEndOk1, Bool.and_eq_true] at this
 exact ⟨mGone_len this.1.1.1.1.1.1, mGone_len this.1.1.1.1.1.2⟩
end Go.Eng

namespace Go.Eng
theorem mPutHalf_len (l : List DHalf) (h : DHalf) : (mPutHalf l h).1.length ≤ l.length + 1 := by
 have h1 : (mPutHalfL l h).length ≤ l.length + 1 := by unfold mPutHalfL; split <;> simp
 unfold mPutHalf
 split
 ·exact h1
 ·exact Nat.le_succ _
theorem mDropHalf_len (l : List DHalf) (r : DRoad) : (mDropHalf l r).length ≤ l.length := by
 unfold mDropHalf
 split
 ·exact Nat.le_refl _
 ·simp; omega
theorem mGoneAt_len (l : List DSub) (k : Int) : (mGoneAt l k).length = l.length := by
 unfold mGoneAt
 split <;> simp
theorem goneIf_len (p : DSub → Bool) (l : List DSub) : (goneIf p l).length = l.length := by simp [goneIf]
theorem mOpen_B {e : DEnd} (f : Int) (h : e.B) : (mOpen e f).1.B := by
 obtain ⟨h1, h2, h3, h4, h5, h6, h7⟩ := id h
 unfold mOpen
 repeat' split
 all_goals first | exact h | (rename_i hc; have h8 := (endOk_split hc.1).2.2.1; have h9 := endOk_ids hc.1; have ha := mAddrsOk_len (endOk_parts hc.1).2.1; have hz := mHalfsOk_len (endOk_parts hc.1).2.2.1) | (rename_i hc _; have h8 := (endOk_split hc.1).2.2.1; have h9 := endOk_ids hc.1; have ha := mAddrsOk_len (endOk_parts hc.1).2.1; have hz := mHalfsOk_len (endOk_parts hc.1).2.2.1) | (rename_i hc; have h8 := (endOk_split hc.1.1).2.2.1; have h9 := endOk_ids hc.1.1; have ha := mAddrsOk_len (endOk_parts hc.1.1).2.1; have hz := mHalfsOk_len (endOk_parts hc.1.1).2.2.1) | skip
 all_goals (unfold DEnd.B at h ⊢; simp only [setSub, mMet, List.length_append, List.length_set, List.length_cons, List.length_nil, goneIf_len, mGoneAt_len]; omega)
theorem mHearHello_B {e : DEnd} (x : DLetter) (h : e.B) : (mHearHello e x).1.B := by
 obtain ⟨h1, h2, h3, h4, h5, h6, h7⟩ := id h
 unfold mHearHello
 repeat' split
 all_goals first | exact h | (rename_i hc; have h8 := (endOk_split hc.1).2.2.1; have h9 := endOk_ids hc.1; have ha := mAddrsOk_len (endOk_parts hc.1).2.1; have hz := mHalfsOk_len (endOk_parts hc.1).2.2.1) | (rename_i hc _; have h8 := (endOk_split hc.1).2.2.1; have h9 := endOk_ids hc.1; have ha := mAddrsOk_len (endOk_parts hc.1).2.1; have hz := mHalfsOk_len (endOk_parts hc.1).2.2.1) | (rename_i hc; have h8 := (endOk_split hc.1.1).2.2.1; have h9 := endOk_ids hc.1.1; have ha := mAddrsOk_len (endOk_parts hc.1.1).2.1; have hz := mHalfsOk_len (endOk_parts hc.1.1).2.2.1) | skip
 all_goals (unfold DEnd.B at h ⊢; simp only [setSub, mMet, List.length_append, List.length_set, List.length_cons, List.length_nil, goneIf_len, mGoneAt_len]; omega)
theorem mHearHello_len (e : DEnd) (x : DLetter) : (mHearHello e x).2.length ≤ 1073741824 := by
 unfold mHearHello
 repeat' split
 all_goals simp
theorem mHearBack_B {e : DEnd} (x : DLetter) (h : e.B) : (mHearBack e x).1.B := by
 obtain ⟨h1, h2, h3, h4, h5, h6, h7⟩ := id h
 unfold mHearBack
 repeat' split
 all_goals first | exact h | (rename_i hc; have h8 := (endOk_split hc.1).2.2.1; have h9 := endOk_ids hc.1; have ha := mAddrsOk_len (endOk_parts hc.1).2.1; have hz := mHalfsOk_len (endOk_parts hc.1).2.2.1) | (rename_i hc _; have h8 := (endOk_split hc.1).2.2.1; have h9 := endOk_ids hc.1; have ha := mAddrsOk_len (endOk_parts hc.1).2.1; have hz := mHalfsOk_len (endOk_parts hc.1).2.2.1) | (rename_i hc; have h8 := (endOk_split hc.1.1).2.2.1; have h9 := endOk_ids hc.1.1; have ha := mAddrsOk_len (endOk_parts hc.1.1).2.1; have hz := mHalfsOk_len (endOk_parts hc.1.1).2.2.1) | skip
 all_goals (unfold DEnd.B at h ⊢; simp only [setSub, mMet, List.length_append, List.length_set, List.length_cons, List.length_nil, goneIf_len, mGoneAt_len]; omega)
theorem mHearBack_len (e : DEnd) (x : DLetter) : (mHearBack e x).2.length ≤ 1073741824 := by
 unfold mHearBack
 repeat' split
 all_goals simp
theorem mJoin_B {e : DEnd} (r : DRoad) (p : Bool) (h : e.B) : (mJoin e r p).1.B := by
 obtain ⟨h1, h2, h3, h4, h5, h6, h7⟩ := id h
 unfold mJoin
 repeat' split
 all_goals first | exact h | (rename_i hc; have h8 := (endOk_split hc.1).2.2.1; have h9 := endOk_ids hc.1; have ha := mAddrsOk_len (endOk_parts hc.1).2.1; have hz := mHalfsOk_len (endOk_parts hc.1).2.2.1) | (rename_i hc _; have h8 := (endOk_split hc.1).2.2.1; have h9 := endOk_ids hc.1; have ha := mAddrsOk_len (endOk_parts hc.1).2.1; have hz := mHalfsOk_len (endOk_parts hc.1).2.2.1) | (rename_i hc; have h8 := (endOk_split hc.1.1).2.2.1; have h9 := endOk_ids hc.1.1; have ha := mAddrsOk_len (endOk_parts hc.1.1).2.1; have hz := mHalfsOk_len (endOk_parts hc.1.1).2.2.1) | skip
 all_goals (unfold DEnd.B at h ⊢; simp only [setSub, mMet, List.length_append, List.length_set, List.length_cons, List.length_nil, goneIf_len, mGoneAt_len]; omega)
theorem mHearJoin_B {e : DEnd} (x : DLetter) (h : e.B) : (mHearJoin e x).1.B := by
 obtain ⟨h1, h2, h3, h4, h5, h6, h7⟩ := id h
 unfold mHearJoin
 repeat' split
 all_goals first | exact h | (rename_i hc; have h8 := (endOk_split hc.1).2.2.1; have h9 := endOk_ids hc.1; have ha := mAddrsOk_len (endOk_parts hc.1).2.1; have hz := mHalfsOk_len (endOk_parts hc.1).2.2.1) | (rename_i hc _; have h8 := (endOk_split hc.1).2.2.1; have h9 := endOk_ids hc.1; have ha := mAddrsOk_len (endOk_parts hc.1).2.1; have hz := mHalfsOk_len (endOk_parts hc.1).2.2.1) | (rename_i hc; have h8 := (endOk_split hc.1.1).2.2.1; have h9 := endOk_ids hc.1.1; have ha := mAddrsOk_len (endOk_parts hc.1.1).2.1; have hz := mHalfsOk_len (endOk_parts hc.1.1).2.2.1) | skip
 all_goals have hp := mPutHalf_len e.halfs (mJoinHalf e x)
 all_goals (unfold DEnd.B at h ⊢; simp only [setSub, mMet, List.length_append, List.length_set, List.length_cons, List.length_nil, goneIf_len, mGoneAt_len]; omega)
theorem mHearJoin_len (e : DEnd) (x : DLetter) : (mHearJoin e x).2.length ≤ 1073741824 := by
 unfold mHearJoin
 repeat' split
 all_goals simp
theorem mHearJoinBack_B {e : DEnd} (x : DLetter) (h : e.B) : (mHearJoinBack e x).1.B := by
 obtain ⟨h1, h2, h3, h4, h5, h6, h7⟩ := id h
 unfold mHearJoinBack
 repeat' split
 all_goals first | exact h | (rename_i hc; have h8 := (endOk_split hc.1).2.2.1; have h9 := endOk_ids hc.1; have ha := mAddrsOk_len (endOk_parts hc.1).2.1; have hz := mHalfsOk_len (endOk_parts hc.1).2.2.1) | (rename_i hc _; have h8 := (endOk_split hc.1).2.2.1; have h9 := endOk_ids hc.1; have ha := mAddrsOk_len (endOk_parts hc.1).2.1; have hz := mHalfsOk_len (endOk_parts hc.1).2.2.1) | (rename_i hc; have h8 := (endOk_split hc.1.1).2.2.1; have h9 := endOk_ids hc.1.1; have ha := mAddrsOk_len (endOk_parts hc.1.1).2.1; have hz := mHalfsOk_len (endOk_parts hc.1.1).2.2.1) | skip
 all_goals (unfold DEnd.B at h ⊢; simp only [setSub, mMet, List.length_append, List.length_set, List.length_cons, List.length_nil, goneIf_len, mGoneAt_len]; omega)
theorem mHearJoinBack_len (e : DEnd) (x : DLetter) : (mHearJoinBack e x).2.length ≤ 1073741824 := by
 unfold mHearJoinBack
 repeat' split
 all_goals simp
theorem mHearJoinDone_B {e : DEnd} (x : DLetter) (h : e.B) : (mHearJoinDone e x).1.B := by
 obtain ⟨h1, h2, h3, h4, h5, h6, h7⟩ := id h
 unfold mHearJoinDone
 repeat' split
 all_goals first | exact h | (rename_i hc; have h8 := (endOk_split hc.1).2.2.1; have h9 := endOk_ids hc.1; have ha := mAddrsOk_len (endOk_parts hc.1).2.1; have hz := mHalfsOk_len (endOk_parts hc.1).2.2.1) | (rename_i hc _; have h8 := (endOk_split hc.1).2.2.1; have h9 := endOk_ids hc.1; have ha := mAddrsOk_len (endOk_parts hc.1).2.1; have hz := mHalfsOk_len (endOk_parts hc.1).2.2.1) | (rename_i hc; have h8 := (endOk_split hc.1.1).2.2.1; have h9 := endOk_ids hc.1.1; have ha := mAddrsOk_len (endOk_parts hc.1.1).2.1; have hz := mHalfsOk_len (endOk_parts hc.1.1).2.2.1) | skip
 all_goals have hp := mDropHalf_len e.halfs (mRoadOf x)
 all_goals (unfold DEnd.B at h ⊢; simp only [setSub, mMet, List.length_append, List.length_set, List.length_cons, List.length_nil, goneIf_len, mGoneAt_len]; omega)
theorem mHearJoinDone_len (e : DEnd) (x : DLetter) : (mHearJoinDone e x).2.length ≤ 1073741824 := by
 unfold mHearJoinDone
 repeat' split
 all_goals simp
theorem mHearJoinAck_B {e : DEnd} (x : DLetter) (h : e.B) : (mHearJoinAck e x).1.B := by
 obtain ⟨h1, h2, h3, h4, h5, h6, h7⟩ := id h
 unfold mHearJoinAck
 repeat' split
 all_goals first | exact h | (rename_i hc; have h8 := (endOk_split hc.1).2.2.1; have h9 := endOk_ids hc.1; have ha := mAddrsOk_len (endOk_parts hc.1).2.1; have hz := mHalfsOk_len (endOk_parts hc.1).2.2.1) | (rename_i hc _; have h8 := (endOk_split hc.1).2.2.1; have h9 := endOk_ids hc.1; have ha := mAddrsOk_len (endOk_parts hc.1).2.1; have hz := mHalfsOk_len (endOk_parts hc.1).2.2.1) | (rename_i hc; have h8 := (endOk_split hc.1.1).2.2.1; have h9 := endOk_ids hc.1.1; have ha := mAddrsOk_len (endOk_parts hc.1.1).2.1; have hz := mHalfsOk_len (endOk_parts hc.1.1).2.2.1) | skip
 all_goals (unfold DEnd.B at h ⊢; simp only [setSub, mMet, List.length_append, List.length_set, List.length_cons, List.length_nil, goneIf_len, mGoneAt_len]; omega)
theorem mHearJoinAck_len (e : DEnd) (x : DLetter) : (mHearJoinAck e x).2.length ≤ 1073741824 := by
 unfold mHearJoinAck
 repeat' split
 all_goals simp
theorem mHearAddr_B {e : DEnd} (x : DLetter) (h : e.B) : (mHearAddr e x).1.B := by
 obtain ⟨h1, h2, h3, h4, h5, h6, h7⟩ := id h
 unfold mHearAddr
 repeat' split
 all_goals first | exact h | (rename_i hc; have h8 := (endOk_split hc.1).2.2.1; have h9 := endOk_ids hc.1; have ha := mAddrsOk_len (endOk_parts hc.1).2.1; have hz := mHalfsOk_len (endOk_parts hc.1).2.2.1) | (rename_i hc _; have h8 := (endOk_split hc.1).2.2.1; have h9 := endOk_ids hc.1; have ha := mAddrsOk_len (endOk_parts hc.1).2.1; have hz := mHalfsOk_len (endOk_parts hc.1).2.2.1) | (rename_i hc; have h8 := (endOk_split hc.1.1).2.2.1; have h9 := endOk_ids hc.1.1; have ha := mAddrsOk_len (endOk_parts hc.1.1).2.1; have hz := mHalfsOk_len (endOk_parts hc.1.1).2.2.1) | skip
 all_goals have hp := mPutAddr_len e.far ⟨x.id, x.addr, x.spare, true⟩
 all_goals (unfold DEnd.B at h ⊢; simp only [setSub, mMet, List.length_append, List.length_set, List.length_cons, List.length_nil, goneIf_len, mGoneAt_len]; omega)
theorem mHearAddr_len (e : DEnd) (x : DLetter) : (mHearAddr e x).2.length ≤ 1073741824 := by
 unfold mHearAddr
 repeat' split
 all_goals simp
theorem mHearEcho_B {e : DEnd} (x : DLetter) (h : e.B) : (mHearEcho e x).1.B := by
 obtain ⟨h1, h2, h3, h4, h5, h6, h7⟩ := id h
 unfold mHearEcho
 repeat' split
 all_goals first | exact h | (rename_i hc; have h8 := (endOk_split hc.1).2.2.1; have h9 := endOk_ids hc.1; have ha := mAddrsOk_len (endOk_parts hc.1).2.1; have hz := mHalfsOk_len (endOk_parts hc.1).2.2.1) | (rename_i hc _; have h8 := (endOk_split hc.1).2.2.1; have h9 := endOk_ids hc.1; have ha := mAddrsOk_len (endOk_parts hc.1).2.1; have hz := mHalfsOk_len (endOk_parts hc.1).2.2.1) | (rename_i hc; have h8 := (endOk_split hc.1.1).2.2.1; have h9 := endOk_ids hc.1.1; have ha := mAddrsOk_len (endOk_parts hc.1.1).2.1; have hz := mHalfsOk_len (endOk_parts hc.1.1).2.2.1) | skip
 all_goals (unfold DEnd.B at h ⊢; simp only [setSub, mMet, List.length_append, List.length_set, List.length_cons, List.length_nil, goneIf_len, mGoneAt_len]; omega)
theorem mHearEcho_len (e : DEnd) (x : DLetter) : (mHearEcho e x).2.length ≤ 1073741824 := by
 unfold mHearEcho
 repeat' split
 all_goals simp
theorem mHearGone_B {e : DEnd} (x : DLetter) (h : e.B) : (mHearGone e x).1.B := by
 obtain ⟨h1, h2, h3, h4, h5, h6, h7⟩ := id h
 unfold mHearGone
 repeat' split
 all_goals first | exact h | (rename_i hc; have h8 := (endOk_split hc.1).2.2.1; have h9 := endOk_ids hc.1; have ha := mAddrsOk_len (endOk_parts hc.1).2.1; have hz := mHalfsOk_len (endOk_parts hc.1).2.2.1) | (rename_i hc _; have h8 := (endOk_split hc.1).2.2.1; have h9 := endOk_ids hc.1; have ha := mAddrsOk_len (endOk_parts hc.1).2.1; have hz := mHalfsOk_len (endOk_parts hc.1).2.2.1) | (rename_i hc; have h8 := (endOk_split hc.1.1).2.2.1; have h9 := endOk_ids hc.1.1; have ha := mAddrsOk_len (endOk_parts hc.1.1).2.1; have hz := mHalfsOk_len (endOk_parts hc.1.1).2.2.1) | skip
 all_goals have hp := mPut_len e.over x.id
 all_goals have hq := mDropAddr_len e.far x.id
 all_goals (unfold DEnd.B at h ⊢; simp only [setSub, mMet, List.length_append, List.length_set, List.length_cons, List.length_nil, goneIf_len, mGoneAt_len]; omega)
theorem mHearGone_len (e : DEnd) (x : DLetter) : (mHearGone e x).2.length ≤ 1073741824 := by
 unfold mHearGone
 repeat' split
 all_goals simp
theorem mHearCame_B {e : DEnd} (x : DLetter) (h : e.B) : (mHearCame e x).1.B := by
 obtain ⟨h1, h2, h3, h4, h5, h6, h7⟩ := id h
 unfold mHearCame
 repeat' split
 all_goals first | exact h | (rename_i hc; have h8 := (endOk_split hc.1).2.2.1; have h9 := endOk_ids hc.1; have ha := mAddrsOk_len (endOk_parts hc.1).2.1; have hz := mHalfsOk_len (endOk_parts hc.1).2.2.1) | (rename_i hc _; have h8 := (endOk_split hc.1).2.2.1; have h9 := endOk_ids hc.1; have ha := mAddrsOk_len (endOk_parts hc.1).2.1; have hz := mHalfsOk_len (endOk_parts hc.1).2.2.1) | (rename_i hc; have h8 := (endOk_split hc.1.1).2.2.1; have h9 := endOk_ids hc.1.1; have ha := mAddrsOk_len (endOk_parts hc.1.1).2.1; have hz := mHalfsOk_len (endOk_parts hc.1.1).2.2.1) | skip
 all_goals (unfold DEnd.B at h ⊢; simp only [setSub, mMet, List.length_append, List.length_set, List.length_cons, List.length_nil, goneIf_len, mGoneAt_len]; omega)
theorem mHearCame_len (e : DEnd) (x : DLetter) : (mHearCame e x).2.length ≤ 1073741824 := by
 unfold mHearCame
 repeat' split
 all_goals simp
theorem mHearReset_B {e : DEnd} (x : DLetter) (h : e.B) : (mHearReset e x).1.B := by
 obtain ⟨h1, h2, h3, h4, h5, h6, h7⟩ := id h
 unfold mHearReset
 repeat' split
 all_goals first | exact h | (rename_i hc; have h8 := (endOk_split hc.1).2.2.1; have h9 := endOk_ids hc.1; have ha := mAddrsOk_len (endOk_parts hc.1).2.1; have hz := mHalfsOk_len (endOk_parts hc.1).2.2.1) | (rename_i hc _; have h8 := (endOk_split hc.1).2.2.1; have h9 := endOk_ids hc.1; have ha := mAddrsOk_len (endOk_parts hc.1).2.1; have hz := mHalfsOk_len (endOk_parts hc.1).2.2.1) | (rename_i hc; have h8 := (endOk_split hc.1.1).2.2.1; have h9 := endOk_ids hc.1.1; have ha := mAddrsOk_len (endOk_parts hc.1.1).2.1; have hz := mHalfsOk_len (endOk_parts hc.1.1).2.2.1) | skip
 all_goals (unfold DEnd.B at h ⊢; simp only [setSub, mMet, List.length_append, List.length_set, List.length_cons, List.length_nil, goneIf_len, mGoneAt_len]; omega)
theorem mHearReset_len (e : DEnd) (x : DLetter) : (mHearReset e x).2.length ≤ 1073741824 := by
 unfold mHearReset
 repeat' split
 all_goals simp
theorem mPush_B {e : DEnd}  (h : e.B) : (mPush e).1.B := by
 obtain ⟨h1, h2, h3, h4, h5, h6, h7⟩ := id h
 unfold mPush
 repeat' split
 all_goals first | exact h | (rename_i hc; have h8 := (endOk_split hc.1).2.2.1; have h9 := endOk_ids hc.1; have ha := mAddrsOk_len (endOk_parts hc.1).2.1; have hz := mHalfsOk_len (endOk_parts hc.1).2.2.1) | (rename_i hc _; have h8 := (endOk_split hc.1).2.2.1; have h9 := endOk_ids hc.1; have ha := mAddrsOk_len (endOk_parts hc.1).2.1; have hz := mHalfsOk_len (endOk_parts hc.1).2.2.1) | (rename_i hc; have h8 := (endOk_split hc.1.1).2.2.1; have h9 := endOk_ids hc.1.1; have ha := mAddrsOk_len (endOk_parts hc.1.1).2.1; have hz := mHalfsOk_len (endOk_parts hc.1.1).2.2.1) | skip
 all_goals (unfold DEnd.B at h ⊢; simp only [setSub, mMet, List.length_append, List.length_set, List.length_cons, List.length_nil, goneIf_len, mGoneAt_len]; omega)
end Go.Eng

namespace Go.Eng

def pushN : Nat → DEnd → DEnd × List DLetter
 | 0, e => (e, [])
 | n + 1, e => ((mPush (pushN n e).1).1, (pushN n e).2 ++ (mPush (pushN n e).1).2)
theorem mPush_len1 (e : DEnd) : (mPush e).2.length ≤ 1 := by
 unfold mPush
 split <;> simp
theorem pushN_B {e : DEnd} (h : e.B) : ∀ n, (pushN n e).1.B
 | 0 => h
 | n + 1 => mPush_B (pushN_B h n)
theorem pushN_len (e : DEnd) : ∀ n, (pushN n e).2.length ≤ n
 | 0 => Nat.le_refl _
 | n + 1 => by
  have := pushN_len e n
  have := mPush_len1 (pushN n e).1
  rw [pushN, List.length_append]; omega
def mWriteAll (e : DEnd) (t : List UInt8) : DEnd × List DLetter := pushN 3 (mWrite e t).1
theorem mWriteAll_len (e : DEnd) (t : List UInt8) : (mWriteAll e t).2.length ≤ 1073741824 := by
 have := pushN_len (mWrite e t).1 3
 show (pushN 3 _).2.length ≤ _
 omega
end Go.Eng

namespace Go.Eng

def DKnown.B (x : DKnown) : Prop := x.keys.length ≤ 1073741824 ∧ x.tags.length ≤ 1073741824
end Go.Eng

namespace Go.Eng

def mMeetO (a b : DEnd) : DEnd × List DLetter := mOpen a (gA b.own 0).addr
def mMeetH (a b : DEnd) : DEnd × List DLetter := match (mMeetO a b).2 with
 | [] => (b, [])
 | l :: _ => mHearHello b l
def mMeetX (a b : DEnd) : DEnd := match (mMeetH a b).2 with
 | [] => (mMeetO a b).1
 | m :: _ => (mHearBack (mMeetO a b).1 m).1
def mMeetOk (x y : DEnd) : Bool := decide (x.state = 2) && decide (y.state = 2) && decide (x.peer = y.key) && decide (y.peer = x.key)
def mMeet (a b : DEnd) : DEnd × DEnd × Bool := if b.own.length = 0 then (a, b, false) else (mMeetX a b, (mMeetH a b).1, mMeetOk (mMeetX a b) (mMeetH a b).1)
theorem mOpen_len1 (e : DEnd) (f : Int) : (mOpen e f).2.length ≤ 1 := by
 unfold mOpen
 split <;> simp
theorem mHearHello_len1 (e : DEnd) (x : DLetter) : (mHearHello e x).2.length ≤ 1 := by
 unfold mHearHello
 split <;> simp
theorem mMeetH_len (a b : DEnd) : (mMeetH a b).2.length ≤ 1 := by
 unfold mMeetH
 split
 ·simp
 ·exact mHearHello_len1 _ _
theorem mMeetO_B {a b : DEnd} (h : a.B) : (mMeetO a b).1.B := mOpen_B _ h
theorem mMeetH_B {a b : DEnd} (h : b.B) : (mMeetH a b).1.B := by
 unfold mMeetH
 split
 ·exact h
 ·exact mHearHello_B _ h
theorem meetH_of {a b : DEnd} {l : DLetter} {i : Nat} (h : (mMeetO a b).2[i]? = some l) : i = 0 ∧ mMeetH a b = mHearHello b l ∧ (mMeetO a b).2.length = 1 := by
 have hl := mOpen_len1 a (gA b.own 0).addr
 have hi := (List.getElem?_eq_some_iff.1 h).1
 have hi : i < (mMeetO a b).2.length := hi
 have hl : (mMeetO a b).2.length ≤ 1 := hl
 obtain rfl : i = 0 := by omega
 refine ⟨rfl, ?_, by omega⟩
 unfold mMeetH
 revert h
 cases (mMeetO a b).2 with
 | nil => intro h; simp at h
 | cons y t => intro h; simp at h; subst h; rfl
theorem meetX_of {a b : DEnd} {m : DLetter} {i : Nat} (h : (mMeetH a b).2[i]? = some m) : i = 0 ∧ mMeetX a b = (mHearBack (mMeetO a b).1 m).1 ∧ (mMeetH a b).2.length = 1 := by
 have hi : i < (mMeetH a b).2.length := (List.getElem?_eq_some_iff.1 h).1
 have hl := mMeetH_len a b
 obtain rfl : i = 0 := by omega
 refine ⟨rfl, ?_, by omega⟩
 unfold mMeetX
 revert h
 cases (mMeetH a b).2 with
 | nil => intro h; simp at h
 | cons y t => intro h; simp at h; subst h; rfl
theorem meetH_nil {a b : DEnd} (h : (mMeetO a b).2.length = 0) : mMeetH a b = (b, []) := by
 unfold mMeetH
 rw [List.length_eq_zero_iff.1 h]
theorem meetX_nil {a b : DEnd} (h : (mMeetH a b).2.length = 0) : mMeetX a b = (mMeetO a b).1 := by
 unfold mMeetX
 rw [List.length_eq_zero_iff.1 h]
end Go.Eng

namespace Go.Eng

def fYoung (now : Int) (h : DHalf) (_ : Nat) : Option DHalf := if h.til > now then some h else none
def mYounger (l : List DHalf) (now : Int) : List DHalf := colL (fYoung now) l 0
def mBrought (n l h : Int) : Int := if h < l ∨ n < l then l else if n > h then h else n
def tickG (s : DSub) : DSub :=
 if s.state ≠ 1 ∧ s.state ≠ 2 then s else if s.state = 2 ∧ s.tries + 1 ≥ 9 then { s with tries := s.tries + 1, state := 4 } else { s with tries := s.tries + 1 }
def tickF (e : DEnd) (s : DSub) (_ : Nat) : Option DLetter :=
 if s.state ≠ 1 ∧ s.state ≠ 2 then none else if s.state = 2 ∧ s.tries + 1 ≥ 9 then none else if (s.tries + 1).tmod 3 ≠ 0 then none
 else if s.state = 1 then some (mJoinLetter e s) else some (mDoneLetter e s)
def mTired (e : DEnd) : Bool := anyL (fun s : DSub => decide (s.tries ≥ 1000000000)) e.subs
def mTick0 (e : DEnd) : DEnd := { e with now := e.now + 1, bucket := mFilled e.bucket, halfs := mYounger e.halfs (e.now + 1), out := mAnew e.out }
def mTick1 (e : DEnd) : DEnd := if e.state = 2 then { mTick0 e with subs := e.subs.map tickG } else mTick0 e
def mTickL (e : DEnd) : List DLetter := if e.state = 2 then colL (tickF e) e.subs 0 else []
def mTickEnd (e : DEnd) (l : List DLetter) : DEnd × List DLetter := ((pushN 3 e).1, l ++ mTellAddrs e ++ (pushN 3 e).2)
def mTick (e : DEnd) : DEnd × List DLetter :=
 if mEndOk e = true ∧ e.now < 1000000000 ∧ mTired e = false then mTickEnd (mTick1 e) (mTickL e) else (e, [])
theorem mTick0_B {e : DEnd} (h : e.B) : (mTick0 e).B := by
 obtain ⟨h1, h2, h3, h4, h5, h6, h7⟩ := h
 exact ⟨h1, h2, h3, Nat.le_trans (colL_le _ _ _) h4, h5, h6, h7⟩
theorem mTick1_B {e : DEnd} (h : e.B) : (mTick1 e).B := by
 unfold mTick1
 split
 ·obtain ⟨h1, h2, h3, h4, h5, h6, h7⟩ := mTick0_B h
  exact ⟨h1, h2, by show (e.subs.map tickG).length ≤ _; rw [List.length_map]; exact h3, h4, h5, h6, h7⟩
 ·exact mTick0_B h
theorem mTick_len {e : DEnd} (h : e.B) (h2 : e.own.length ≤ 1048576) (h3 : e.subs.length ≤ 1048576) : (mTick e).2.length ≤ 1073741824 := by
 unfold mTick
 split
 ·have h4 := pushN_len (mTick1 e) 3
  have h5 : (mTickL e).length ≤ e.subs.length := by
   unfold mTickL
   split
   ·exact colL_le _ _ _
   ·simp
  have h6 : (mTellAddrs (mTick1 e)).length ≤ e.own.length := by
   unfold mTellAddrs
   split
   ·refine Nat.le_trans (colL_le _ _ _) ?_
    unfold mTick1
    split <;> exact Nat.le_refl _
   ·simp
  simp only [mTickEnd, List.length_append]
  omega
 ·simp
theorem tired_no {e : DEnd} (h : mTired e = false) (i : Nat) (s : DSub) (hs : e.subs[i]? = some s) : s.tries < 1000000000 := by
 have := mt (anyL_iff (fun s : DSub => decide (s.tries ≥ 1000000000)) e.subs).2 (by rw [mTired] at h; simp [h])
 have hm := List.mem_of_getElem? hs
 by_cases hc : s.tries ≥ 1000000000
 ·exact absurd ⟨s, hm, by simpa using hc⟩ this
 ·omega
theorem sub_nums {e : DEnd} (h : mEndOk e = true) (i : Nat) (s : DSub) (hs : e.subs[i]? = some s) : 0 ≤ s.tries ∧ s.tries ≤ 1000000000 := by
 have h2 := (allI_iff _ _ _).1 (endOk_split h).2.2.2 i (by omega) (by have := (List.getElem?_eq_some_iff.1 hs).1; omega)
 have hg : gS e.subs i = s := by simp [gS, List.getD, hs]
 simp only [pSubOk, hg, Bool.and_eq_true, mNum_iff] at h2
 omega
theorem now_w1 {e : DEnd} (h : mEndOk e = true) : w64 (e.now + 1) = e.now + 1 := by
 have := endOk_nums h
 exact w64_id (by omega) (by omega)
theorem tell_small {e : DEnd} (h : mEndOk e = true) : (mTellAddrs (mTick1 e)).length ≤ 6 := by
 have ha := mAddrsOk_len (endOk_parts h).1
 unfold mTellAddrs
 split
 ·refine Nat.le_trans (colL_le _ _ _) ?_
  unfold mTick1
  split <;> exact ha
 ·simp
end Go.Eng

namespace Go.Eng

def meshIn (a : DAddr) : List DAddr → List DRoad → List DRoad
 | [], acc => acc
 | b :: l, acc => meshIn a l (if acc.length < 8 then acc ++ [⟨a.addr, b.addr, 0⟩] else acc)
def meshOut (far : List DAddr) : List DAddr → List DRoad → List DRoad
 | [], acc => acc
 | a :: l, acc => meshOut far l (meshIn a far acc)
theorem meshIn_full (a : DAddr) : ∀ (l : List DAddr) (acc : List DRoad), ¬ acc.length < 8 → meshIn a l acc = acc
 | [], _, _ => rfl
 | b :: l, acc, h => by rw [meshIn, if_neg h]; exact meshIn_full a l acc h
theorem meshIn_len (a : DAddr) : ∀ (l : List DAddr) (acc : List DRoad), acc.length ≤ 8 → (meshIn a l acc).length ≤ 8
 | [], _, h => h
 | b :: l, acc, h => by
  rw [meshIn]
  apply meshIn_len a l
  split
  ·simp; omega
  ·exact h
theorem meshOut_len (far : List DAddr) : ∀ (l : List DAddr) (acc : List DRoad), acc.length ≤ 8 → (meshOut far l acc).length ≤ 8
 | [], _, h => h
 | a :: l, acc, h => meshOut_len far l _ (meshIn_len a far acc h)
def manyR (a b : DAddr) : Nat → List DRoad
 | 0 => []
 | n + 1 => manyR a b n ++ [⟨a.addr, b.addr, (n : Int)⟩]
theorem manyR_len (a b : DAddr) : ∀ n, (manyR a b n).length = n
 | 0 => rfl
 | n + 1 => by simp [manyR, manyR_len a b n]
def mMany (p : DPolicy) : Nat := if p.kind = 2 then p.many.toNat else 1
def mWanted (p : DPolicy) (own far : List DAddr) : List DRoad :=
 if mPolicyOk p = true ∧ mIn own.length 1 6 = true ∧ mIn far.length 1 6 = true then
  if p.kind = 1 then meshOut far own [] else manyR (gA own 0) (gA far 0) (mMany p)
 else []
theorem policy_many {p : DPolicy} (h : mPolicyOk p = true) : (mMany p : Int) = (if p.many > 1 then p.many else 1) ∧ (p.kind = 2 → (mMany p : Int) = p.many) ∧ (p.kind ≠ 2 → p.many = 0 ∧ mMany p = 1) ∧ mMany p ≤ 8 ∧ 1 ≤ mMany p := by
 unfold mMany
 simp only [mPolicyOk] at h
 split at h
 ·rename_i h2
  have := mIn_iff.1 h
  simp only [h2, if_true]
  refine ⟨?_, ?_, ?_, ?_, ?_⟩
  ·split <;> omega
  ·intro _; omega
  ·intro hh; exact absurd rfl hh
  ·omega
  ·omega
 ·rename_i h2
  simp only [Bool.and_eq_true, beq_iff_eq] at h
  simp only [h2, if_false, h.2]
  refine ⟨by simp, fun hh => absurd hh (by simp), fun _ => ⟨trivial, trivial⟩, by omega, by omega⟩
theorem mWanted_len (p : DPolicy) (own far : List DAddr) : (mWanted p own far).length ≤ 8 := by
 unfold mWanted
 split
 ·rename_i h
  split
  ·exact meshOut_len _ _ _ (by simp)
  ·rw [manyR_len]; exact (policy_many h.1).2.2.2.1
 ·simp
def mHasRoad (l : List DRoad) (r : DRoad) : Bool := anyL (fun x : DRoad => decide (x = r)) l
def fMiss (have_ : List DRoad) (r : DRoad) (_ : Nat) : Option DRoad := if mHasRoad have_ r = true then none else some r
def mMissing (w h : List DRoad) : List DRoad := if w.length ≤ 64 ∧ h.length ≤ 64 then colL (fMiss h) w 0 else []
/-- Of the last address that fits, whether it is spare. -/
def spL (a : Int) : List DAddr → Bool → Bool
 | [], s => s
 | x :: l, s => spL a l (if x.addr = a then x.spare else s)
def mSpare (e : DEnd) (a : Int) : Bool := spL a e.far false
theorem spL_append (a : Int) : ∀ (l m : List DAddr) (s : Bool), spL a (l ++ m) s = spL a m (spL a l s)
 | [], _, _ => rfl
 | x :: l, m, s => by simp only [List.cons_append, spL]; exact spL_append a l m _
theorem spare_eq (e : DEnd) (a : Int) : mSpare e a = (decide (0 ≤ mFarAt e a) && (gA e.far (mFarAt e a).toNat).spare) := by
 have : ∀ n, n ≤ e.far.length → spL a (e.far.take n) false = (decide (0 ≤ dnL a e.far n) && (gA e.far (dnL a e.far n).toNat).spare) := by
  intro n
  induction n with
  | zero => intro _; simp [spL, dnL]
  | succ n ih =>
   intro hn
   have hg : e.far[n]? = some (gA e.far n) := by
    rw [List.getElem?_eq_getElem (by omega)]; simp [gA, List.getD, (by omega : n < e.far.length)]
   rw [List.take_add_one, hg, spL_append, ih (by omega)]
   simp only [Option.toList, spL, dnL]
   split
   ·simp
   ·rfl
 have h := this e.far.length (Nat.le_refl _)
 rw [List.take_length] at h
 exact h
def mgL (e : DEnd) : List DRoad → DEnd → List DLetter → DEnd × List DLetter
 | [], o, acc => (o, acc)
 | r :: l, o, acc => mgL e l (mJoin o r (mSpare e r.far)).1 (acc ++ (mJoin o r (mSpare e r.far)).2)
def mMissL (e : DEnd) : List DRoad := mMissing (mWanted e.policy e.own e.far) (mHaveOf e)
def mManage (e : DEnd) : DEnd × List DLetter := if mEndOk e = true ∧ e.side = 1 then mgL e (mMissL e) e [] else (e, [])
theorem mJoin_len1 (e : DEnd) (r : DRoad) (p : Bool) : (mJoin e r p).2.length ≤ 1 := by
 unfold mJoin
 split <;> simp
theorem mgL_len (e : DEnd) : ∀ (l : List DRoad) (o : DEnd) (acc : List DLetter), (mgL e l o acc).2.length ≤ acc.length + l.length
 | [], _, _ => by simp [mgL]
 | r :: l, o, acc => by
  rw [mgL]
  have := mgL_len e l (mJoin o r (mSpare e r.far)).1 (acc ++ (mJoin o r (mSpare e r.far)).2)
  have := mJoin_len1 o r (mSpare e r.far)
  rw [List.length_append] at *
  simp only [List.length_cons]
  omega
theorem mMissL_len (e : DEnd) : (mMissL e).length ≤ 8 := by
 unfold mMissL mMissing
 split
 ·exact Nat.le_trans (colL_le _ _ _) (mWanted_len _ _ _)
 ·simp
theorem mManage_len (e : DEnd) : (mManage e).2.length ≤ 1073741824 := by
 unfold mManage
 split
 ·have := mgL_len e (mMissL e) e []
  have := mMissL_len e
  simp at *; omega
 ·simp
end Go.Eng

namespace Go.Eng

/-- Two pieces that overlap or touch; bytes of the first one stay. -/
def mMerge (a b : DPiece) : DPiece :=
 if b.pos < a.pos then ⟨b.pos, b.text.take (a.pos - b.pos).toNat ++ a.text ++ b.text.drop ((a.pos - b.pos).toNat + a.text.length)⟩
 else ⟨a.pos, a.text ++ b.text.drop (a.pos + a.text.length - b.pos).toNat⟩
def PB (a : DPiece) : Prop := 0 ≤ a.pos ∧ a.pos ≤ 4000000000 ∧ a.text.length ≤ 2305843009213693952
theorem mMerge_bd {a b : DPiece} (ha : PB a) (hb : PB b) : 0 ≤ (mMerge a b).pos ∧ (mMerge a b).pos ≤ a.pos ∧ (mMerge a b).text.length ≤ a.text.length + b.text.length := by
 obtain ⟨a1, a2, a3⟩ := ha
 obtain ⟨b1, b2, b3⟩ := hb
 unfold mMerge
 split
 ·refine ⟨b1, by simp only []; omega, ?_⟩
  simp only [List.length_append, List.length_take, List.length_drop]
  omega
 ·refine ⟨a1, Int.le_refl _, ?_⟩
  simp only [List.length_append, List.length_drop]
  omega
/-- The pieces behind those that were looked at, with one more laid among them. -/
def ppF : List DPiece → List DPiece → DPiece → Bool → List DPiece × DPiece × Bool
 | [], out, x, laid => (out, x, laid)
 | y :: l, out, x, laid =>
  if w64 (y.pos + (y.text.length : Int)) < x.pos then ppF l (out ++ [y]) x laid
  else if w64 (x.pos + (x.text.length : Int)) < y.pos then
   (if laid = true then ppF l (out ++ [y]) x true else ppF l (out ++ [x] ++ [y]) x true)
  else ppF l out (mMerge y x) laid
def ppEnd (s : List DPiece × DPiece × Bool) : List DPiece := if s.2.2 = true then s.1 else s.1 ++ [s.2.1]
def ppX (p : DPieces) (pos : Int) (text : List UInt8) : DPiece :=
 if pos < mNextOf p then ⟨mNextOf p, text.drop (mNextOf p - pos).toNat⟩ else ⟨pos, text⟩
def ppOut (p : DPieces) (pos : Int) (text : List UInt8) : DPieces :=
 if ((ppEnd (ppF p.list [] (ppX p pos text) false)).getD 0 (ETy.zero .piece)).pos = mNextOf p then
  ⟨p.read, p.ready ++ ((ppEnd (ppF p.list [] (ppX p pos text) false)).getD 0 (ETy.zero .piece)).text, (ppEnd (ppF p.list [] (ppX p pos text) false)).drop 1⟩
 else ⟨p.read, p.ready, ppEnd (ppF p.list [] (ppX p pos text) false)⟩
def mPutPiece (p : DPieces) (pos : Int) (text : List UInt8) : DPieces :=
 if mPiecesOk p = true ∧ mNum pos = true ∧ mIn text.length 1 200 = true ∧ mNextOf p - pos < (text.length : Int) then
  if mPiecesOk (ppOut p pos text) = true then ppOut p pos text else p
 else p
def DPieces.S (p : DPieces) : Prop := p.ready.length ≤ 1073741824 ∧ p.list.length ≤ 1073741824 ∧ ∀ x ∈ p.list, x.text.length ≤ 1073741824
theorem next_id {p : DPieces} (h : mPiecesOk p = true) (hs : p.ready.length ≤ 1073741824) : mNextOf p = p.read + p.ready.length ∧ 0 ≤ mNextOf p ∧ mNextOf p ≤ 2073741824 := by
 have := piecesOk_bd h
 unfold mNextOf
 rw [w64_id (by omega) (by omega)]
 omega
theorem pieces_pos {p : DPieces} (h : mPiecesOk p = true) (hs : p.S) : ∀ x ∈ p.list, 0 ≤ x.pos ∧ x.pos ≤ 2000000000 := by
 have hn := next_id h hs.1
 have ho : ordL p.list (mNextOf p) = true := by
  simp only [mPiecesOk, Bool.and_eq_true] at h
  exact h.1.2
 have gen : ∀ (l : List DPiece) (e : Int), 0 ≤ e → ordL l e = true → (∀ x ∈ l, x.text.length ≤ 1073741824) → ∀ x ∈ l, 0 ≤ x.pos ∧ x.pos ≤ 2000000000 := by
  intro l
  induction l with
  | nil => intro e _ _ _ x hx; simp at hx
  | cons y l ih =>
   intro e he ho ht x hx
   rw [ordL] at ho
   split at ho
   ·rename_i hp
    simp only [pOrd, Bool.and_eq_true, Bool.not_eq_true', decide_eq_false_iff_not] at hp
    have hy := ht y (by simp)
    rcases List.mem_cons.1 hx with rfl | hx
    ·omega
    ·refine ih _ ?_ ho (fun z hz => ht z (by simp [hz])) x hx
     rw [w64_id (by omega) (by omega)]
     omega
   ·cases ho
 exact gen p.list _ hn.2.1 ho hs.2.2
theorem ppX_bd {p : DPieces} {pos : Int} {text : List UInt8} (h : mPiecesOk p = true) (hs : p.S) (hp : 0 ≤ pos ∧ pos ≤ 1000000000) (ht : text.length ≤ 200) : 0 ≤ (ppX p pos text).pos ∧ (ppX p pos text).pos ≤ 2073741824 ∧ (ppX p pos text).text.length ≤ 200 := by
 have hn := next_id h hs.1
 unfold ppX
 split
 ·refine ⟨hn.2.1, hn.2.2, ?_⟩
  simp only [List.length_drop]; omega
 ·exact ⟨hp.1, by simp only []; omega, ht⟩
def TB (i : Nat) (l : List DPiece) : Prop := ∀ y ∈ l, y.text.length ≤ 200 + i * 1073741824
theorem TB_app {n m : Nat} {l : List DPiece} {x : DPiece} (h : TB n l) (hx : x.text.length ≤ 200 + m * 1073741824) (hn : n ≤ m) : TB m (l ++ [x]) := by
 intro y hy
 rcases List.mem_append.1 hy with h' | h'
 ·exact Nat.le_trans (h y h') (Nat.add_le_add_left (Nat.mul_le_mul_right _ hn) _)
 ·rw [List.mem_singleton.1 h']; exact hx
theorem TB_mono {n m : Nat} {l : List DPiece} (h : TB n l) (hn : n ≤ m) : TB m l := fun y hy => Nat.le_trans (h y hy) (Nat.add_le_add_left (Nat.mul_le_mul_right _ hn) _)
theorem TB_nil (n : Nat) : TB n [] := fun y hy => by simp at hy
theorem TB_get0 {B : Nat} {l : List DPiece} (h : ∀ y ∈ l, y.text.length ≤ B) : (l.getD 0 (ETy.zero .piece)).text.length ≤ B := by
 cases l with
 | nil => exact Nat.zero_le _
 | cons a l => exact h a (by simp)
theorem TB_getD {n : Nat} {l : List DPiece} (h : TB n l) : (l.getD 0 (ETy.zero .piece)).text.length ≤ 200 + n * 1073741824 := TB_get0 h
theorem bytes_nil : (ByteArray.mk #[]).data.toList = [] := rfl
theorem mNums1 (x : Int) : mNums [x] = mNum x := by unfold mNums allL; simp [allL]
theorem drop_nil_beq (n : Nat) (l : List UInt8) : (l.drop n == []) = decide (l.length ≤ n) := by
 by_cases h : l.length ≤ n
 ·rw [List.drop_eq_nil_iff.2 h]; simp [h]
 ·have : l.drop n ≠ [] := fun hh => h (List.drop_eq_nil_iff.1 hh)
  simp [h]
theorem ppF_pos : ∀ (l out : List DPiece) (x : DPiece) (b : Bool), (b = true → 0 < out.length) → 0 < (ppEnd (ppF l out x b)).length
 | [], out, x, b, h => by
  cases b with
  | true => exact h rfl
  | false => simp [ppF, ppEnd]
 | y :: l, out, x, b, h => by
  rw [ppF]
  split
  ·exact ppF_pos l _ x b fun _ => by simp
  ·split
   ·split
    ·exact ppF_pos l _ x true fun _ => by simp
    ·exact ppF_pos l _ x true fun _ => by simp
   ·exact ppF_pos l _ _ b h
end Go.Eng

namespace Go.Eng

theorem mPutPiece_len {p : DPieces} {pos : Int} {text : List UInt8} (h : p.list.length ≤ 1073741824) : (mPutPiece p pos text).list.length ≤ 1073741824 := by
 unfold mPutPiece
 split
 ·split
  ·rename_i hk
   have := (piecesOk_bd hk).2
   omega
  ·exact h
 ·exact h
def mHearData (e : DEnd) (x : DLetter) : DEnd × List DLetter :=
 if mEndOk e = true ∧ mLetterOk x = true ∧ 0 ≤ mSignedOn e x then
  if 1000000000 < mNextOf (mPutPiece e.inn x.pos x.text) then (e, [])
  else ({ e with inn := mPutPiece e.inn x.pos x.text }, [mBetween (mRoadOf x) (ltr 12 0 0 0 0 (gSub e (mSignedOn e x)).give tg0 0 0 false (mNextOf (mPutPiece e.inn x.pos x.text)) [])])
 else (e, [])
def mHear (e : DEnd) (x : DLetter) : DEnd × List DLetter :=
 if mEndOk e = true ∧ mLetterOk x = true ∧ mOwns e x.dst = true then
  if x.kind = 1 then mHearHello e x else if x.kind = 2 then mHearBack e x else if x.kind = 4 then mHearJoin e x else if x.kind = 5 then mHearJoinBack e x
  else if x.kind = 6 then mHearJoinDone e x else if x.kind = 7 then mHearJoinAck e x else if x.kind = 8 then mHearAddr e x else if x.kind = 9 then mHearEcho e x
  else if x.kind = 10 then mHearGone e x else if x.kind = 11 then mHearData e x else if x.kind = 12 then mHearCame e x else if x.kind = 13 then mHearReset e x else (e, [])
 else (e, [])
theorem mHearData_B {e : DEnd} (x : DLetter) (h : e.B) : (mHearData e x).1.B := by
 obtain ⟨h1, h2, h3, h4, h5, h6, h7⟩ := id h
 unfold mHearData
 repeat' split
 ·exact h
 ·exact ⟨h1, h2, h3, h4, mPutPiece_len h5, h6, h7⟩
 ·exact h
theorem mHearData_len (e : DEnd) (x : DLetter) : (mHearData e x).2.length ≤ 1073741824 := by
 unfold mHearData
 repeat' split
 all_goals simp
theorem iteP {α : Type} {P : α → Prop} {c : Prop} [Decidable c] {a b : α} (ha : P a) (hb : P b) : P (if c then a else b) := by
 split
 ·exact ha
 ·exact hb
theorem mHear_B {e : DEnd} (x : DLetter) (h : e.B) : (mHear e x).1.B :=
 iteP (P := fun z : DEnd × List DLetter => z.1.B) (iteP (P := fun z : DEnd × List DLetter => z.1.B) (mHearHello_B x h) (iteP (P := fun z : DEnd × List DLetter => z.1.B) (mHearBack_B x h) (iteP (P := fun z : DEnd × List DLetter => z.1.B) (mHearJoin_B x h) (iteP (P := fun z : DEnd × List DLetter => z.1.B) (mHearJoinBack_B x h) (iteP (P := fun z : DEnd × List DLetter => z.1.B) (mHearJoinDone_B x h) (iteP (P := fun z : DEnd × List DLetter => z.1.B) (mHearJoinAck_B x h) (iteP (P := fun z : DEnd × List DLetter => z.1.B) (mHearAddr_B x h) (iteP (P := fun z : DEnd × List DLetter => z.1.B) (mHearEcho_B x h) (iteP (P := fun z : DEnd × List DLetter => z.1.B) (mHearGone_B x h) (iteP (P := fun z : DEnd × List DLetter => z.1.B) (mHearData_B x h) (iteP (P := fun z : DEnd × List DLetter => z.1.B) (mHearCame_B x h) (iteP (P := fun z : DEnd × List DLetter => z.1.B) (mHearReset_B x h) (h))))))))))))) (h)
theorem mHear_len (e : DEnd) (x : DLetter) : (mHear e x).2.length ≤ 1073741824 :=
 iteP (P := fun z : DEnd × List DLetter => z.2.length ≤ 1073741824) (iteP (P := fun z : DEnd × List DLetter => z.2.length ≤ 1073741824) (mHearHello_len e x) (iteP (P := fun z : DEnd × List DLetter => z.2.length ≤ 1073741824) (mHearBack_len e x) (iteP (P := fun z : DEnd × List DLetter => z.2.length ≤ 1073741824) (mHearJoin_len e x) (iteP (P := fun z : DEnd × List DLetter => z.2.length ≤ 1073741824) (mHearJoinBack_len e x) (iteP (P := fun z : DEnd × List DLetter => z.2.length ≤ 1073741824) (mHearJoinDone_len e x) (iteP (P := fun z : DEnd × List DLetter => z.2.length ≤ 1073741824) (mHearJoinAck_len e x) (iteP (P := fun z : DEnd × List DLetter => z.2.length ≤ 1073741824) (mHearAddr_len e x) (iteP (P := fun z : DEnd × List DLetter => z.2.length ≤ 1073741824) (mHearEcho_len e x) (iteP (P := fun z : DEnd × List DLetter => z.2.length ≤ 1073741824) (mHearGone_len e x) (iteP (P := fun z : DEnd × List DLetter => z.2.length ≤ 1073741824) (mHearData_len e x) (iteP (P := fun z : DEnd × List DLetter => z.2.length ≤ 1073741824) (mHearCame_len e x) (iteP (P := fun z : DEnd × List DLetter => z.2.length ≤ 1073741824) (mHearReset_len e x) (Nat.zero_le _))))))))))))) (Nat.zero_le _)
end Go.Eng

namespace Go.Eng

end Go.Eng

namespace Go.Eng

structure DCur where
 b : List Int
 i : Int
 h : Int
abbrev aCur : ATy := ⟨DCur, true, [.row .u8, ci, ci], fun c => (c.b, c.i, c.h, ()), fun (a, b, c, _) => ⟨a, b, c⟩, fun _ => rfl⟩
structure DIH where
 i : Int
 h : Int
abbrev aIH : ATy := ⟨DIH, true, [ci, ci], fun c => (c.i, c.h, ()), fun (a, b, _) => ⟨a, b⟩, fun _ => rfl⟩
theorem dPieces_iff (x y : DPieces) : x = y ↔ x.read = y.read ∧ x.ready = y.ready ∧ x.list = y.list := by
 rcases x with ⟨⟩; rcases y with ⟨⟩; simp
theorem dCur_eta (x : DCur) : (⟨x.b, x.i, x.h⟩ : DCur) = x := rfl
theorem dCur_fold {b : List Int} {x : DCur} (h : x.b = b) : (⟨b, x.i, x.h⟩ : DCur) = x := by subst h; rfl
theorem andI_255 (a : Int) : 0 ≤ andI a 255 ∧ andI a 255 ≤ 255 := by
 unfold andI
 have h : (BitVec.ofInt 64 a &&& BitVec.ofInt 64 255).toNat ≤ 255 := by
  rw [BitVec.toNat_and]
  have : (BitVec.ofInt 64 255).toNat = 255 := by decide
  rw [this]
  exact Nat.and_le_right
 rw [w64_id (by omega) (by omega)]
 omega
def curH (h x : Int) : Int := andI (w64 (w64 (w64 (h * 131) + w64 x) + 7)) 1073741823
def newL : List Int → Nat → Int → Int
 | [], _, h => h
 | _ :: _, 0, h => h
 | x :: l, k + 1, h => newL l k (curH h x)
def mNew (b : List Int) : DIH := ⟨0, newL b 4000 (w64 (94701 + b.length))⟩
def mCur (b : List Int) : DCur := ⟨b, 0, (mNew b).h⟩
def DCur.B (c : DCur) : Prop := 0 ≤ c.i ∧ c.i ≤ 1073741824 ∧ c.b.length ≤ 1073741824
theorem mCur_B {b : List Int} (h : b.length ≤ 1073741824) : (mCur b).B := ⟨Int.le_refl _, by show (0 : Int) ≤ _; decide, h⟩
def mByteH (c : DCur) : Int := w64 (w64 (c.h * 6364136223846793005) + 1442695040888963407)
def mByteX (h : Int) : Int := andI (xorI (shrI h 33) (shrI h 45)) 255
def mByte (c : DCur) : Int := if c.i < c.b.length then andI (w64 (mByteX (mByteH c) + w64 (c.b.getD c.i.toNat 0))) 255 else mByteX (mByteH c)
def mByteC (c : DCur) : DCur := ⟨c.b, if c.i < c.b.length then w64 (c.i + 1) else c.i, mByteH c⟩
theorem mByte_bd (c : DCur) : 0 ≤ mByte c ∧ mByte c ≤ 255 := by
 unfold mByte
 split
 ·exact andI_255 _
 ·exact andI_255 _
theorem mByteC_B {c : DCur} (h : c.B) : (mByteC c).B := by
 obtain ⟨h1, h2, h3⟩ := h
 unfold mByteC DCur.B
 refine ⟨?_, ?_, h3⟩ <;> simp only []
 ·split
  ·rw [w64_id (by omega) (by omega)]; omega
  ·exact h1
 ·split
  ·rw [w64_id (by omega) (by omega)]; omega
  ·exact h2
theorem mByteC_b (c : DCur) : (mByteC c).b = c.b := by
 rw [mByteC]
attribute [irreducible] mByteC
def mBelow4 (a b c d : Int) : Int := w64 (w64 (w64 (w64 (a * 16777216) + w64 (b * 65536)) + w64 (c * 256)) + d)
theorem mBelow4_bd {a b c d : Int} (ha : 0 ≤ a ∧ a ≤ 255) (hb : 0 ≤ b ∧ b ≤ 255) (hc : 0 ≤ c ∧ c ≤ 255) (hd : 0 ≤ d ∧ d ≤ 255) : 0 ≤ mBelow4 a b c d := by
 unfold mBelow4
 simp (disch := omega) only [w64_id]
 omega
def mBelow (c : DCur) (n : Int) : Int :=
 if n ≤ 0 then 0 else if n ≤ 256 then (mByte c).tmod n
 else (mBelow4 (mByte c) (mByte (mByteC c)) (mByte (mByteC (mByteC c))) (mByte (mByteC (mByteC (mByteC c))))).tmod n
def mBelowC (c : DCur) (n : Int) : DCur :=
 if n ≤ 0 then c else if n ≤ 256 then mByteC c else mByteC (mByteC (mByteC (mByteC c)))
theorem mBelow_bd {c : DCur} {n : Int} (h : 0 < n) : 0 ≤ mBelow c n ∧ mBelow c n < n := by
 unfold mBelow
 rw [if_neg (by omega)]
 split
 ·exact ⟨Int.tmod_nonneg _ (mByte_bd c).1, Int.tmod_lt_of_pos _ h⟩
 ·exact ⟨Int.tmod_nonneg _ (mBelow4_bd (mByte_bd _) (mByte_bd _) (mByte_bd _) (mByte_bd _)), Int.tmod_lt_of_pos _ h⟩
theorem mBelowC_B {c : DCur} (n : Int) (h : c.B) : (mBelowC c n).B := by
 unfold mBelowC
 split
 ·exact h
 ·split
  ·exact mByteC_B h
  ·exact mByteC_B (mByteC_B (mByteC_B (mByteC_B h)))
theorem mBelowC_b (c : DCur) (n : Int) : (mBelowC c n).b = c.b := by
 unfold mBelowC
 split
 ·rfl
 ·split <;> simp only [mByteC_b]
def mPickInt (c : DCur) (l : List Int) : Int := l.getD (mBelow c l.length).toNat 0
def mPickIntC (c : DCur) (l : List Int) : DCur := mBelowC c l.length
theorem mPickIntC_b (c : DCur) (l : List Int) : (mPickIntC c l).b = c.b := mBelowC_b c _
def mOnce (c : DCur) (n : Int) : Bool := mBelow c n == 0
def mDPol (c : DCur) : DPolicy := if mBelow c 3 = 0 then ⟨1, 0⟩ else if mBelow c 3 = 1 then ⟨2, w64 (1 + mBelow (mBelowC c 3) 4)⟩ else ⟨3, 0⟩
def mDPolC (c : DCur) : DCur := if mBelow c 3 = 0 then mBelowC c 3 else if mBelow c 3 = 1 then mBelowC (mBelowC c 3) 4 else mBelowC c 3
theorem mDPolC_B {c : DCur} (h : c.B) : (mDPolC c).B := by
 have := mBelowC_B 3 h
 have := mBelowC_B 4 this
 unfold mDPolC
 repeat' split
 all_goals assumption
theorem mDPolC_b (c : DCur) : (mDPolC c).b = c.b := by
 unfold mDPolC
 repeat' split
 all_goals simp only [mBelowC_b]
def lAny : List Int := [0, 8, 9, -1]
def mDAny1C (c : DCur) : DCur := if mBelow (mDPolC c) 6 = 0 then mPickIntC (mBelowC (mDPolC c) 6) lAny else mBelowC (mDPolC c) 6
def mDAnyC (c : DCur) : DCur := if mBelow (mDAny1C c) 12 = 0 then mBelowC (mBelowC (mDAny1C c) 12) 5 else mBelowC (mDAny1C c) 12
theorem mDAny1C_b (c : DCur) : (mDAny1C c).b = c.b := by
 unfold mDAny1C mPickIntC
 repeat' split
 all_goals simp only [mBelowC_b, mDPolC_b]
theorem mDAnyC_b (c : DCur) : (mDAnyC c).b = c.b := by
 unfold mDAnyC
 repeat' split
 all_goals simp only [mBelowC_b, mDAny1C_b]
theorem mCur_b (b : List Int) : (mCur b).b = b := rfl
theorem mCur_fold (b : List Int) : (⟨b, (mNew b).i, (mNew b).h⟩ : DCur) = mCur b := rfl
end Go.Eng

namespace Go.Eng
theorem bytesRow_W {l : List Int} (h : wfC (aRow .u8).cts ((aRow .u8).to l)) : l.length ≤ 9223372036854775807 := by
 simp only [wfC, wfL, LT.leaf, maxLen] at h
 obtain ⟨⟨h1, h2⟩, _⟩ := h
 omega
end Go.Eng
