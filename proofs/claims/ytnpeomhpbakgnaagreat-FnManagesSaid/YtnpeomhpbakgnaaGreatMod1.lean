/- Plain models of what the functions compute; part 1. No program in sight. -/
import Derived.Test.YtnpeomhpbakgnaaGreatEng6
set_option linter.unusedVariables false
set_option linter.unusedSimpArgs false
namespace Go.Eng
/-- What was taken apart and put together again is the same. -/
theorem etas : (∀ x : DTag, (⟨x.kind, x.one, x.two, x.a, x.b⟩ : DTag) = x) ∧ (∀ x : DRoad, (⟨x.own, x.far, x.port⟩ : DRoad) = x) ∧ (∀ x : DLetter, (⟨x.kind, x.src, x.dst, x.port, x.key, x.token, x.nonce, x.give, x.sign, x.tag, x.id, x.addr, x.spare, x.pos, x.text⟩ : DLetter) = x) ∧ (∀ x : DAddr, (⟨x.id, x.addr, x.spare, x.told⟩ : DAddr) = x) ∧ (∀ x : DSub, (⟨x.road, x.state, x.spare, x.mine, x.theirs, x.give, x.take, x.tries⟩ : DSub) = x) ∧ (∀ x : DHalf, (⟨x.road, x.theirs, x.mine, x.give, x.take, x.til⟩ : DHalf) = x) ∧ (∀ x : DPiece, (⟨x.pos, x.text⟩ : DPiece) = x) ∧ (∀ x : DPolicy, (⟨x.kind, x.many⟩ : DPolicy) = x) ∧ (∀ x : DBucket, (⟨x.rate, x.burst, x.hav⟩ : DBucket) = x) ∧ (∀ x : DOut, (⟨x.text, x.base, x.sent, x.room⟩ : DOut) = x) ∧ (∀ x : DPieces, (⟨x.read, x.ready, x.list⟩ : DPieces) = x) ∧ (∀ x : DEnd, (⟨x.side, x.state, x.key, x.peer, x.policy, x.own, x.far, x.subs, x.halfs, x.bucket, x.out, x.inn, x.done, x.over, x.draw, x.now, x.pick⟩ : DEnd) = x) ∧ (∀ x : DKnown, (⟨x.keys, x.tags⟩ : DKnown) = x) ∧ (∀ x : DWorld, (⟨x.a, x.b, x.bag, x.past, x.wroteA, x.wroteB, x.readA, x.readB, x.known, x.nums, x.answersA, x.answersB⟩ : DWorld) = x) := ⟨dTag_eta, dRoad_eta, dLetter_eta, dAddr_eta, dSub_eta, dHalf_eta, dPiece_eta, dPolicy_eta, dBucket_eta, dOut_eta, dPieces_eta, dEnd_eta, dKnown_eta, dWorld_eta⟩




/-! sizes -/
def szN (n : Nat) (left : Int) : Int := if left - (n : Int) < 0 then -1 else left - (n : Int)
def sq (q : Int) (k : Int → Int) : Int := if q < 0 then -1 else k q
def szL {α : Type} (f : α → Int → Int) : List α → Int → Int
  | [], q => q
  | x :: l, q => sq (f x q) (szL f l)
def szS {α : Type} (f : α → Int → Int) (l : List α) (left : Int) : Int := sq (szN l.length left) (szL f l)
def szLetter (x : DLetter) (left : Int) : Int := szN x.text.length left
def szPiece (x : DPiece) (left : Int) : Int := szN x.text.length left
def szOut (x : DOut) (left : Int) : Int := szN x.text.length left
def szPieces (p : DPieces) (left : Int) : Int := sq (szN p.ready.length left) fun q => sq (szS szPiece p.list q) id
def szKnown (k : DKnown) (left : Int) : Int := sq (szN k.keys.length left) fun q => sq (szN k.tags.length q) id
def szEnd (e : DEnd) (left : Int) : Int :=
  sq (szN e.own.length left) fun q => sq (szN e.far.length q) fun q => sq (szN e.subs.length q) fun q => sq (szN e.halfs.length q) fun q =>
  sq (szOut e.out q) fun q => sq (szPieces e.inn q) fun q => sq (szN e.done.length q) fun q => sq (szN e.over.length q) id
def szWorld (w : DWorld) (left : Int) : Int :=
  sq (szEnd w.a left) fun q => sq (szEnd w.b q) fun q => sq (szS szLetter w.bag q) fun q => sq (szS szLetter w.past q) fun q =>
  sq (szN w.wroteA.length q) fun q => sq (szN w.wroteB.length q) fun q => sq (szN w.readA.length q) fun q => sq (szN w.readB.length q) fun q =>
  sq (szKnown w.known q) fun q => sq (szN w.nums.length q) fun q => sq (szN w.answersA.length q) fun q => sq (szN w.answersB.length q) id

def DPieces.W (p : DPieces) : Prop := p.ready.length ≤ 9223372036854775807 ∧ p.list.length ≤ 9223372036854775807 ∧ ∀ x ∈ p.list, x.text.length ≤ 9223372036854775807
def DEnd.W (e : DEnd) : Prop := e.own.length ≤ 9223372036854775807 ∧ e.far.length ≤ 9223372036854775807 ∧ e.subs.length ≤ 9223372036854775807 ∧ e.halfs.length ≤ 9223372036854775807 ∧ e.out.text.length ≤ 9223372036854775807 ∧ e.inn.W ∧ e.done.length ≤ 9223372036854775807 ∧ e.over.length ≤ 9223372036854775807
def DWorld.W (w : DWorld) : Prop := w.a.W ∧ w.b.W ∧ (w.bag.length ≤ 9223372036854775807 ∧ ∀ x ∈ w.bag, x.text.length ≤ 9223372036854775807) ∧ (w.past.length ≤ 9223372036854775807 ∧ ∀ x ∈ w.past, x.text.length ≤ 9223372036854775807) ∧
  w.wroteA.length ≤ 9223372036854775807 ∧ w.wroteB.length ≤ 9223372036854775807 ∧ w.readA.length ≤ 9223372036854775807 ∧ w.readB.length ≤ 9223372036854775807 ∧ w.known.keys.length ≤ 9223372036854775807 ∧ w.known.tags.length ≤ 9223372036854775807 ∧ w.nums.length ≤ 9223372036854775807 ∧ w.answersA.length ≤ 9223372036854775807 ∧ w.answersB.length ≤ 9223372036854775807
def QB (q : Int) : Prop := 0 ≤ q ∧ q ≤ 1048576

/-- All slices are of moderate length. -/
def DEnd.B (e : DEnd) : Prop := e.own.length ≤ 1073741824 ∧ e.far.length ≤ 1073741824 ∧ e.subs.length ≤ 1073741824 ∧ e.halfs.length ≤ 1073741824 ∧ e.inn.list.length ≤ 1073741824 ∧ e.done.length ≤ 1073741824 ∧ e.over.length ≤ 1073741824
def DWorld.B (w : DWorld) : Prop := w.a.B ∧ w.b.B ∧ w.bag.length ≤ 1073741824 ∧ w.past.length ≤ 1073741824 ∧ w.known.keys.length ≤ 1073741824 ∧ w.known.tags.length ≤ 1073741824 ∧ w.nums.length ≤ 1073741824 ∧ w.answersA.length ≤ 1073741824 ∧ w.answersB.length ≤ 1073741824

theorem szN_le (n : Nat) (l : Int) : szN n l ≤ l ∨ szN n l = -1 := by unfold szN; split <;> omega
theorem szN_ge {n : Nat} {l : Int} (h : 0 ≤ szN n l) : (n : Int) ≤ l ∧ szN n l ≤ l := by unfold szN at *; split at h <;> omega
theorem sq_ge {q : Int} {k : Int → Int} (h : 0 ≤ sq q k) : 0 ≤ q ∧ 0 ≤ k q := by unfold sq at h; split at h <;> omega
theorem sq_neg {q : Int} {k : Int → Int} (h : q < 0) : sq q k = -1 := if_pos h
theorem sq_pos {q : Int} {k : Int → Int} (h : ¬ q < 0) : sq q k = k q := if_neg h
theorem sq_eq {q : Int} {k : Int → Int} (h : 0 ≤ q) : sq q k = k q := by unfold sq; rw [if_neg (by omega)]

theorem szL_le {α : Type} (f : α → Int → Int) (hf : ∀ x q, 0 ≤ f x q → f x q ≤ q) : ∀ (l : List α) (q : Int), 0 ≤ szL f l q → szL f l q ≤ q
  | [], q, _ => by simp [szL]
  | x :: l, q, h => by
    rw [szL] at h ⊢
    obtain ⟨h1, h2⟩ := sq_ge h
    rw [sq_eq h1]
    have := szL_le f hf l _ h2
    have := hf x q h1
    omega
theorem szPieces_le (p : DPieces) (q : Int) : 0 ≤ szPieces p q → szPieces p q ≤ q := fun h => by
  unfold szPieces at h ⊢
  obtain ⟨h1, h2⟩ := sq_ge h
  rw [sq_eq h1]
  obtain ⟨h2, _⟩ := sq_ge h2
  rw [sq_eq h2]
  show szS szPiece p.list (szN p.ready.length q) ≤ q
  unfold szS at h2 ⊢
  obtain ⟨h3, h4⟩ := sq_ge h2
  rw [sq_eq h3]
  have := szL_le szPiece (fun x q h => (szN_ge h).2) p.list _ h4
  have := (szN_ge h3).2
  have := (szN_ge h1).2
  omega
theorem szLs_le (l : List DLetter) (q : Int) : 0 ≤ szS szLetter l q → szS szLetter l q ≤ q := fun h => by
  unfold szS at h ⊢
  obtain ⟨h3, h4⟩ := sq_ge h
  rw [sq_eq h3]
  have := szL_le szLetter (fun x q h => (szN_ge h).2) l _ h4
  have := (szN_ge h3).2
  omega
theorem szN_up (n : Nat) (q : Int) : ¬ szN n q < 0 → szN n q ≤ q := fun h => (szN_ge (by omega)).2
theorem szOut_up (n : DOut) (q : Int) : ¬ szOut n q < 0 → szOut n q ≤ q := szN_up _ _
theorem szPieces_up (n : DPieces) (q : Int) : ¬ szPieces n q < 0 → szPieces n q ≤ q := fun h => szPieces_le _ _ (by omega)
theorem szLs_up (n : List DLetter) (q : Int) : ¬ szS szLetter n q < 0 → szS szLetter n q ≤ q := fun h => szLs_le _ _ (by omega)
theorem szEnd_up (e : DEnd) (q : Int) : ¬ szEnd e q < 0 → szEnd e q ≤ q := fun h => by
  have h : 0 ≤ szEnd e q := by omega
  unfold szEnd at h ⊢
  obtain ⟨a1, h⟩ := sq_ge h; rw [sq_eq a1]
  obtain ⟨a2, h⟩ := sq_ge h; rw [sq_eq a2]
  obtain ⟨a3, h⟩ := sq_ge h; rw [sq_eq a3]
  obtain ⟨a4, h⟩ := sq_ge h; rw [sq_eq a4]
  obtain ⟨a5, h⟩ := sq_ge h; rw [sq_eq a5]
  obtain ⟨a6, h⟩ := sq_ge h; rw [sq_eq a6]
  obtain ⟨a7, h⟩ := sq_ge h; rw [sq_eq a7]
  obtain ⟨a8, h⟩ := sq_ge h; rw [sq_eq a8]
  have b1 := (szN_ge a1).2
  have b2 := (szN_ge a2).2
  have b3 := (szN_ge a3).2
  have b4 := (szN_ge a4).2
  have b5 := (szN_ge a5).2
  have b6 := szPieces_le _ _ a6
  have b7 := (szN_ge a7).2
  have b8 := (szN_ge a8).2
  show szN _ _ ≤ _
  exact Int.le_trans b8 (Int.le_trans b7 (Int.le_trans b6 (Int.le_trans b5 (Int.le_trans b4 (Int.le_trans b3 (Int.le_trans b2 b1))))))
theorem szKnown_up (k : DKnown) (q : Int) : ¬ szKnown k q < 0 → szKnown k q ≤ q := fun h => by
  have h : 0 ≤ szKnown k q := by omega
  unfold szKnown at h ⊢
  obtain ⟨a1, h⟩ := sq_ge h; rw [sq_eq a1]
  obtain ⟨a2, h⟩ := sq_ge h; rw [sq_eq a2]
  exact Int.le_trans (szN_ge a2).2 (szN_ge a1).2
/-- What fits is of moderate length. -/
theorem szEnd_B {e : DEnd} {q : Int} (hq : q ≤ 1048576) (h : ¬ szEnd e q < 0) : e.own.length ≤ 1048576 ∧ e.far.length ≤ 1048576 ∧ e.subs.length ≤ 1048576 ∧ e.halfs.length ≤ 1048576 ∧ e.out.text.length ≤ 1048576 ∧ e.inn.ready.length ≤ 1048576 ∧ e.inn.list.length ≤ 1048576 ∧ e.done.length ≤ 1048576 ∧ e.over.length ≤ 1048576 := by
  have h : 0 ≤ szEnd e q := by omega
  unfold szEnd at h
  obtain ⟨a1, h⟩ := sq_ge h
  obtain ⟨a2, h⟩ := sq_ge h
  obtain ⟨a3, h⟩ := sq_ge h
  obtain ⟨a4, h⟩ := sq_ge h
  obtain ⟨a5, h⟩ := sq_ge h
  obtain ⟨a6, h⟩ := sq_ge h
  obtain ⟨a7, h⟩ := sq_ge h
  obtain ⟨a8, h⟩ := sq_ge h
  have b1 := szN_ge a1
  have b2 := szN_ge a2
  have b3 := szN_ge a3
  have b4 := szN_ge a4
  have b5 := szN_ge a5
  have b6 := szPieces_le _ _ a6
  have b7 := szN_ge a7
  have b8 := szN_ge a8
  unfold szPieces at a6
  obtain ⟨c1, a6⟩ := sq_ge a6
  obtain ⟨c2, a6⟩ := sq_ge a6
  have d1 := szN_ge c1
  unfold szS at c2
  obtain ⟨c2, _⟩ := sq_ge c2
  have d2 := szN_ge c2
  have b5' : szOut e.out _ ≤ _ := b5.2
  refine ⟨?_, ?_, ?_, ?_, ?_, ?_, ?_, ?_, ?_⟩ <;> omega
theorem szN_m {n : Nat} {q : Int} (h : q ≤ 1048576) : szN n q ≤ 1048576 := by unfold szN; split <;> omega
theorem szOut_m {n : DOut} {q : Int} (h : q ≤ 1048576) : szOut n q ≤ 1048576 := szN_m h
theorem szPieces_m {n : DPieces} {q : Int} (h : q ≤ 1048576) : szPieces n q ≤ 1048576 := by
  by_cases h2 : szPieces n q < 0
  · omega
  · exact Int.le_trans (szPieces_up _ _ h2) h
theorem szEnd_m {n : DEnd} {q : Int} (h : q ≤ 1048576) : szEnd n q ≤ 1048576 := by
  by_cases h2 : szEnd n q < 0
  · omega
  · exact Int.le_trans (szEnd_up _ _ h2) h
theorem szKnown_m {n : DKnown} {q : Int} (h : q ≤ 1048576) : szKnown n q ≤ 1048576 := by
  by_cases h2 : szKnown n q < 0
  · omega
  · exact Int.le_trans (szKnown_up _ _ h2) h
theorem szLs_m {n : List DLetter} {q : Int} (h : q ≤ 1048576) : szS szLetter n q ≤ 1048576 := by
  by_cases h2 : szS szLetter n q < 0
  · omega
  · exact Int.le_trans (szLs_up _ _ h2) h
theorem end_W {e : DEnd} (h : wfC aEnd.cts (aEnd.to e)) : e.W := by
  simp only [wfC, wfL, LT.leaf, maxLen] at h
  obtain ⟨_, _, _, _, _, _, ⟨h1, _⟩, ⟨h2, _⟩, ⟨h3, _⟩, ⟨h4, _⟩, _, _, _, h5, _, _, _, _, h6, ⟨h7, h8⟩, ⟨h9, _⟩, ⟨h10, _⟩, _⟩ := h
  refine ⟨by omega, by omega, by omega, by omega, by omega, ⟨by omega, by omega, fun x hx => ?_⟩, by omega, by omega⟩
  have := h8 x hx (.str x.text) (by simp [ETy.lv, leavesOf, LT.leaf])
  simp only [wfL] at this
  omega
theorem endB_of {e : DEnd} (h : ¬ szEnd e 1048576 < 0) : e.B := by
  have := szEnd_B (Int.le_refl _) h
  unfold DEnd.B
  omega
theorem letter_W {x : DLetter} (h : wfC aLetter.cts (aLetter.to x)) : x.text.length ≤ 9223372036854775807 := by
  simp only [wfC, wfL, LT.leaf, maxLen] at h
  omega
theorem dEnd_iff (x y : DEnd) : x = y ↔ x.side = y.side ∧ x.state = y.state ∧ x.key = y.key ∧ x.peer = y.peer ∧ x.policy = y.policy ∧ x.own = y.own ∧ x.far = y.far ∧ x.subs = y.subs ∧ x.halfs = y.halfs ∧ x.bucket = y.bucket ∧ x.out = y.out ∧ x.inn = y.inn ∧ x.done = y.done ∧ x.over = y.over ∧ x.draw = y.draw ∧ x.now = y.now ∧ x.pick = y.pick := by
  rcases x with ⟨⟩; rcases y with ⟨⟩; simp
/-! marks -/
def mDig (k : Nat) (out : List UInt8) : List UInt8 :=
  if h : k = 0 then out else mDig (k / 10) (UInt8.ofNat (IntKind.u8.wrap (w64 (48 + (k : Int).tmod 10))).toNat :: out)
termination_by k
decreasing_by omega
def mText (k : Int) : List UInt8 := if k ≤ 0 then [109, 48] else 109 :: mDig k.toNat []

def m3 (k : Int) : Bool := k.tmod 3 == 0
theorem m3_fold (a : Int) : (a.tmod 3 == 0) = m3 a := rfl
def mkInt (k : Int) : Int := k
def mkAddr (k : Int) : DAddr := ⟨k, k + 1, m3 (k + 2), m3 (k + 3)⟩
def mkSub (k : Int) : DSub := ⟨⟨k, k + 1, k + 2⟩, k + 3, m3 (k + 4), k + 5, k + 6, k + 7, k + 8, k + 9⟩
def mkHalf (k : Int) : DHalf := ⟨⟨k, k + 1, k + 2⟩, k + 3, k + 4, k + 5, k + 6, k + 7⟩
def mkPiece (k : Int) : DPiece := ⟨k, mText (k + 1)⟩
def mkTag (k : Int) : DTag := ⟨k, k + 1, k + 2, k + 3, k + 4⟩
def mkRoad (k : Int) : DRoad := ⟨k, k + 1, k + 2⟩
def mkLetter (k : Int) : DLetter := ⟨k, k + 1, k + 2, k + 3, k + 4, k + 5, k + 6, k + 7, k + 8, ⟨k + 9, k + 10, k + 11, k + 12, k + 13⟩, k + 14, k + 15, m3 (k + 16), k + 17, mText (k + 18)⟩

/-- A list, its elements marked from k on, n numbers an element. -/
def mkL {α : Type} (mk : Int → α) (n : Nat) : List α → Int → List α
  | [], _ => []
  | _ :: l, k => mk k :: mkL mk n l (k + n)
theorem mkL_length {α : Type} (mk : Int → α) (n : Nat) : ∀ (l : List α) (k : Int), (mkL mk n l k).length = l.length
  | [], _ => rfl
  | _ :: l, k => by simp [mkL, mkL_length mk n l]
/-- Are the marks still there? -/
def hdL {α : Type} [DecidableEq α] (mk : Int → α) (n : Nat) : List α → Int → Int
  | [], k => k
  | x :: l, k => if x = mk k then hdL mk n l (k + n) else -1
theorem hdL_mkL {α : Type} [DecidableEq α] (mk : Int → α) (n : Nat) : ∀ (l : List α) (k : Int), hdL mk n (mkL mk n l k) k = k + n * l.length
  | [], k => by simp [hdL, mkL]
  | _ :: l, k => by
    rw [mkL, hdL, if_pos rfl, hdL_mkL mk n l]
    rw [List.length_cons, Int.natCast_add, Int.mul_add]
    omega

theorem mk_step {α : Type} (mk : Int → α) (n : Nat) : ∀ (a : List α) (k : Int) (i : Nat), i < a.length → (mkL mk n (a.take i) k ++ a.drop i).set (i : Int).toNat (mk (k + n * i)) = mkL mk n (a.take (i + 1)) k ++ a.drop (i + 1)
  | [], k, i, h => by simp at h
  | x :: a, k, 0, _ => by simp [mkL]
  | x :: a, k, i + 1, h => by
    have ih := mk_step mk n a (k + n) i (by simpa using h)
    simp only [Int.toNat_natCast] at ih ⊢
    simp only [List.take_succ_cons, List.drop_succ_cons, mkL, List.cons_append, List.set_cons_succ]
    rw [← ih]
    congr 3
    rw [Int.natCast_add, Int.mul_add]
    omega
theorem mk_get {α : Type} (mk : Int → α) (n : Nat) (a : List α) (k : Int) (i : Nat) (d x : α) (h : a[i]? = some x) : (mkL mk n (a.take i) k ++ a.drop i).getD (i : Int).toNat d = x := by
  obtain ⟨hi, rfl⟩ := List.getElem?_eq_some_iff.1 h
  have hl : (mkL mk n (a.take i) k).length = i := by rw [mkL_length]; simp; omega
  rw [Int.toNat_natCast, List.getD, List.getElem?_append_right (by omega), hl, Nat.sub_self]
  simp [h]
theorem mk_len {α : Type} (mk : Int → α) (n : Nat) (a : List α) (k : Int) (i : Nat) (h : i ≤ a.length) : (mkL mk n (a.take i) k ++ a.drop i).length = a.length := by
  rw [List.length_append, mkL_length]; simp; omega
theorem set_get {α : Type} (l : List α) (i : Nat) (x d : α) (h : i < l.length) : (l.set i x).getD i d = x := by
  simp [List.getD, h]
theorem w64_inc {a : Int} (h1 : 0 ≤ a) (h2 : a ≤ 2305843009213693952) : w64 (a + 1) = a + 1 := w64_id (by omega) (by omega)

theorem u8_bd (n : Int) : 0 ≤ IntKind.u8.wrap n ∧ IntKind.u8.wrap n ≤ 255 := by
  unfold IntKind.wrap
  simp [IntKind.signed, IntKind.bits]
  omega
theorem w64_div10 {j : Nat} (h : j ≤ 2305843009213693952) : w64 ((j : Int).tdiv 10) = ((j / 10 : Nat) : Int) := by
  rw [Int.tdiv_eq_ediv_of_nonneg (by omega), w64_id] <;> omega

theorem hdL_bd {α : Type} [DecidableEq α] (mk : Int → α) (n : Nat) : ∀ (l : List α) (k : Int), -1 ≤ k → -1 ≤ hdL mk n l k ∧ hdL mk n l k ≤ k + n * l.length
  | [], k, h => by simp [hdL]; exact h
  | x :: l, k, h => by
    rw [hdL]
    split
    · have := hdL_bd mk n l (k + n) (by omega)
      rw [List.length_cons, Int.natCast_add, Int.mul_add]
      omega
    · have : 0 ≤ (n : Int) * ((x :: l).length : Int) := Int.mul_nonneg (by omega) (by omega)
      omega
theorem sqid_bd {q b : Int} (h : -1 ≤ q ∧ q ≤ b) (hb : -1 ≤ b) : -1 ≤ sq q id ∧ sq q id ≤ b := by
  unfold sq
  split
  · omega
  · exact h

def KB (k : Int) (n : Nat) : Prop := 0 ≤ k ∧ k + n ≤ 1152921504606846976

def mkEnd (e : DEnd) (k : Int) : DEnd :=
  let k1 := k + 4 * e.own.length
  let k2 := k1 + 4 * e.far.length
  let k3 := k2 + 10 * e.subs.length
  let k4 := k3 + 8 * e.halfs.length
  let k5 := k4 + 2 * e.inn.list.length
  let k6 := k5 + 1 * e.done.length
  { e with own := mkL mkAddr 4 e.own k, far := mkL mkAddr 4 e.far k1, subs := mkL mkSub 10 e.subs k2, halfs := mkL mkHalf 8 e.halfs k3,
           inn := { e.inn with list := mkL mkPiece 2 e.inn.list k4 }, done := mkL mkInt 1 e.done k5, over := mkL mkInt 1 e.over k6 }
def nEnd (e : DEnd) : Nat := 4 * e.own.length + 4 * e.far.length + 10 * e.subs.length + 8 * e.halfs.length + 2 * e.inn.list.length + e.done.length + e.over.length
def hdEnd (e : DEnd) (k : Int) : Int :=
  sq (hdL mkAddr 4 e.own k) fun k => sq (hdL mkAddr 4 e.far k) fun k => sq (hdL mkSub 10 e.subs k) fun k => sq (hdL mkHalf 8 e.halfs k) fun k =>
  sq (sq (hdL mkPiece 2 e.inn.list k) id) fun k => sq (hdL mkInt 1 e.done k) fun k => sq (hdL mkInt 1 e.over k) id
theorem mkEnd_B {e : DEnd} (k : Int) (h : e.B) : (mkEnd e k).B := by
  unfold DEnd.B mkEnd
  simp only [mkL_length]
  exact h
theorem mkEnd_n (e : DEnd) (k : Int) : nEnd (mkEnd e k) = nEnd e := by
  unfold nEnd mkEnd
  simp only [mkL_length]
theorem endK_of {e : DEnd} (h : ¬ szEnd e 1048576 < 0) : KB 1 (nEnd e) := by
  have := szEnd_B (Int.le_refl _) h
  unfold KB nEnd
  omega
theorem hd_mkEnd (e : DEnd) (k : Int) (hk : 0 ≤ k) : hdEnd (mkEnd e k) k = k + nEnd e := by
  unfold hdEnd mkEnd nEnd
  dsimp only
  rw [hdL_mkL, sq_eq (by omega)]
  rw [show k + ((4 : Nat) : Int) * e.own.length = k + 4 * e.own.length from rfl, hdL_mkL, sq_eq (by omega)]
  rw [show ∀ a : Int, a + ((4 : Nat) : Int) * e.far.length = a + 4 * e.far.length from fun _ => rfl, hdL_mkL, sq_eq (by omega)]
  rw [show ∀ a : Int, a + ((10 : Nat) : Int) * e.subs.length = a + 10 * e.subs.length from fun _ => rfl, hdL_mkL, sq_eq (by omega)]
  rw [show ∀ a : Int, a + ((8 : Nat) : Int) * e.halfs.length = a + 8 * e.halfs.length from fun _ => rfl, hdL_mkL, sq_eq (q := k + _ + _ + _ + _ + _) (by omega), sq_eq (by simp only [id]; omega)]
  simp only [id]
  rw [show ∀ a : Int, a + ((2 : Nat) : Int) * e.inn.list.length = a + 2 * e.inn.list.length from fun _ => rfl, hdL_mkL, sq_eq (by omega)]
  rw [show ∀ a : Int, a + ((1 : Nat) : Int) * e.done.length = a + 1 * e.done.length from fun _ => rfl, hdL_mkL, sq_eq (by omega)]
  simp only [id]
  omega
end Go.Eng

namespace Go.Eng

/-- The place of the first element that fits, from i on; -1. -/
def findL {α : Type} (p : α → Bool) : List α → Nat → Int
  | [], _ => -1
  | x :: l, i => if p x = true then (i : Int) else findL p l (i + 1)
/-- Does one fit? -/
def anyL {α : Type} (p : α → Bool) : List α → Bool
  | [] => false
  | x :: l => if p x = true then true else anyL p l
/-- What the elements give, in order. -/
def colL {α β : Type} (f : α → Nat → Option β) : List α → Nat → List β
  | [], _ => []
  | x :: l, i => match f x i with
    | some y => y :: colL f l (i + 1)
    | none => colL f l (i + 1)
theorem colL_some {α β : Type} {f : α → Nat → Option β} {x : α} {l : List α} {i : Nat} {y : β} (h : f x i = some y) : colL f (x :: l) i = y :: colL f l (i + 1) := by rw [colL, h]
theorem colL_none {α β : Type} {f : α → Nat → Option β} {x : α} {l : List α} {i : Nat} (h : f x i = none) : colL f (x :: l) i = colL f l (i + 1) := by rw [colL, h]
theorem colL_le {α β : Type} (f : α → Nat → Option β) : ∀ (l : List α) (i : Nat), (colL f l i).length ≤ l.length
  | [], _ => Nat.le_refl _
  | x :: l, i => by
    rw [colL]
    split
    · have := colL_le f l (i + 1); simp; omega
    · have := colL_le f l (i + 1); simp; omega
theorem findL_bd {α : Type} (p : α → Bool) : ∀ (l : List α) (i : Nat), findL p l i = -1 ∨ ((i : Int) ≤ findL p l i ∧ findL p l i < i + l.length)
  | [], _ => .inl rfl
  | x :: l, i => by
    rw [findL]
    split
    · refine .inr ⟨Int.le_refl _, ?_⟩
      rw [List.length_cons]; omega
    · rcases findL_bd p l (i + 1) with h | ⟨h1, h2⟩
      · exact .inl h
      · refine .inr ⟨by omega, ?_⟩
        rw [List.length_cons]; omega

def pSub (r : DRoad) (s : DSub) : Bool := s.state != 4 && decide (s.road = r)
def mSubAt (e : DEnd) (r : DRoad) : Int := findL (pSub r) e.subs 0
theorem mSubAt_bd (e : DEnd) (r : DRoad) : mSubAt e r = -1 ∨ (0 ≤ mSubAt e r ∧ mSubAt e r < e.subs.length) := by
  have := findL_bd (pSub r) e.subs 0
  simpa [mSubAt] using this
def mOwns (e : DEnd) (addr : Int) : Bool := anyL (fun a : DAddr => a.addr == addr) e.own
def mRoadOf (x : DLetter) : DRoad := ⟨x.dst, x.src, x.port⟩
def mBetween (r : DRoad) (x : DLetter) : DLetter := { x with src := r.own, dst := r.far, port := r.port }
def fOn (s : DSub) (i : Nat) : Option Int := if s.state = 3 then some (i : Int) else none
def mOnOf (e : DEnd) : List Int := colL fOn e.subs 0
def fHave (s : DSub) (_ : Nat) : Option DRoad := if s.state ≠ 4 then some s.road else none
def mHaveOf (e : DEnd) : List DRoad := colL fHave e.subs 0
def mSignedOn (e : DEnd) (x : DLetter) : Int :=
  if mSubAt e (mRoadOf x) < 0 ∨ (e.subs.getD (mSubAt e (mRoadOf x)).toNat (ETy.zero .sub)).state ≠ 3 ∨ (e.subs.getD (mSubAt e (mRoadOf x)).toNat (ETy.zero .sub)).take ≠ x.sign then -1 else mSubAt e (mRoadOf x)
def mIn (n lo hi : Int) : Bool := decide (lo ≤ n) && decide (n ≤ hi)
end Go.Eng

namespace Go.Eng

abbrev MN : Int := 1000000000
def mNum (n : Int) : Bool := mIn n 0 1000000000
def mRoadNum (r : DRoad) : Bool := mNum r.own && mNum r.far && mNum r.port
def mPolicyOk (p : DPolicy) : Bool := if p.kind = 2 then mIn p.many 1 8 else (p.kind == 1 || p.kind == 3) && p.many == 0
def mBucketOk (b : DBucket) : Bool := mIn b.rate 0 100 && mIn b.burst 1 100 && mIn b.hav 0 b.burst
def mBucketNew (r u : Int) : DBucket × Bool := if mBucketOk ⟨r, u, u⟩ = true then (⟨r, u, u⟩, true) else (⟨0, 0, 0⟩, false)
def mTokenFor (s : Int) : Int := if mIn s 1 2 = true then w64 (100 + s) else 0
def mDrawn (e : DEnd) : DEnd × Int := if mIn e.draw 1 999999998 = true then ({ e with draw := w64 (e.draw + 2) }, e.draw) else (e, 0)
def mOutOk (o : DOut) : Bool := mNum o.base && mIn o.room 1 200 && decide ((o.text.length : Int) ≤ o.room) && mIn o.sent o.base (w64 (o.base + o.text.length))
def fAll {α : Type} (x : α) (_ : Nat) : Option α := some x
theorem colL_all {α : Type} : ∀ (l : List α) (i : Nat), colL fAll l i = l
  | [], _ => rfl
  | x :: l, i => by rw [colL_some (f := fAll) (y := x) rfl, colL_all l]
end Go.Eng

namespace Go.Eng

/-- Do all fit? -/
def allL {α : Type} (p : α → Bool) : List α → Bool
  | [] => true
  | x :: l => if p x = true then allL p l else false
/-- Does p hold at the n places from i on? -/
def allI (p : Nat → Bool) : Nat → Nat → Bool
  | 0, _ => true
  | n + 1, i => if p i = true then allI p n (i + 1) else false
theorem allI_iff (p : Nat → Bool) : ∀ n i, allI p n i = true ↔ ∀ j, i ≤ j → j < i + n → p j = true
  | 0, i => by simp only [allI, true_iff]; intro j h1 h2; omega
  | n + 1, i => by
    rw [allI]
    constructor
    · intro h
      split at h
      · rename_i hp
        have := (allI_iff p n (i + 1)).1 h
        intro j h1 h2
        rcases Nat.lt_or_eq_of_le h1 with h3 | h3
        · exact this j h3 (by omega)
        · exact h3 ▸ hp
      · cases h
    · intro h
      rw [if_pos (h i (Nat.le_refl _) (by omega))]
      exact (allI_iff p n (i + 1)).2 fun j h1 h2 => h j (by omega) (by omega)
theorem allI_step (p : Nat → Bool) {n i : Nat} (h : i < n) : allI p (n - i) i = if p i = true then allI p (n - (i + 1)) (i + 1) else false := by
  rw [show n - i = (n - (i + 1)) + 1 by omega, allI]
theorem allI_end (p : Nat → Bool) (n : Nat) : allI p (n - n) n = true := by rw [Nat.sub_self, allI]
theorem allL_iff {α : Type} (p : α → Bool) : ∀ l, allL p l = true ↔ ∀ x ∈ l, p x = true
  | [] => by simp [allL]
  | x :: l => by
    rw [allL]
    have := allL_iff p l
    split <;> rename_i h <;> simp_all

def mNums (l : List Int) : Bool := allL mNum l
def mAddrAt (l : List DAddr) (id : Int) : Int := findL (fun a : DAddr => a.id == id) l 0
def mHalfAt (l : List DHalf) (r : DRoad) : Int := findL (fun h : DHalf => decide (h.road = r)) l 0
theorem mAddrAt_bd (l : List DAddr) (id : Int) : mAddrAt l id = -1 ∨ (0 ≤ mAddrAt l id ∧ mAddrAt l id < l.length) := by
  have := findL_bd (fun a : DAddr => a.id == id) l 0
  simpa [mAddrAt] using this
theorem mHalfAt_bd (l : List DHalf) (r : DRoad) : mHalfAt l r = -1 ∨ (0 ≤ mHalfAt l r ∧ mHalfAt l r < l.length) := by
  have := findL_bd (fun h : DHalf => decide (h.road = r)) l 0
  simpa [mHalfAt] using this
abbrev gA (l : List DAddr) (i : Nat) : DAddr := l.getD i (ETy.zero .addr)
def pDiff (l : List DAddr) (i j : Nat) : Bool := !((gA l i).addr == (gA l j).addr)
def pAddr0 (l : List DAddr) (i : Nat) : Bool :=
  mIn (gA l i).id 0 255 && mIn (gA l i).addr 1 65535 && !(decide (0 < i) && decide ((gA l (i - 1)).id ≥ (gA l i).id))
def pAddr (l : List DAddr) (i : Nat) : Bool := pAddr0 l i && allI (pDiff l i) i 0
def mAddrsOk (l : List DAddr) : Bool := decide (l.length ≤ 6) && allI (pAddr l) l.length 0
abbrev gH (l : List DHalf) (i : Nat) : DHalf := l.getD i (ETy.zero .half)
def pHalf (l : List DHalf) (i : Nat) : Bool :=
  decide (mHalfAt l (gH l i).road = i) && mRoadNum (gH l i).road && mNum (gH l i).theirs && mNum (gH l i).mine && mNum (gH l i).give && mNum (gH l i).take && mNum (gH l i).til
def mHalfsOk (l : List DHalf) : Bool := decide (l.length ≤ 4) && allI (pHalf l) l.length 0
def pRise (l : List Int) (i : Nat) : Bool := !decide (l.getD (i - 1) (ETy.zero .int) ≥ l.getD i (ETy.zero .int))
def mRising (l : List Int) : Bool := allI (pRise l) (l.length - 1) 1
def pId (t : List DAddr) (n : Int) : Bool := mIn n 0 255 && !decide (mAddrAt t n ≥ 0)
def pGone (l : List Int) (t : List DAddr) (i : Nat) : Bool := (decide (i = 0) || pRise l i) && pId t (l.getD i (ETy.zero .int))
def mGone (l : List Int) (t : List DAddr) : Bool := allI (pGone l t) l.length 0
theorem mGone_eq (l : List Int) (t : List DAddr) : (if mRising l = true then allL (pId t) l else false) = mGone l t := by
  rw [Bool.eq_iff_iff]
  have h1 := allI_iff (pRise l) (l.length - 1) 1
  have h2 := allI_iff (pGone l t) l.length 0
  have h3 := allL_iff (pId t) l
  constructor
  · intro h
    split at h
    · rename_i hr
      refine h2.2 fun j _ hj => ?_
      have hj : j < l.length := by omega
      have hx : l.getD j (ETy.zero .int) = l[j] := by simp [List.getD, hj]
      have ha := h3.1 h (l.getD j (ETy.zero .int)) (hx ▸ List.getElem_mem hj)
      simp only [pGone, Bool.and_eq_true, Bool.or_eq_true, decide_eq_true_eq]
      refine ⟨?_, ha⟩
      rcases Nat.eq_zero_or_pos j with h0 | h0
      · exact .inl h0
      · exact .inr (h1.1 hr j h0 (by omega))
    · cases h
  · intro h
    have h := h2.1 h
    have hr : mRising l = true := h1.2 fun j hj1 hj2 => by
      have := h j (by omega) (by omega)
      simp only [pGone, Bool.and_eq_true, Bool.or_eq_true, decide_eq_true_eq] at this
      rcases this.1 with h0 | h0
      · omega
      · exact h0
    rw [if_pos hr]
    · refine h3.2 fun x hx => ?_
      obtain ⟨j, hj, rfl⟩ := List.getElem_of_mem hx
      have := h j (by omega) (by omega)
      simp only [pGone, Bool.and_eq_true] at this
      have hx : l.getD j (ETy.zero .int) = l[j] := by simp [List.getD, hj]
      rw [hx] at this
      exact this.2
def mNextOf (p : DPieces) : Int := w64 (p.read + (p.ready.length : Int))
def hdW : List DPiece → Int → Int
  | [], n => n
  | x :: l, n => hdW l (w64 (n + (x.text.length : Int)))
def mHeldOf (p : DPieces) : Int := hdW p.list (p.ready.length : Int)
def pOrd (x : DPiece) (e : Int) : Bool := !(x.text.length == 0) && !decide (x.pos > 2000000000) && !decide (x.pos ≤ e)
def ordL : List DPiece → Int → Bool
  | [], _ => true
  | x :: l, e => if pOrd x e = true then ordL l (w64 (x.pos + (x.text.length : Int))) else false
def mPiecesOk (p : DPieces) : Bool := mNum p.read && decide (p.list.length ≤ 20) && ordL p.list (mNextOf p) && decide (mHeldOf p ≤ 200)
abbrev gS (l : List DSub) (i : Nat) : DSub := l.getD i (ETy.zero .sub)
def pSubOk (e : DEnd) (i : Nat) : Bool :=
  mIn (gS e.subs i).state 1 4 && mRoadNum (gS e.subs i).road && mNum (gS e.subs i).mine && mNum (gS e.subs i).theirs && mNum (gS e.subs i).give && mNum (gS e.subs i).take && mNum (gS e.subs i).tries &&
  (decide ((gS e.subs i).state = 4) || decide (mSubAt e (gS e.subs i).road = i))
def mEndOk0 (e : DEnd) : Bool := mIn e.side 1 2 && mIn e.state 0 2 && mPolicyOk e.policy && mAddrsOk e.own && mAddrsOk e.far && mHalfsOk e.halfs && mBucketOk e.bucket && mOutOk e.out && mPiecesOk e.inn
def mEndOk1 (e : DEnd) : Bool := mGone e.done e.own && mGone e.over e.far && mNum e.key && mNum e.peer && mNum e.draw && mNum e.now && mNum e.pick
def mEndOk (e : DEnd) : Bool := mEndOk0 e && mEndOk1 e && decide (e.subs.length ≤ 8) && allI (pSubOk e) e.subs.length 0
end Go.Eng

namespace Go.Eng

theorem mkEnd_re (r : DEnd) (k : Int) : ({ side := r.side, state := r.state, key := r.key, peer := r.peer, policy := r.policy, own := (mkEnd r k).own, far := (mkEnd r k).far, subs := (mkEnd r k).subs, halfs := (mkEnd r k).halfs, bucket := r.bucket, out := r.out, inn := { read := r.inn.read, ready := r.inn.ready, list := (mkEnd r k).inn.list }, done := (mkEnd r k).done, over := (mkEnd r k).over, draw := r.draw, now := r.now, pick := r.pick } : DEnd) = mkEnd r k := rfl
theorem hd_mk1 (r : DEnd) : hdEnd (mkEnd r 1) 1 = 1 + (nEnd r : Int) := hd_mkEnd r 1 (by decide)
theorem lt0_1 (n : Nat) : (1 + (n : Int) < 0) = False := by simp; omega
theorem lt0_2 (n m : Nat) : (1 + (n : Int) + 19 * (m : Int) < 0) = False := by simp; omega
theorem lt0_3 (n : Nat) : (1 + 19 * (n : Int) < 0) = False := by simp; omega
theorem KB_of_B {r : DEnd} (h : r.B) : KB 1 (nEnd r) := by
  obtain ⟨h1, h2, h3, h4, h5, h6, h7⟩ := h
  unfold nEnd KB
  omega
theorem KB_letters {r : DEnd} (h : r.B) {l : List DLetter} (hl : l.length ≤ 1073741824) : KB (1 + (nEnd r : Int)) (19 * l.length) := by
  obtain ⟨h1, h2, h3, h4, h5, h6, h7⟩ := h
  unfold nEnd KB
  omega
theorem KB_letters1 {l : List DLetter} (hl : l.length ≤ 1073741824) : KB 1 (19 * l.length) := by
  unfold KB
  omega
theorem hd_letters (l : List DLetter) (k : Int) : hdL mkLetter 19 (mkL mkLetter 19 l k) k = k + 19 * (l.length : Int) := hdL_mkL mkLetter 19 l k
end Go.Eng

namespace Go.Eng

def mHas (l : List Int) (n : Int) : Bool := anyL (fun x : Int => x == n) l
def plL (id : Int) : List DAddr → Nat → Nat
  | [], i => i
  | x :: l, i => if x.id < id then plL id l (i + 1) else i
def mPutL (l : List DAddr) (a : DAddr) : List DAddr :=
  if 0 ≤ mAddrAt l a.id then l.set (mAddrAt l a.id).toNat a else l.take (plL a.id l 0) ++ [a] ++ l.drop (plL a.id l 0)
def mPutAddr (l : List DAddr) (a : DAddr) : List DAddr × Bool :=
  if mAddrsOk (mPutL l a) = true then (mPutL l a, true) else (l, false)
theorem mAddrsOk_len {l : List DAddr} (h : mAddrsOk l = true) : l.length ≤ 6 := by
  simp only [mAddrsOk, Bool.and_eq_true, decide_eq_true_eq] at h
  exact h.1
theorem mPutL_len (l : List DAddr) (a : DAddr) : (mPutL l a).length ≤ l.length + 1 ∧ l.length ≤ (mPutL l a).length := by
  unfold mPutL
  split
  · simp
  · simp; omega
theorem mPutAddr_big {l : List DAddr} {a : DAddr} (h : 6 < l.length) : mPutAddr l a = (l, false) := by
  unfold mPutAddr
  rw [if_neg]
  intro h'
  have := mAddrsOk_len h'
  have := mPutL_len l a
  omega
theorem mPutAddr_no {l : List DAddr} {a : DAddr} (h : (mPutAddr l a).2 = false) : (mPutAddr l a).1 = l := by
  unfold mPutAddr at h ⊢
  split at h
  · cases h
  · rename_i hn; rw [if_neg hn]
theorem mPutAddr_len (l : List DAddr) (a : DAddr) : (mPutAddr l a).1.length ≤ l.length + 1 := by
  unfold mPutAddr
  split
  · exact (mPutL_len l a).1
  · simp
def fUntold (a : DAddr) (_ : Nat) : Option Int := if a.told = true then none else some a.id
def mUntold (l : List DAddr) : List Int := colL fUntold l 0
def mAddOwn (e : DEnd) (a : DAddr) : DEnd × Bool :=
  if mEndOk e = true ∧ mAddrAt e.own a.id < 0 ∧ mHas e.done a.id = false then ({ e with own := (mPutAddr e.own { a with told := false }).1 }, (mPutAddr e.own { a with told := false }).2) else (e, false)
def mEndNew (side addr : Int) (p : DPolicy) : DEnd × Bool :=
  if mIn side 1 2 = true ∧ mPolicyOk p = true ∧ mAddrsOk [⟨0, addr, false, true⟩] = true then
    (⟨side, 0, 0, 0, p, [⟨0, addr, false, true⟩], [], [], [], ⟨1, 3, 3⟩, ⟨[], 0, 0, 120⟩, ⟨0, [], []⟩, [], [], w64 (1000 + side), 0, 0⟩, true)
  else (⟨0, 0, 0, 0, ⟨0, 0⟩, [], [], [], [], ⟨0, 0, 0⟩, ⟨[], 0, 0, 0⟩, ⟨0, [], []⟩, [], [], 0, 0, 0⟩, false)
def gSub (e : DEnd) (k : Int) : DSub := e.subs.getD k.toNat (ETy.zero .sub)
def fCarr (e : DEnd) (k : Int) (_ : Nat) : Option Int := if (gSub e k).spare = true then none else some k
def mCarr0 (e : DEnd) : List Int := colL (fCarr e) (mOnOf e) 0
def mCarr (e : DEnd) : List Int := if (mCarr0 e).length = 0 then mOnOf e else mCarr0 e
def mNextSub (e : DEnd) : Int :=
  if mEndOk e = true ∧ (mCarr e).length ≠ 0 then (mCarr e).getD (e.pick.tmod ((mCarr e).length : Int)).toNat (ETy.zero .int) else -1
theorem mOnOf_mem (e : DEnd) : ∀ k ∈ mOnOf e, 0 ≤ k ∧ k < (e.subs.length : Int) := by
  have : ∀ (l : List DSub) (i : Nat), ∀ k ∈ colL fOn l i, (i : Int) ≤ k ∧ k < ((i + l.length : Nat) : Int) := by
    intro l
    induction l with
    | nil => intro i k hk; simp [colL] at hk
    | cons x l ih =>
      intro i k hk
      rw [colL] at hk
      split at hk
      · rename_i y hy
        simp only [fOn] at hy
        split at hy
        · cases hy
          rcases List.mem_cons.1 hk with h | h
          · subst h; simp; omega
          · have := ih (i + 1) k h; simp at this ⊢; omega
        · cases hy
      · have := ih (i + 1) k hk; simp at this ⊢; omega
  intro k hk
  have := this e.subs 0 k hk
  simpa using this
def mAccept (o : DOut) (t : List UInt8) : DOut × Int :=
  if mOutOk o = true ∧ o.base + o.text.length + (if o.room - o.text.length < t.length then o.room - o.text.length else t.length) ≤ 1000000000 then
    ({ o with text := o.text ++ t.take (if o.room - o.text.length < t.length then o.room - o.text.length else (t.length : Int)).toNat }, if o.room - o.text.length < t.length then o.room - o.text.length else t.length)
  else (o, 0)
def mWrite (e : DEnd) (t : List UInt8) : DEnd × Int := if mEndOk e = true then ({ e with out := (mAccept e.out t).1 }, (mAccept e.out t).2) else (e, 0)
def mTakeN (p : DPieces) (n : Int) : Int := if (p.ready.length : Int) < n then p.ready.length else n
def mTakeReady (p : DPieces) (n : Int) : DPieces × List UInt8 :=
  if mPiecesOk p = true ∧ 0 ≤ n ∧ p.read + mTakeN p n ≤ 1000000000 then
    ({ p with read := p.read + mTakeN p n, ready := p.ready.drop (mTakeN p n).toNat }, p.ready.take (mTakeN p n).toNat)
  else (p, [])
def mRead (e : DEnd) (n : Int) : DEnd × List UInt8 := if mEndOk e = true then ({ e with inn := (mTakeReady e.inn n).1 }, (mTakeReady e.inn n).2) else (e, [])
def mTagAddr (m t i a : Int) : DTag := ⟨3, m, t, i, a⟩
def mTellOne (e : DEnd) (a : DAddr) : DLetter :=
  mBetween (gSub e ((mOnOf e).getD 0 (ETy.zero .int))).road ⟨8, 0, 0, 0, 0, 0, 0, 0, (gSub e ((mOnOf e).getD 0 (ETy.zero .int))).give, mTagAddr e.key e.peer a.id a.addr, a.id, a.addr, a.spare, 0, []⟩
def fTell (e : DEnd) (a : DAddr) (_ : Nat) : Option DLetter := if a.told = true then none else some (mTellOne e a)
def mTellAddrs (e : DEnd) : List DLetter :=
  if mEndOk e = true ∧ e.state = 2 ∧ (mOnOf e).length ≠ 0 then colL (fTell e) e.own 0 else []
end Go.Eng

namespace Go.Eng

theorem findL_at {α : Type} (p : α → Bool) : ∀ (l : List α) (i j : Nat) (a : α), l[j]? = some a → p a = true → (∀ k b, k < j → l[k]? = some b → p b = false) → findL p l i = ((i + j : Nat) : Int)
  | [], _, _, _, h, _, _ => by simp at h
  | x :: l, i, 0, a, h, hp, _ => by
    simp only [List.getElem?_cons_zero, Option.some.injEq] at h
    subst h
    rw [findL, if_pos hp]; rfl
  | x :: l, i, j + 1, a, h, hp, hk => by
    have h0 := hk 0 x (by omega) (by simp)
    rw [findL, if_neg (by simp [h0]), findL_at p l (i + 1) j a (by simpa using h) hp fun k b hkj hb => hk (k + 1) b (by omega) (by simpa using hb)]
    omega
theorem addrs_rise {l : List DAddr} (h : mAddrsOk l = true) : ∀ (d j : Nat), j + d + 1 < l.length → (gA l j).id < (gA l (j + d + 1)).id := by
  simp only [mAddrsOk, Bool.and_eq_true, decide_eq_true_eq] at h
  have h1 := (allI_iff (pAddr l) l.length 0).1 h.2
  have hs : ∀ j, j + 1 < l.length → (gA l j).id < (gA l (j + 1)).id := fun j hj => by
    have := h1 (j + 1) (by omega) (by omega)
    simp only [pAddr, pAddr0, Bool.and_eq_true, Bool.not_eq_true', Bool.and_eq_false_imp, decide_eq_true_eq, decide_eq_false_iff_not] at this
    have := this.1.2 (by omega)
    simp only [Nat.add_sub_cancel] at this
    omega
  intro d
  induction d with
  | zero => intro j hj; exact hs j hj
  | succ d ih =>
    intro j hj
    have h2 := ih j (by omega)
    have h3 := hs (j + d + 1) (by omega)
    rw [show j + (d + 1) + 1 = j + d + 1 + 1 by omega]
    omega
theorem addrAt_of {l : List DAddr} (h : mAddrsOk l = true) {j : Nat} {a : DAddr} (ha : l[j]? = some a) : mAddrAt l a.id = (j : Int) := by
  unfold mAddrAt
  have hj : j < l.length := (List.getElem?_eq_some_iff.1 ha).1
  have hg : gA l j = a := by simp [gA, List.getD, ha]
  rw [findL_at _ l 0 j a ha (by simp) fun k b hk hb => ?_, Nat.zero_add]
  have hgb : gA l k = b := by simp [gA, List.getD, hb]
  have := addrs_rise h (j - k - 1) k (by omega)
  rw [show k + (j - k - 1) + 1 = j by omega, hg, hgb] at this
  simp; omega
def fTellId (e : DEnd) (n : Int) (_ : Nat) : Option DLetter := some (mTellOne e (gA e.own (mAddrAt e.own n).toNat))
theorem colL_map {α β : Type} (f : α → β) : ∀ (l : List α) (i : Nat), colL (fun x _ => some (f x)) l i = l.map f
  | [], _ => rfl
  | x :: l, i => by rw [colL_some (f := fun x _ => some (f x)) (y := f x) rfl, colL_map f l]; rfl
theorem tell_eq (e : DEnd) (h : mAddrsOk e.own = true) : colL (fTellId e) (mUntold e.own) 0 = colL (fTell e) e.own 0 := by
  have gen : ∀ (m : List DAddr) (i n : Nat), (∀ j a, m[j]? = some a → mAddrAt e.own a.id = ((i + j : Nat) : Int) ∧ e.own[i + j]? = some a) → colL (fTellId e) (colL fUntold m n) 0 = colL (fTell e) m n := by
    have hm : ∀ l : List Int, ∀ i, colL (fTellId e) l i = l.map fun n => mTellOne e (gA e.own (mAddrAt e.own n).toNat) := fun l i => colL_map _ l i
    intro m
    induction m with
    | nil => intro i n _; rfl
    | cons x m ih =>
      intro i n hj
      have h0 := hj 0 x (by simp)
      have ih' := ih (i + 1) (n + 1) fun j a ha => by
        have := hj (j + 1) a (by simpa using ha)
        rw [show i + 1 + j = i + (j + 1) by omega]
        exact this
      by_cases ht : x.told = true
      · rw [colL_none (f := fUntold) (by simp [fUntold, ht]), colL_none (f := fTell e) (by simp [fTell, ht])]
        exact ih'
      · rw [colL_some (f := fUntold) (y := x.id) (by simp [fUntold, ht]), colL_some (f := fTell e) (y := mTellOne e x) (by simp [fTell, ht]), ← ih', hm, hm, List.map_cons]
        congr 2
        rw [h0.1, Int.toNat_natCast]
        have := h0.2
        simp only [gA, List.getD]
        rw [this]; rfl
  exact gen e.own 0 0 fun j a ha => by
    rw [Nat.zero_add]
    exact ⟨addrAt_of h ha, ha⟩
theorem untold_bd (e : DEnd) (h : mAddrsOk e.own = true) : ∀ n ∈ mUntold e.own, 0 ≤ mAddrAt e.own n ∧ mAddrAt e.own n < (e.own.length : Int) := by
  intro n hn
  have : ∀ (m : List DAddr) (i : Nat), n ∈ colL fUntold m i → ∃ a ∈ m, a.id = n := by
    intro m
    induction m with
    | nil => intro i h; simp [colL] at h
    | cons x m ih =>
      intro i h
      rw [colL] at h
      split at h
      · rename_i y hy
        rcases List.mem_cons.1 h with h1 | h1
        · subst h1
          simp only [fUntold] at hy
          split at hy
          · cases hy
          · cases hy; exact ⟨x, by simp, rfl⟩
        · obtain ⟨a, ha, hb⟩ := ih _ h1; exact ⟨a, by simp [ha], hb⟩
      · obtain ⟨a, ha, hb⟩ := ih _ h; exact ⟨a, by simp [ha], hb⟩
  obtain ⟨a, ha, rfl⟩ := this _ _ hn
  obtain ⟨j, hj, rfl⟩ := List.getElem_of_mem ha
  rw [addrAt_of h (List.getElem?_eq_getElem hj)]
  omega
end Go.Eng

namespace Go.Eng

theorem mIn_iff {n l h : Int} : mIn n l h = true ↔ l ≤ n ∧ n ≤ h := by simp [mIn]
theorem mNum_iff {n : Int} : mNum n = true ↔ 0 ≤ n ∧ n ≤ 1000000000 := mIn_iff
theorem endOk_split {e : DEnd} (h : mEndOk e = true) : mEndOk0 e = true ∧ mEndOk1 e = true ∧ e.subs.length ≤ 8 ∧ allI (pSubOk e) e.subs.length 0 = true := by
  simpa [mEndOk, and_assoc] using h
theorem endOk_nums {e : DEnd} (h : mEndOk e = true) : (0 ≤ e.key ∧ e.key ≤ 1000000000) ∧ (0 ≤ e.peer ∧ e.peer ≤ 1000000000) ∧ (0 ≤ e.draw ∧ e.draw ≤ 1000000000) ∧ (0 ≤ e.now ∧ e.now ≤ 1000000000) ∧ (0 ≤ e.pick ∧ e.pick ≤ 1000000000) := by
  have := (endOk_split h).2.1
  simp only [mEndOk1, Bool.and_eq_true, mNum_iff] at this
  omega
theorem endOk_pick {e : DEnd} (h : mEndOk e = true) : 0 ≤ e.pick := (endOk_nums h).2.2.2.2.1
theorem tmod_bd (l : List Int) {n : Int} (h : 0 ≤ n) : l.length ≠ 0 → (l.length : Int) ≠ 0 ∧ 0 ≤ n.tmod (l.length : Int) ∧ n.tmod (l.length : Int) < (l.length : Int) := by
  intro hl
  refine ⟨by omega, Int.tmod_nonneg _ h, ?_⟩
  rw [Int.tmod_eq_emod_of_nonneg h]
  exact Int.emod_lt_of_pos _ (by omega)
theorem outOk_bd {o : DOut} (h : mOutOk o = true) : (0 ≤ o.base ∧ o.base ≤ 1000000000) ∧ (1 ≤ o.room ∧ o.room ≤ 200) ∧ (o.text.length : Int) ≤ o.room ∧ o.base ≤ o.sent ∧ o.sent ≤ o.base + o.text.length := by
  simp only [mOutOk, Bool.and_eq_true, mNum_iff, mIn_iff, decide_eq_true_eq] at h
  obtain ⟨⟨⟨h1, h2⟩, h3⟩, h4, h5⟩ := h
  rw [w64_id (by omega) (by omega)] at h5
  omega
theorem endOk_parts {e : DEnd} (h : mEndOk e = true) : mAddrsOk e.own = true ∧ mAddrsOk e.far = true ∧ mHalfsOk e.halfs = true ∧ mBucketOk e.bucket = true ∧ mOutOk e.out = true ∧ mPiecesOk e.inn = true := by
  have := (endOk_split h).1
  simp only [mEndOk0, Bool.and_eq_true] at this
  simp [this]
theorem piecesOk_bd {p : DPieces} (h : mPiecesOk p = true) : (0 ≤ p.read ∧ p.read ≤ 1000000000) ∧ p.list.length ≤ 20 := by
  simp only [mPiecesOk, Bool.and_eq_true, mNum_iff, decide_eq_true_eq] at h
  exact ⟨h.1.1.1, h.1.1.2⟩
theorem mAddOwn_no {e : DEnd} {a : DAddr} (h : (mPutAddr e.own { a with told := false }).2 = false) : mAddOwn e a = (e, false) := by
  unfold mAddOwn
  rw [mPutAddr_no h, h]
  split <;> rfl
theorem mWrite_B {e : DEnd} (t : List UInt8) (h : e.B) : (mWrite e t).1.B := by unfold mWrite; split <;> exact h
theorem mTakeReady_list (p : DPieces) (n : Int) : (mTakeReady p n).1.list = p.list := by unfold mTakeReady; split <;> rfl
theorem mRead_B {e : DEnd} (n : Int) (h : e.B) : (mRead e n).1.B := by
  unfold mRead
  split
  · obtain ⟨h1, h2, h3, h4, h5, h6, h7⟩ := h
    exact ⟨h1, h2, h3, h4, by show (mTakeReady e.inn n).1.list.length ≤ _; rw [mTakeReady_list]; exact h5, h6, h7⟩
  · exact h
theorem mAddOwn_B {e : DEnd} (a : DAddr) (h : e.B) (h0 : e.own.length ≤ 1048576) : (mAddOwn e a).1.B := by
  unfold mAddOwn
  split
  · obtain ⟨h1, h2, h3, h4, h5, h6, h7⟩ := h
    have := mPutAddr_len e.own { a with told := false }
    exact ⟨by show (mPutAddr e.own { a with told := false }).1.length ≤ _; omega, h2, h3, h4, h5, h6, h7⟩
  · exact h
theorem mEndNew_B (s a : Int) (p : DPolicy) : (mEndNew s a p).1.B := by
  unfold mEndNew
  split <;> simp [DEnd.B]
theorem mTellAddrs_len {e : DEnd} (h : e.B) : (mTellAddrs e).length ≤ 1073741824 := by
  unfold mTellAddrs
  split
  · exact Nat.le_trans (colL_le _ _ _) h.1
  · simp
end Go.Eng

namespace Go.Eng

def lNums (x : DLetter) : List Int := [x.src, x.dst, x.port, x.key, x.token, x.nonce, x.give, x.sign, x.id, x.addr, x.pos, x.tag.kind, x.tag.one, x.tag.two, x.tag.a, x.tag.b]
def mLetterOk (x : DLetter) : Bool := mIn x.kind 1 13 && mNums (lNums x) && decide ((x.text.length : Int) ≤ 20)
theorem mNums_of {l : List Int} (h : mNums l = true) : ∀ n ∈ l, 0 ≤ n ∧ n ≤ 1000000000 := fun n hn => mNum_iff.1 ((allL_iff mNum l).1 h n hn)
theorem letterOk_bd {x : DLetter} (h : mLetterOk x = true) : (0 ≤ x.src ∧ x.src ≤ 1000000000) ∧ (0 ≤ x.dst ∧ x.dst ≤ 1000000000) ∧ (0 ≤ x.port ∧ x.port ≤ 1000000000) ∧ (0 ≤ x.pos ∧ x.pos ≤ 1000000000) ∧ x.text.length ≤ 20 := by
  simp only [mLetterOk, Bool.and_eq_true, decide_eq_true_eq] at h
  have := mNums_of h.1.2
  refine ⟨this _ (by simp [lNums]), this _ (by simp [lNums]), this _ (by simp [lNums]), this _ (by simp [lNums]), by omega⟩
end Go.Eng

namespace Go.Eng

theorem sub_frm (a b c d : Int) (e : Bool) (f g h i j : Int) : ETy.sub.frm (a, b, c, d, e, f, g, h, i, j, ()) = (⟨⟨a, b, c⟩, d, e, f, g, h, i, j⟩ : DSub) := rfl
theorem addr_frm (a b : Int) (c d : Bool) : ETy.addr.frm (a, b, c, d, ()) = (⟨a, b, c, d⟩ : DAddr) := rfl
theorem half_frm (a b c d e f g h : Int) : ETy.half.frm (a, b, c, d, e, f, g, h, ()) = (⟨⟨a, b, c⟩, d, e, f, g, h⟩ : DHalf) := rfl
theorem int_frm (a : Int) : ETy.int.frm (a, ()) = (a : Int) := rfl
theorem road_frm (a b c : Int) : ETy.road.frm (a, b, c, ()) = (⟨a, b, c⟩ : DRoad) := rfl
theorem piece_frm (a : Int) (t : List UInt8) : ETy.piece.frm (a, t, ()) = (⟨a, t⟩ : DPiece) := rfl
theorem tag_frm (a b c d e : Int) : ETy.tag.frm (a, b, c, d, e, ()) = (⟨a, b, c, d, e⟩ : DTag) := rfl
theorem letter_frm (a b c d e f g h i j k l m n o p : Int) (q : Bool) (r : Int) (s : List UInt8) : ETy.letter.frm (a, b, c, d, e, f, g, h, i, j, k, l, m, n, o, p, q, r, s, ()) = (⟨a, b, c, d, e, f, g, h, i, ⟨j, k, l, m, n⟩, o, p, q, r, s⟩ : DLetter) := rfl
abbrev tg0 : DTag := ⟨0, 0, 0, 0, 0⟩
def ltr (kind key token nonce give sign : Int) (tag : DTag) (id addr : Int) (spare : Bool) (pos : Int) (text : List UInt8) : DLetter := ⟨kind, 0, 0, 0, key, token, nonce, give, sign, tag, id, addr, spare, pos, text⟩
def mRoom (e : DEnd) : Bool := mIn e.draw 1 999999996
def mTagBack (m t a b : Int) : DTag := ⟨1, m, t, a, b⟩
def mTagDone (m t a b : Int) : DTag := ⟨2, m, t, a, b⟩
def mMet (a : Int) : List DAddr := [⟨0, a, false, true⟩]
def setSub (e : DEnd) (k : Int) (f : DSub → DSub) : DEnd := { e with subs := e.subs.set k.toNat (f (gSub e k)) }
def gHalf (e : DEnd) (k : Int) : DHalf := e.halfs.getD k.toNat (ETy.zero .half)

def mOpenRoad (e : DEnd) (far : Int) : DRoad := ⟨(e.own.getD 0 (ETy.zero .addr)).addr, far, 0⟩
def mOpen (e : DEnd) (far : Int) : DEnd × List DLetter :=
  if mEndOk e = true ∧ e.state = 0 ∧ e.own.length ≠ 0 ∧ mIn far 1 65535 = true ∧ e.subs.length < 8 ∧ mRoom e = true ∧ mSubAt e (mOpenRoad e far) < 0 then
    ({ e with state := 1, key := e.draw, draw := e.draw + 4, subs := e.subs ++ [⟨mOpenRoad e far, 1, false, 0, 0, 0, e.draw + 2, 0⟩] },
      [mBetween (mOpenRoad e far) (ltr 1 e.draw 0 0 (e.draw + 2) 0 tg0 0 0 false 0 [])])
  else (e, [])
def mHearHello (e : DEnd) (x : DLetter) : DEnd × List DLetter :=
  if mEndOk e = true ∧ mLetterOk x = true ∧ e.state = 0 ∧ mOwns e x.dst = true ∧ mIn x.src 1 65535 = true ∧ mSubAt e (mRoadOf x) < 0 ∧ e.subs.length < 8 ∧ mRoom e = true then
    ({ e with state := 2, key := e.draw, peer := x.key, far := mMet x.src, draw := e.draw + 4, subs := e.subs ++ [⟨mRoadOf x, 3, false, 0, 0, x.give, e.draw + 2, 0⟩] },
      [mBetween (mRoadOf x) (ltr 2 e.draw 0 0 (e.draw + 2) 0 tg0 0 0 false 0 [])])
  else (e, [])
def mHearBack (e : DEnd) (x : DLetter) : DEnd × List DLetter :=
  if mEndOk e = true ∧ mLetterOk x = true ∧ e.state = 1 ∧ 0 ≤ mSubAt e (mRoadOf x) ∧ (gSub e (mSubAt e (mRoadOf x))).state = 1 ∧ mIn x.src 1 65535 = true then
    ({ setSub e (mSubAt e (mRoadOf x)) (fun s => { s with state := 3, give := x.give }) with state := 2, peer := x.key, far := mMet x.src }, [mBetween (mRoadOf x) (ltr 3 0 0 0 0 0 tg0 0 0 false 0 [])])
  else (e, [])
def mJoinLetter (e : DEnd) (s : DSub) : DLetter := mBetween s.road (ltr 4 0 (mTokenFor (w64 (3 - e.side))) s.mine s.take 0 tg0 0 0 s.spare 0 [])
def mDoneLetter (e : DEnd) (s : DSub) : DLetter := mBetween s.road (ltr 6 0 0 0 0 0 (mTagDone e.key e.peer s.mine s.theirs) 0 0 false 0 [])
def mFarHas (e : DEnd) (a : Int) : Bool := anyL (fun x : DAddr => x.addr == a) e.far
/-- The last place below n whose address it is. -/
def dnL (a : Int) (l : List DAddr) : Nat → Int
  | 0 => -1
  | n + 1 => if (gA l n).addr = a then (n : Int) else dnL a l n
def mFarAt (e : DEnd) (a : Int) : Int := dnL a e.far e.far.length
theorem dnL_bd (a : Int) (l : List DAddr) : ∀ n, dnL a l n = -1 ∨ (0 ≤ dnL a l n ∧ dnL a l n < n)
  | 0 => .inl rfl
  | n + 1 => by
    rw [dnL]
    split
    · right; omega
    · rcases dnL_bd a l n with h | h
      · exact .inl h
      · right; omega
theorem anyL_iff {α : Type} (p : α → Bool) : ∀ l, anyL p l = true ↔ ∃ x ∈ l, p x = true
  | [] => by simp [anyL]
  | x :: l => by
    rw [anyL]
    have := anyL_iff p l
    split <;> rename_i h <;> simp_all
theorem dnL_iff (a : Int) (l : List DAddr) : ∀ n, n ≤ l.length → (0 ≤ dnL a l n ↔ ∃ j, j < n ∧ (gA l j).addr = a)
  | 0, _ => by simp [dnL]
  | n + 1, h => by
    rw [dnL]
    split
    · rename_i h1
      exact ⟨fun _ => ⟨n, by omega, h1⟩, fun _ => by omega⟩
    · rename_i h1
      rw [dnL_iff a l n (by omega)]
      constructor
      · rintro ⟨j, hj, ha⟩; exact ⟨j, by omega, ha⟩
      · rintro ⟨j, hj, ha⟩
        rcases Nat.lt_or_ge j n with h2 | h2
        · exact ⟨j, h2, ha⟩
        · have : j = n := by omega
          subst this; exact absurd ha h1
theorem farAt_has (e : DEnd) (a : Int) : mFarHas e a = decide (0 ≤ mFarAt e a) := by
  rw [Bool.eq_iff_iff, decide_eq_true_iff, mFarHas, anyL_iff, mFarAt, dnL_iff a e.far _ (Nat.le_refl _)]
  constructor
  · rintro ⟨x, hx, ha⟩
    obtain ⟨j, hj, rfl⟩ := List.getElem_of_mem hx
    exact ⟨j, hj, by simpa [gA, List.getD, hj] using ha⟩
  · rintro ⟨j, hj, ha⟩
    exact ⟨e.far[j], List.getElem_mem hj, by simpa [gA, List.getD, hj] using ha⟩
def mJoin (e : DEnd) (r : DRoad) (sp : Bool) : DEnd × List DLetter :=
  if mEndOk e = true ∧ e.state = 2 ∧ mRoadNum r = true ∧ mSubAt e r < 0 ∧ mOwns e r.own = true ∧ mFarHas e r.far = true ∧ e.subs.length < 8 ∧ mRoom e = true then
    ({ e with draw := e.draw + 4, subs := e.subs ++ [⟨r, 1, sp, e.draw, 0, 0, e.draw + 2, 0⟩] }, [mJoinLetter e ⟨r, 1, sp, e.draw, 0, 0, e.draw + 2, 0⟩])
  else (e, [])
def mTakeOne (b : DBucket) : DBucket × Bool := if mBucketOk b = true ∧ b.hav ≠ 0 then ({ b with hav := b.hav - 1 }, true) else (b, false)
def mPutHalfL (l : List DHalf) (h : DHalf) : List DHalf := if 0 ≤ mHalfAt l h.road then l.set (mHalfAt l h.road).toNat h else l ++ [h]
def mPutHalf (l : List DHalf) (h : DHalf) : List DHalf × Bool := if mHalfsOk (mPutHalfL l h) = true then (mPutHalfL l h, true) else (l, false)
def mDropHalf (l : List DHalf) (r : DRoad) : List DHalf := if mHalfAt l r < 0 then l else l.take (mHalfAt l r).toNat ++ l.drop ((mHalfAt l r).toNat + 1)
def mJoinHalf (e : DEnd) (x : DLetter) : DHalf :=
  if 0 ≤ mHalfAt e.halfs (mRoadOf x) ∧ (gHalf e (mHalfAt e.halfs (mRoadOf x))).theirs = x.nonce ∧ (gHalf e (mHalfAt e.halfs (mRoadOf x))).give = x.give then
    { gHalf e (mHalfAt e.halfs (mRoadOf x)) with til := e.now + 6 }
  else ⟨mRoadOf x, x.nonce, e.draw, x.give, e.draw + 2, e.now + 6⟩
def mJoinDraw (e : DEnd) (x : DLetter) : Int :=
  if 0 ≤ mHalfAt e.halfs (mRoadOf x) ∧ (gHalf e (mHalfAt e.halfs (mRoadOf x))).theirs = x.nonce ∧ (gHalf e (mHalfAt e.halfs (mRoadOf x))).give = x.give then e.draw else e.draw + 4
def mHearJoin (e : DEnd) (x : DLetter) : DEnd × List DLetter :=
  if (mEndOk e = true ∧ mLetterOk x = true ∧ e.state = 2 ∧ x.token = mTokenFor e.side ∧ mOwns e x.dst = true ∧ e.subs.length < 8 ∧ (0 ≤ mHalfAt e.halfs (mRoadOf x) ∨ e.halfs.length < 4) ∧ mRoom e = true ∧ e.now ≤ 999999994) ∧ (mTakeOne e.bucket).2 = true then
    ({ e with bucket := (mTakeOne e.bucket).1, draw := mJoinDraw e x, halfs := (mPutHalf e.halfs (mJoinHalf e x)).1 },
      [mBetween (mRoadOf x) (ltr 5 0 0 (mJoinHalf e x).mine (mJoinHalf e x).take 0 (mTagBack e.key e.peer (mJoinHalf e x).mine (mJoinHalf e x).theirs) 0 0 false 0 [])])
  else (e, [])
def mHearJoinBack (e : DEnd) (x : DLetter) : DEnd × List DLetter :=
  if mEndOk e = true ∧ mLetterOk x = true ∧ e.state = 2 ∧ 0 ≤ mSubAt e (mRoadOf x) ∧ (gSub e (mSubAt e (mRoadOf x))).state = 1 ∧ x.tag = mTagBack e.peer e.key x.nonce (gSub e (mSubAt e (mRoadOf x))).mine then
    (setSub e (mSubAt e (mRoadOf x)) (fun s => { s with state := 2, theirs := x.nonce, give := x.give, tries := 0 }),
      [mDoneLetter e { gSub e (mSubAt e (mRoadOf x)) with state := 2, theirs := x.nonce, give := x.give, tries := 0 }])
  else (e, [])
def mAck (r : DRoad) (give : Int) : DLetter := mBetween r (ltr 7 0 0 0 0 give tg0 0 0 false 0 [])
def mGoneAt (l : List DSub) (k : Int) : List DSub := if 0 ≤ k then l.set k.toNat { l.getD k.toNat (ETy.zero .sub) with state := 4 } else l
def mHearJoinDone (e : DEnd) (x : DLetter) : DEnd × List DLetter :=
  if mEndOk e = true ∧ mLetterOk x = true ∧ e.state = 2 then
    if 0 ≤ mHalfAt e.halfs (mRoadOf x) ∧ e.subs.length < 8 ∧ x.tag = mTagDone e.peer e.key (gHalf e (mHalfAt e.halfs (mRoadOf x))).theirs (gHalf e (mHalfAt e.halfs (mRoadOf x))).mine then
      ({ e with subs := mGoneAt e.subs (mSubAt e (mRoadOf x)) ++ [⟨mRoadOf x, 3, false, (gHalf e (mHalfAt e.halfs (mRoadOf x))).mine, (gHalf e (mHalfAt e.halfs (mRoadOf x))).theirs, (gHalf e (mHalfAt e.halfs (mRoadOf x))).give, (gHalf e (mHalfAt e.halfs (mRoadOf x))).take, 0⟩], halfs := mDropHalf e.halfs (mRoadOf x) },
        [mAck (mRoadOf x) (gHalf e (mHalfAt e.halfs (mRoadOf x))).give])
    else if 0 ≤ mSubAt e (mRoadOf x) ∧ (gSub e (mSubAt e (mRoadOf x))).state = 3 ∧ x.tag = mTagDone e.peer e.key (gSub e (mSubAt e (mRoadOf x))).theirs (gSub e (mSubAt e (mRoadOf x))).mine then
      (e, [mAck (mRoadOf x) (gSub e (mSubAt e (mRoadOf x))).give])
    else (e, [])
  else (e, [])
def mHearJoinAck (e : DEnd) (x : DLetter) : DEnd × List DLetter :=
  if mEndOk e = true ∧ mLetterOk x = true ∧ 0 ≤ mSubAt e (mRoadOf x) ∧ (gSub e (mSubAt e (mRoadOf x))).state = 2 ∧ (gSub e (mSubAt e (mRoadOf x))).take = x.sign then
    (setSub e (mSubAt e (mRoadOf x)) (fun s => { s with state := 3 }), [])
  else (e, [])
def mL20On (e : DEnd) (x : DLetter) : Int := if mEndOk e = true ∧ mLetterOk x = true then mSignedOn e x else -1
def mHearAddr (e : DEnd) (x : DLetter) : DEnd × List DLetter :=
  if mEndOk e = true ∧ mLetterOk x = true ∧ 0 ≤ mSignedOn e x ∧ x.tag = mTagAddr e.peer e.key x.id x.addr ∧ mHas e.over x.id = false ∧ ¬(0 ≤ mAddrAt e.far x.id ∧ (e.far.getD (mAddrAt e.far x.id).toNat (ETy.zero .addr)).addr ≠ x.addr) ∧ (mPutAddr e.far ⟨x.id, x.addr, x.spare, true⟩).2 = true then
    ({ e with far := (mPutAddr e.far ⟨x.id, x.addr, x.spare, true⟩).1 }, [mBetween (mRoadOf x) (ltr 9 0 0 0 0 (gSub e (mSignedOn e x)).give tg0 x.id x.addr false 0 [])])
  else (e, [])
def mHearEcho (e : DEnd) (x : DLetter) : DEnd × List DLetter :=
  if mEndOk e = true ∧ mLetterOk x = true ∧ 0 ≤ mSignedOn e x ∧ 0 ≤ mAddrAt e.own x.id ∧ (e.own.getD (mAddrAt e.own x.id).toNat (ETy.zero .addr)).addr = x.addr then
    ({ e with own := e.own.set (mAddrAt e.own x.id).toNat { e.own.getD (mAddrAt e.own x.id).toNat (ETy.zero .addr) with told := true } }, [])
  else (e, [])
def mDropAddr (l : List DAddr) (id : Int) : List DAddr × Bool := if mAddrAt l id < 0 then (l, false) else (l.take (mAddrAt l id).toNat ++ l.drop ((mAddrAt l id).toNat + 1), true)
def plN (n : Int) : List Int → Nat → Nat
  | [], i => i
  | x :: l, i => if x < n then plN n l (i + 1) else i
def mPut (l : List Int) (n : Int) : List Int :=
  if plN n l 0 < l.length ∧ l.getD (plN n l 0) (ETy.zero .int) = n then l else l.take (plN n l 0) ++ [n] ++ l.drop (plN n l 0)
def goneIf (p : DSub → Bool) (l : List DSub) : List DSub := l.map fun s => if p s = true then { s with state := 4 } else s
def mDropLetter (id : Int) (s : DSub) : DLetter := mBetween s.road (ltr 10 0 0 0 0 s.give tg0 id 0 false 0 [])
def mDropEnd (e : DEnd) (id : Int) : DEnd :=
  { e with own := (mDropAddr e.own id).1, done := mPut e.done id, subs := goneIf (fun s => s.road.own == (e.own.getD (mAddrAt e.own id).toNat (ETy.zero .addr)).addr) e.subs }
def mDropOwn (e : DEnd) (id : Int) : DEnd × List DLetter :=
  if mEndOk e = true ∧ e.state = 2 ∧ 0 ≤ mAddrAt e.own id then
    (mDropEnd e id, (mOnOf (mDropEnd e id)).map fun k => mDropLetter id (gSub (mDropEnd e id) k))
  else (e, [])
def mHearGone (e : DEnd) (x : DLetter) : DEnd × List DLetter :=
  if mEndOk e = true ∧ mLetterOk x = true ∧ 0 ≤ mSignedOn e x ∧ 0 ≤ mAddrAt e.far x.id then
    ({ e with far := (mDropAddr e.far x.id).1, over := mPut e.over x.id, subs := goneIf (fun s => s.road.far == (e.far.getD (mAddrAt e.far x.id).toNat (ETy.zero .addr)).addr) e.subs }, [])
  else (e, [])
def mCame (o : DOut) (u : Int) : DOut :=
  if mOutOk o = true ∧ o.base < u ∧ u ≤ o.base + o.text.length then { o with text := o.text.drop (u - o.base).toNat, base := u, sent := if o.sent < u then u else o.sent } else o
def mHearCame (e : DEnd) (x : DLetter) : DEnd × List DLetter :=
  if mEndOk e = true ∧ mLetterOk x = true ∧ 0 ≤ mSignedOn e x then ({ e with out := mCame e.out x.pos }, []) else (e, [])
def mReset (e : DEnd) (k : Int) : DEnd × List DLetter :=
  if mEndOk e = true ∧ 0 ≤ k ∧ k < (e.subs.length : Int) ∧ (gSub e k).state = 3 then
    (setSub e k (fun s => { s with state := 4 }), [mBetween (gSub e k).road (ltr 13 0 0 0 0 (gSub e k).give tg0 0 0 false 0 [])])
  else (e, [])
def mHearReset (e : DEnd) (x : DLetter) : DEnd × List DLetter :=
  if mEndOk e = true ∧ mLetterOk x = true ∧ 0 ≤ mSignedOn e x then (setSub e (mSignedOn e x) (fun s => { s with state := 4 }), []) else (e, [])
def mNextPiece (o : DOut) : DPiece × Bool :=
  if mOutOk o = true ∧ o.sent ≠ o.base + o.text.length then (⟨o.sent, (o.text.drop (o.sent - o.base).toNat).take 20⟩, true) else (⟨0, []⟩, false)
def mWasSent (o : DOut) : DOut := { o with sent := o.sent + ((mNextPiece o).1.text.length : Int) }
def mPush (e : DEnd) : DEnd × List DLetter :=
  if (mNextPiece e.out).2 = true ∧ 0 ≤ mNextSub e then
    ({ e with out := mWasSent e.out, pick := if e.pick ≥ 1000000000 then 0 else e.pick + 1 },
      [mBetween (gSub e (mNextSub e)).road (ltr 11 0 0 0 0 (gSub e (mNextSub e)).give tg0 0 0 false (mNextPiece e.out).1.pos (mNextPiece e.out).1.text)])
  else (e, [])
theorem room_bd {e : DEnd} (h : mRoom e = true) : 1 ≤ e.draw ∧ e.draw ≤ 999999996 ∧ w64 (e.draw + 2) = e.draw + 2 ∧ w64 (e.draw + 4) = e.draw + 4 ∧ w64 (e.draw + 2 + 2) = e.draw + 4 := by
  have := mIn_iff.1 h
  refine ⟨this.1, this.2, ?_, ?_, ?_⟩ <;> (rw [w64_id (by omega) (by omega)]; try omega)
theorem mSignedOn_bd (e : DEnd) (x : DLetter) : mSignedOn e x = -1 ∨ (0 ≤ mSignedOn e x ∧ mSignedOn e x < e.subs.length) := by
  have := mSubAt_bd e (mRoadOf x)
  unfold mSignedOn
  split <;> omega
end Go.Eng

namespace Go.Eng

theorem bucketOk_bd {b : DBucket} (h : mBucketOk b = true) : (0 ≤ b.rate ∧ b.rate ≤ 100) ∧ (1 ≤ b.burst ∧ b.burst ≤ 100) ∧ 0 ≤ b.hav ∧ b.hav ≤ b.burst := by
  simp only [mBucketOk, Bool.and_eq_true, mIn_iff] at h
  omega
theorem take_w {b : DBucket} (h : mBucketOk b = true) : w64 (b.hav - 1) = b.hav - 1 := by
  have := bucketOk_bd h
  exact w64_id (by omega) (by omega)
theorem mHalfsOk_len {l : List DHalf} (h : mHalfsOk l = true) : l.length ≤ 4 := by
  simp only [mHalfsOk, Bool.and_eq_true, decide_eq_true_eq] at h
  exact h.1
theorem nextPiece_len (o : DOut) : (mNextPiece o).1.text.length ≤ 20 := by
  unfold mNextPiece
  split
  · simp; omega
  · simp
theorem mCarr_mem (e : DEnd) : ∀ k ∈ mCarr e, 0 ≤ k ∧ k < (e.subs.length : Int) := by
  intro k hk
  unfold mCarr at hk
  split at hk
  · exact mOnOf_mem e k hk
  · have : ∀ (l : List Int) (i : Nat), k ∈ colL (fCarr e) l i → k ∈ l := by
      intro l
      induction l with
      | nil => intro i h; simp [colL] at h
      | cons x l ih =>
        intro i h
        rw [colL] at h
        split at h
        · rename_i y hy
          simp only [fCarr] at hy
          split at hy
          · cases hy
          · cases hy
            rcases List.mem_cons.1 h with h | h
            · simp [h]
            · simp [ih _ h]
        · simp [ih _ h]
    exact mOnOf_mem e k (this _ _ hk)
theorem mNextSub_bd (e : DEnd) : mNextSub e = -1 ∨ (0 ≤ mNextSub e ∧ mNextSub e < (e.subs.length : Int)) := by
  unfold mNextSub
  split
  · rename_i h
    have := tmod_bd (mCarr e) (endOk_pick h.1) h.2
    right
    apply mCarr_mem
    have hlt : (e.pick.tmod ((mCarr e).length : Int)).toNat < (mCarr e).length := by omega
    rw [List.getD, List.getElem?_eq_getElem hlt]
    exact List.getElem_mem _
  · exact .inl rfl
theorem nextSub_ok {e : DEnd} (h : 0 ≤ mNextSub e) : mEndOk e = true := by
  unfold mNextSub at h
  split at h
  · rename_i h'; exact h'.1
  · omega
theorem findL_ok {α : Type} (p : α → Bool) (d : α) : ∀ (l : List α) (i : Nat), 0 ≤ findL p l i → p (l.getD (findL p l i - i).toNat d) = true
  | [], i, h => by simp [findL] at h
  | x :: l, i, h => by
    rw [findL] at h ⊢
    split
    · rename_i hp
      simpa using hp
    · rename_i hp
      rw [if_neg hp] at h
      have ih := findL_ok p d l (i + 1) h
      rcases findL_bd p l (i + 1) with h1 | ⟨h1, h2⟩
      · omega
      · have : (findL p l (i + 1) - (i : Int)).toNat = (findL p l (i + 1) - ((i + 1 : Nat) : Int)).toNat + 1 := by omega
        rw [this, List.getD_cons_succ]
        exact ih
theorem mSubAt_road {e : DEnd} {r : DRoad} (h : 0 ≤ mSubAt e r) : (gSub e (mSubAt e r)).road = r ∧ (gSub e (mSubAt e r)).state ≠ 4 := by
  have := findL_ok (pSub r) (ETy.zero .sub) e.subs 0 h
  simp only [Int.natCast_zero, Int.sub_zero, pSub, Bool.and_eq_true, decide_eq_true_eq, bne_iff_ne] at this
  exact ⟨this.2, this.1⟩
theorem mHalfAt_road {l : List DHalf} {r : DRoad} (h : 0 ≤ mHalfAt l r) : (l.getD (mHalfAt l r).toNat (ETy.zero .half)).road = r := by
  have := findL_ok (fun h : DHalf => decide (h.road = r)) (ETy.zero .half) l 0 h
  simp only [Int.natCast_zero, Int.sub_zero, decide_eq_true_eq] at this
  exact this
def mAnew (o : DOut) : DOut := if mOutOk o = true then { o with sent := o.base } else o
def mFilled (b : DBucket) : DBucket := if mBucketOk b = true then { b with hav := if b.hav + b.rate < b.burst then b.hav + b.rate else b.burst } else b
theorem nextPiece_ok {o : DOut} (h : (mNextPiece o).2 = true) : mOutOk o = true := by
  unfold mNextPiece at h
  split at h
  · rename_i h'; exact h'.1
  · cases h
theorem now_w {e : DEnd} (h : mEndOk e = true) : w64 (e.now + 6) = e.now + 6 := by
  have := endOk_nums h
  exact w64_id (by omega) (by omega)
theorem findL_same {α : Type} (p : α → Bool) : ∀ (l m : List α) (i : Nat), l.map p = m.map p → findL p l i = findL p m i
  | [], [], _, _ => rfl
  | [], _ :: _, _, h => by simp at h
  | _ :: _, [], _, h => by simp at h
  | x :: l, y :: m, i, h => by
    simp only [List.map_cons, List.cons.injEq] at h
    rw [findL, findL, h.1, findL_same p l m (i + 1) h.2]
theorem half_map (l : List DHalf) (k : Nat) (t : Int) (r : DRoad) : (l.set k { l.getD k (ETy.zero .half) with til := t }).map (fun h : DHalf => decide (h.road = r)) = l.map (fun h : DHalf => decide (h.road = r)) := by
  rw [List.map_set]
  apply List.ext_getElem?
  intro j
  rw [List.getElem?_set]
  split
  · rename_i hkj
    subst hkj
    split
    · rename_i hk
      simp only [List.length_map] at hk
      simp [List.getD, hk]
    · rename_i hk
      simp only [List.length_map] at hk
      simp [List.getElem?_eq_none (Nat.le_of_not_lt hk)]
  · rfl
theorem halfs_til {l : List DHalf} (h : mHalfsOk l = true) (k : Nat) {t : Int} (ht : mNum t = true) : mHalfsOk (l.set k { l.getD k (ETy.zero .half) with til := t }) = true := by
  simp only [mHalfsOk, Bool.and_eq_true, decide_eq_true_eq, List.length_set] at h ⊢
  refine ⟨h.1, (allI_iff _ _ _).2 fun j _ hj => ?_⟩
  have hj' : j < l.length := by omega
  have ho := (allI_iff _ _ _).1 h.2 j (by omega) hj
  have hat : ∀ r, mHalfAt (l.set k { l.getD k (ETy.zero .half) with til := t }) r = mHalfAt l r := fun r => findL_same _ _ _ 0 (half_map l k t r)
  by_cases hkj : k = j
  · subst hkj
    have hg : gH (l.set k { l.getD k (ETy.zero .half) with til := t }) k = { gH l k with til := t } := by simp [gH, List.getD, hj']
    simp only [pHalf, hg, hat] at ho ⊢
    simp only [Bool.and_eq_true] at ho ⊢
    exact ⟨ho.1, ht⟩
  · have hg : gH (l.set k { l.getD k (ETy.zero .half) with til := t }) j = gH l j := by simp [gH, List.getD, List.getElem?_set, hkj]
    simp only [pHalf, hg, hat] at ho ⊢
    exact ho
theorem putHalf_til {l : List DHalf} {r : DRoad} {t : Int} (h : mHalfsOk l = true) (hk : 0 ≤ mHalfAt l r) (ht : mNum t = true) :
    mPutHalf l { l.getD (mHalfAt l r).toNat (ETy.zero .half) with til := t } = (l.set (mHalfAt l r).toNat { l.getD (mHalfAt l r).toNat (ETy.zero .half) with til := t }, true) := by
  have hr := mHalfAt_road hk
  have hl : mPutHalfL l { l.getD (mHalfAt l r).toNat (ETy.zero .half) with til := t } = l.set (mHalfAt l r).toNat { l.getD (mHalfAt l r).toNat (ETy.zero .half) with til := t } := by
    unfold mPutHalfL
    simp only [hr]
    rw [if_pos hk]
  unfold mPutHalf
  rw [hl, if_pos (halfs_til h _ ht)]
theorem joinHalf_til {e : DEnd} {r : DRoad} (h : mEndOk e = true) (hk : 0 ≤ mHalfAt e.halfs r) (hn : e.now ≤ 999999994) :
    mPutHalf e.halfs { e.halfs.getD (mHalfAt e.halfs r).toNat (ETy.zero .half) with til := e.now + 6 } = (e.halfs.set (mHalfAt e.halfs r).toNat { e.halfs.getD (mHalfAt e.halfs r).toNat (ETy.zero .half) with til := e.now + 6 }, true) :=
  putHalf_til (endOk_parts h).2.2.1 hk (mNum_iff.2 ⟨by have := endOk_nums h; omega, by omega⟩)
end Go.Eng

namespace Go.Eng

def goneG (p : DSub → Bool) (s : DSub) : DSub := if p s = true then { s with state := 4 } else s
theorem goneIf_eq (p : DSub → Bool) (l : List DSub) : goneIf p l = l.map (goneG p) := rfl
theorem map_get {α : Type} (g : α → α) (l : List α) (i : Nat) (d x : α) (h : l[i]? = some x) : ((l.take i).map g ++ l.drop i).getD i d = x := by
  have hi : i < l.length := (List.getElem?_eq_some_iff.1 h).1
  have hl : ((l.take i).map g).length = i := by simp; omega
  rw [List.getD, List.getElem?_append_right (by omega), hl, Nat.sub_self]
  simp [h]
theorem map_step {α : Type} (g : α → α) (l : List α) (i : Nat) (x : α) (h : l[i]? = some x) : ((l.take i).map g ++ l.drop i).set i (g x) = (l.take (i + 1)).map g ++ l.drop (i + 1) := by
  obtain ⟨hi, hx⟩ := List.getElem?_eq_some_iff.1 h
  have hl : ((l.take i).map g).length = i := by simp; omega
  rw [List.set_append_right i (g x) (by omega), hl, Nat.sub_self, List.take_add_one, List.map_append, h]
  have : l.drop i = x :: l.drop (i + 1) := by rw [List.drop_eq_getElem_cons hi, hx]
  rw [this]
  simp
theorem map_same {α : Type} (g : α → α) (l : List α) (i : Nat) (x : α) (h : l[i]? = some x) (hg : g x = x) : (l.take i).map g ++ l.drop i = (l.take (i + 1)).map g ++ l.drop (i + 1) := by
  obtain ⟨hi, hx⟩ := List.getElem?_eq_some_iff.1 h
  rw [List.take_add_one, List.map_append, h]
  have : l.drop i = x :: l.drop (i + 1) := by rw [List.drop_eq_getElem_cons hi, hx]
  rw [this]
  simp [hg]
/-- What is still to come when a number is put into a rising list. -/
def putR (n : Int) : List Int → Bool → List Int
  | [], b => if b = true then [] else [n]
  | x :: l, b => if b = false ∧ n ≤ x then (if n < x then n :: x :: putR n l true else x :: putR n l true) else x :: putR n l b
theorem putR_true (n : Int) : ∀ l, putR n l true = l
  | [] => rfl
  | x :: l => by simp [putR, putR_true n l]
theorem plN_le (n : Int) : ∀ (l : List Int) (i : Nat), i ≤ plN n l i
  | [], i => Nat.le_refl _
  | x :: l, i => by
    rw [plN]
    split
    · have := plN_le n l (i + 1); omega
    · exact Nat.le_refl _
theorem plN_add (n : Int) : ∀ (l : List Int) (i : Nat), plN n l i = i + plN n l 0
  | [], i => rfl
  | x :: l, i => by
    rw [plN, plN]
    split
    · rw [plN_add n l (i + 1), plN_add n l (0 + 1)]; omega
    · omega
theorem putR_mPut (n : Int) : ∀ l, putR n l false = mPut l n
  | [] => rfl
  | x :: l => by
    rw [putR]
    have ih := putR_mPut n l
    unfold mPut at ih ⊢
    rw [plN]
    by_cases h : x < n
    · rw [if_pos h, if_neg (by omega), plN_add n l (0 + 1), ih]
      simp only [Nat.zero_add, List.length_cons]
      rw [show 1 + plN n l 0 = plN n l 0 + 1 by omega]
      by_cases h2 : plN n l 0 < l.length ∧ l.getD (plN n l 0) (ETy.zero .int) = n
      · rw [if_pos h2, if_pos (by simpa using h2)]
      · rw [if_neg h2, if_neg (by simpa using h2)]
        simp
    · rw [if_neg h, if_pos (by simp; omega)]
      by_cases h2 : n < x
      · rw [if_pos h2, if_neg (by simp; omega), putR_true]; simp
      · rw [if_neg h2, if_pos (by simp; omega), putR_true]
theorem mGone_len {l : List Int} {t : List DAddr} (h : mGone l t = true) : l.length ≤ 256 := by
  have ha := (allI_iff _ _ _).1 h
  have hg : ∀ j, j < l.length → (j : Int) ≤ l.getD j (ETy.zero .int) ∧ l.getD j (ETy.zero .int) ≤ 255 := by
    intro j
    induction j with
    | zero =>
      intro hj
      have := ha 0 (by omega) (by omega)
      simp only [pGone, pId, Bool.and_eq_true, mIn_iff] at this
      exact ⟨by simpa using this.2.1.1, this.2.1.2⟩
    | succ j ih =>
      intro hj
      have h1 := ih (by omega)
      have := ha (j + 1) (by omega) (by omega)
      simp only [pGone, pId, pRise, Bool.and_eq_true, mIn_iff, Bool.or_eq_true, decide_eq_true_eq, Bool.not_eq_true', decide_eq_false_iff_not, Nat.add_sub_cancel] at this
      refine ⟨?_, this.2.1.2⟩
      rcases this.1 with h2 | h2
      · omega
      · have h2 := Int.not_le.1 h2
        have h3 : l.getD j (ETy.zero .int) < l.getD (j + 1) (ETy.zero .int) := h2
        omega
  by_cases h0 : l.length = 0
  · omega
  · have := hg (l.length - 1) (by omega)
    omega
theorem mPut_len (l : List Int) (n : Int) : (mPut l n).length ≤ l.length + 1 := by
  unfold mPut
  split
  · omega
  · simp; omega
theorem mDropAddr_len (l : List DAddr) (n : Int) : (mDropAddr l n).1.length ≤ l.length := by
  unfold mDropAddr
  split
  · exact Nat.le_refl _
  · simp; omega
theorem endOk_ids {e : DEnd} (h : mEndOk e = true) : e.done.length ≤ 256 ∧ e.over.length ≤ 256 := by
  have := (endOk_split h).2.1
  simp only [mEndOk1, Bool.and_eq_true] at this
  exact ⟨mGone_len this.1.1.1.1.1.1, mGone_len this.1.1.1.1.1.2⟩
def fDrop (e : DEnd) (id : Int) (k : Int) (_ : Nat) : Option DLetter := some (mDropLetter id (gSub (mDropEnd e id) k))
theorem fDrop_eq (e : DEnd) (id : Int) (l : List Int) : colL (fDrop e id) l 0 = l.map fun k => mDropLetter id (gSub (mDropEnd e id) k) := colL_map _ l 0
theorem mDropEnd_B {e : DEnd} {id : Int} (h : e.B) (ho : mEndOk e = true) : (mDropEnd e id).B := by
  obtain ⟨h1, h2, h3, h4, h5, h6, h7⟩ := h
  have := endOk_ids ho
  have := mPut_len e.done id
  have := mDropAddr_len e.own id
  refine ⟨?_, h2, ?_, h4, h5, ?_, h7⟩
  · show (mDropAddr e.own id).1.length ≤ _; omega
  · show (goneIf _ e.subs).length ≤ _; rw [goneIf_eq, List.length_map]; exact h3
  · show (mPut e.done id).length ≤ _; omega
end Go.Eng

namespace Go.Eng
theorem mPutHalf_len (l : List DHalf) (h : DHalf) : (mPutHalf l h).1.length ≤ l.length + 1 := by
  have h1 : (mPutHalfL l h).length ≤ l.length + 1 := by unfold mPutHalfL; split <;> simp
  unfold mPutHalf
  split
  · exact h1
  · exact Nat.le_succ _
theorem mDropHalf_len (l : List DHalf) (r : DRoad) : (mDropHalf l r).length ≤ l.length := by
  unfold mDropHalf
  split
  · exact Nat.le_refl _
  · simp; omega
theorem mGoneAt_len (l : List DSub) (k : Int) : (mGoneAt l k).length = l.length := by
  unfold mGoneAt
  split <;> simp
theorem goneIf_len (p : DSub → Bool) (l : List DSub) : (goneIf p l).length = l.length := by simp [goneIf]
theorem mOpen_B {e : DEnd} (f : Int) (h : e.B) : (mOpen e f).1.B := by
  obtain ⟨h1, h2, h3, h4, h5, h6, h7⟩ := id h
  unfold mOpen
  repeat' split
  all_goals first | exact h | (rename_i hc; have h8 := (endOk_split hc.1).2.2.1; have h9 := endOk_ids hc.1; have ha := mAddrsOk_len (endOk_parts hc.1).2.1; have hz := mHalfsOk_len (endOk_parts hc.1).2.2.1) | (rename_i hc _; have h8 := (endOk_split hc.1).2.2.1; have h9 := endOk_ids hc.1; have ha := mAddrsOk_len (endOk_parts hc.1).2.1; have hz := mHalfsOk_len (endOk_parts hc.1).2.2.1) | (rename_i hc; have h8 := (endOk_split hc.1.1).2.2.1; have h9 := endOk_ids hc.1.1; have ha := mAddrsOk_len (endOk_parts hc.1.1).2.1; have hz := mHalfsOk_len (endOk_parts hc.1.1).2.2.1) | skip
  all_goals (unfold DEnd.B at h ⊢; simp only [setSub, mMet, List.length_append, List.length_set, List.length_cons, List.length_nil, goneIf_len, mGoneAt_len]; omega)
theorem mOpen_len (e : DEnd) (f : Int) : (mOpen e f).2.length ≤ 1073741824 := by
  unfold mOpen
  repeat' split
  all_goals simp
theorem mHearHello_B {e : DEnd} (x : DLetter) (h : e.B) : (mHearHello e x).1.B := by
  obtain ⟨h1, h2, h3, h4, h5, h6, h7⟩ := id h
  unfold mHearHello
  repeat' split
  all_goals first | exact h | (rename_i hc; have h8 := (endOk_split hc.1).2.2.1; have h9 := endOk_ids hc.1; have ha := mAddrsOk_len (endOk_parts hc.1).2.1; have hz := mHalfsOk_len (endOk_parts hc.1).2.2.1) | (rename_i hc _; have h8 := (endOk_split hc.1).2.2.1; have h9 := endOk_ids hc.1; have ha := mAddrsOk_len (endOk_parts hc.1).2.1; have hz := mHalfsOk_len (endOk_parts hc.1).2.2.1) | (rename_i hc; have h8 := (endOk_split hc.1.1).2.2.1; have h9 := endOk_ids hc.1.1; have ha := mAddrsOk_len (endOk_parts hc.1.1).2.1; have hz := mHalfsOk_len (endOk_parts hc.1.1).2.2.1) | skip
  all_goals (unfold DEnd.B at h ⊢; simp only [setSub, mMet, List.length_append, List.length_set, List.length_cons, List.length_nil, goneIf_len, mGoneAt_len]; omega)
theorem mHearHello_len (e : DEnd) (x : DLetter) : (mHearHello e x).2.length ≤ 1073741824 := by
  unfold mHearHello
  repeat' split
  all_goals simp
theorem mHearBack_B {e : DEnd} (x : DLetter) (h : e.B) : (mHearBack e x).1.B := by
  obtain ⟨h1, h2, h3, h4, h5, h6, h7⟩ := id h
  unfold mHearBack
  repeat' split
  all_goals first | exact h | (rename_i hc; have h8 := (endOk_split hc.1).2.2.1; have h9 := endOk_ids hc.1; have ha := mAddrsOk_len (endOk_parts hc.1).2.1; have hz := mHalfsOk_len (endOk_parts hc.1).2.2.1) | (rename_i hc _; have h8 := (endOk_split hc.1).2.2.1; have h9 := endOk_ids hc.1; have ha := mAddrsOk_len (endOk_parts hc.1).2.1; have hz := mHalfsOk_len (endOk_parts hc.1).2.2.1) | (rename_i hc; have h8 := (endOk_split hc.1.1).2.2.1; have h9 := endOk_ids hc.1.1; have ha := mAddrsOk_len (endOk_parts hc.1.1).2.1; have hz := mHalfsOk_len (endOk_parts hc.1.1).2.2.1) | skip
  all_goals (unfold DEnd.B at h ⊢; simp only [setSub, mMet, List.length_append, List.length_set, List.length_cons, List.length_nil, goneIf_len, mGoneAt_len]; omega)
theorem mHearBack_len (e : DEnd) (x : DLetter) : (mHearBack e x).2.length ≤ 1073741824 := by
  unfold mHearBack
  repeat' split
  all_goals simp
theorem mJoin_B {e : DEnd} (r : DRoad) (p : Bool) (h : e.B) : (mJoin e r p).1.B := by
  obtain ⟨h1, h2, h3, h4, h5, h6, h7⟩ := id h
  unfold mJoin
  repeat' split
  all_goals first | exact h | (rename_i hc; have h8 := (endOk_split hc.1).2.2.1; have h9 := endOk_ids hc.1; have ha := mAddrsOk_len (endOk_parts hc.1).2.1; have hz := mHalfsOk_len (endOk_parts hc.1).2.2.1) | (rename_i hc _; have h8 := (endOk_split hc.1).2.2.1; have h9 := endOk_ids hc.1; have ha := mAddrsOk_len (endOk_parts hc.1).2.1; have hz := mHalfsOk_len (endOk_parts hc.1).2.2.1) | (rename_i hc; have h8 := (endOk_split hc.1.1).2.2.1; have h9 := endOk_ids hc.1.1; have ha := mAddrsOk_len (endOk_parts hc.1.1).2.1; have hz := mHalfsOk_len (endOk_parts hc.1.1).2.2.1) | skip
  all_goals (unfold DEnd.B at h ⊢; simp only [setSub, mMet, List.length_append, List.length_set, List.length_cons, List.length_nil, goneIf_len, mGoneAt_len]; omega)
theorem mJoin_len (e : DEnd) (r : DRoad) (p : Bool) : (mJoin e r p).2.length ≤ 1073741824 := by
  unfold mJoin
  repeat' split
  all_goals simp
theorem mHearJoin_B {e : DEnd} (x : DLetter) (h : e.B) : (mHearJoin e x).1.B := by
  obtain ⟨h1, h2, h3, h4, h5, h6, h7⟩ := id h
  unfold mHearJoin
  repeat' split
  all_goals first | exact h | (rename_i hc; have h8 := (endOk_split hc.1).2.2.1; have h9 := endOk_ids hc.1; have ha := mAddrsOk_len (endOk_parts hc.1).2.1; have hz := mHalfsOk_len (endOk_parts hc.1).2.2.1) | (rename_i hc _; have h8 := (endOk_split hc.1).2.2.1; have h9 := endOk_ids hc.1; have ha := mAddrsOk_len (endOk_parts hc.1).2.1; have hz := mHalfsOk_len (endOk_parts hc.1).2.2.1) | (rename_i hc; have h8 := (endOk_split hc.1.1).2.2.1; have h9 := endOk_ids hc.1.1; have ha := mAddrsOk_len (endOk_parts hc.1.1).2.1; have hz := mHalfsOk_len (endOk_parts hc.1.1).2.2.1) | skip
  all_goals have hp := mPutHalf_len e.halfs (mJoinHalf e x)
  all_goals (unfold DEnd.B at h ⊢; simp only [setSub, mMet, List.length_append, List.length_set, List.length_cons, List.length_nil, goneIf_len, mGoneAt_len]; omega)
theorem mHearJoin_len (e : DEnd) (x : DLetter) : (mHearJoin e x).2.length ≤ 1073741824 := by
  unfold mHearJoin
  repeat' split
  all_goals simp
theorem mHearJoinBack_B {e : DEnd} (x : DLetter) (h : e.B) : (mHearJoinBack e x).1.B := by
  obtain ⟨h1, h2, h3, h4, h5, h6, h7⟩ := id h
  unfold mHearJoinBack
  repeat' split
  all_goals first | exact h | (rename_i hc; have h8 := (endOk_split hc.1).2.2.1; have h9 := endOk_ids hc.1; have ha := mAddrsOk_len (endOk_parts hc.1).2.1; have hz := mHalfsOk_len (endOk_parts hc.1).2.2.1) | (rename_i hc _; have h8 := (endOk_split hc.1).2.2.1; have h9 := endOk_ids hc.1; have ha := mAddrsOk_len (endOk_parts hc.1).2.1; have hz := mHalfsOk_len (endOk_parts hc.1).2.2.1) | (rename_i hc; have h8 := (endOk_split hc.1.1).2.2.1; have h9 := endOk_ids hc.1.1; have ha := mAddrsOk_len (endOk_parts hc.1.1).2.1; have hz := mHalfsOk_len (endOk_parts hc.1.1).2.2.1) | skip
  all_goals (unfold DEnd.B at h ⊢; simp only [setSub, mMet, List.length_append, List.length_set, List.length_cons, List.length_nil, goneIf_len, mGoneAt_len]; omega)
theorem mHearJoinBack_len (e : DEnd) (x : DLetter) : (mHearJoinBack e x).2.length ≤ 1073741824 := by
  unfold mHearJoinBack
  repeat' split
  all_goals simp
theorem mHearJoinDone_B {e : DEnd} (x : DLetter) (h : e.B) : (mHearJoinDone e x).1.B := by
  obtain ⟨h1, h2, h3, h4, h5, h6, h7⟩ := id h
  unfold mHearJoinDone
  repeat' split
  all_goals first | exact h | (rename_i hc; have h8 := (endOk_split hc.1).2.2.1; have h9 := endOk_ids hc.1; have ha := mAddrsOk_len (endOk_parts hc.1).2.1; have hz := mHalfsOk_len (endOk_parts hc.1).2.2.1) | (rename_i hc _; have h8 := (endOk_split hc.1).2.2.1; have h9 := endOk_ids hc.1; have ha := mAddrsOk_len (endOk_parts hc.1).2.1; have hz := mHalfsOk_len (endOk_parts hc.1).2.2.1) | (rename_i hc; have h8 := (endOk_split hc.1.1).2.2.1; have h9 := endOk_ids hc.1.1; have ha := mAddrsOk_len (endOk_parts hc.1.1).2.1; have hz := mHalfsOk_len (endOk_parts hc.1.1).2.2.1) | skip
  all_goals have hp := mDropHalf_len e.halfs (mRoadOf x)
  all_goals (unfold DEnd.B at h ⊢; simp only [setSub, mMet, List.length_append, List.length_set, List.length_cons, List.length_nil, goneIf_len, mGoneAt_len]; omega)
theorem mHearJoinDone_len (e : DEnd) (x : DLetter) : (mHearJoinDone e x).2.length ≤ 1073741824 := by
  unfold mHearJoinDone
  repeat' split
  all_goals simp
theorem mHearJoinAck_B {e : DEnd} (x : DLetter) (h : e.B) : (mHearJoinAck e x).1.B := by
  obtain ⟨h1, h2, h3, h4, h5, h6, h7⟩ := id h
  unfold mHearJoinAck
  repeat' split
  all_goals first | exact h | (rename_i hc; have h8 := (endOk_split hc.1).2.2.1; have h9 := endOk_ids hc.1; have ha := mAddrsOk_len (endOk_parts hc.1).2.1; have hz := mHalfsOk_len (endOk_parts hc.1).2.2.1) | (rename_i hc _; have h8 := (endOk_split hc.1).2.2.1; have h9 := endOk_ids hc.1; have ha := mAddrsOk_len (endOk_parts hc.1).2.1; have hz := mHalfsOk_len (endOk_parts hc.1).2.2.1) | (rename_i hc; have h8 := (endOk_split hc.1.1).2.2.1; have h9 := endOk_ids hc.1.1; have ha := mAddrsOk_len (endOk_parts hc.1.1).2.1; have hz := mHalfsOk_len (endOk_parts hc.1.1).2.2.1) | skip
  all_goals (unfold DEnd.B at h ⊢; simp only [setSub, mMet, List.length_append, List.length_set, List.length_cons, List.length_nil, goneIf_len, mGoneAt_len]; omega)
theorem mHearJoinAck_len (e : DEnd) (x : DLetter) : (mHearJoinAck e x).2.length ≤ 1073741824 := by
  unfold mHearJoinAck
  repeat' split
  all_goals simp
theorem mHearAddr_B {e : DEnd} (x : DLetter) (h : e.B) : (mHearAddr e x).1.B := by
  obtain ⟨h1, h2, h3, h4, h5, h6, h7⟩ := id h
  unfold mHearAddr
  repeat' split
  all_goals first | exact h | (rename_i hc; have h8 := (endOk_split hc.1).2.2.1; have h9 := endOk_ids hc.1; have ha := mAddrsOk_len (endOk_parts hc.1).2.1; have hz := mHalfsOk_len (endOk_parts hc.1).2.2.1) | (rename_i hc _; have h8 := (endOk_split hc.1).2.2.1; have h9 := endOk_ids hc.1; have ha := mAddrsOk_len (endOk_parts hc.1).2.1; have hz := mHalfsOk_len (endOk_parts hc.1).2.2.1) | (rename_i hc; have h8 := (endOk_split hc.1.1).2.2.1; have h9 := endOk_ids hc.1.1; have ha := mAddrsOk_len (endOk_parts hc.1.1).2.1; have hz := mHalfsOk_len (endOk_parts hc.1.1).2.2.1) | skip
  all_goals have hp := mPutAddr_len e.far ⟨x.id, x.addr, x.spare, true⟩
  all_goals (unfold DEnd.B at h ⊢; simp only [setSub, mMet, List.length_append, List.length_set, List.length_cons, List.length_nil, goneIf_len, mGoneAt_len]; omega)
theorem mHearAddr_len (e : DEnd) (x : DLetter) : (mHearAddr e x).2.length ≤ 1073741824 := by
  unfold mHearAddr
  repeat' split
  all_goals simp
theorem mHearEcho_B {e : DEnd} (x : DLetter) (h : e.B) : (mHearEcho e x).1.B := by
  obtain ⟨h1, h2, h3, h4, h5, h6, h7⟩ := id h
  unfold mHearEcho
  repeat' split
  all_goals first | exact h | (rename_i hc; have h8 := (endOk_split hc.1).2.2.1; have h9 := endOk_ids hc.1; have ha := mAddrsOk_len (endOk_parts hc.1).2.1; have hz := mHalfsOk_len (endOk_parts hc.1).2.2.1) | (rename_i hc _; have h8 := (endOk_split hc.1).2.2.1; have h9 := endOk_ids hc.1; have ha := mAddrsOk_len (endOk_parts hc.1).2.1; have hz := mHalfsOk_len (endOk_parts hc.1).2.2.1) | (rename_i hc; have h8 := (endOk_split hc.1.1).2.2.1; have h9 := endOk_ids hc.1.1; have ha := mAddrsOk_len (endOk_parts hc.1.1).2.1; have hz := mHalfsOk_len (endOk_parts hc.1.1).2.2.1) | skip
  all_goals (unfold DEnd.B at h ⊢; simp only [setSub, mMet, List.length_append, List.length_set, List.length_cons, List.length_nil, goneIf_len, mGoneAt_len]; omega)
theorem mHearEcho_len (e : DEnd) (x : DLetter) : (mHearEcho e x).2.length ≤ 1073741824 := by
  unfold mHearEcho
  repeat' split
  all_goals simp
theorem mHearGone_B {e : DEnd} (x : DLetter) (h : e.B) : (mHearGone e x).1.B := by
  obtain ⟨h1, h2, h3, h4, h5, h6, h7⟩ := id h
  unfold mHearGone
  repeat' split
  all_goals first | exact h | (rename_i hc; have h8 := (endOk_split hc.1).2.2.1; have h9 := endOk_ids hc.1; have ha := mAddrsOk_len (endOk_parts hc.1).2.1; have hz := mHalfsOk_len (endOk_parts hc.1).2.2.1) | (rename_i hc _; have h8 := (endOk_split hc.1).2.2.1; have h9 := endOk_ids hc.1; have ha := mAddrsOk_len (endOk_parts hc.1).2.1; have hz := mHalfsOk_len (endOk_parts hc.1).2.2.1) | (rename_i hc; have h8 := (endOk_split hc.1.1).2.2.1; have h9 := endOk_ids hc.1.1; have ha := mAddrsOk_len (endOk_parts hc.1.1).2.1; have hz := mHalfsOk_len (endOk_parts hc.1.1).2.2.1) | skip
  all_goals have hp := mPut_len e.over x.id
  all_goals have hq := mDropAddr_len e.far x.id
  all_goals (unfold DEnd.B at h ⊢; simp only [setSub, mMet, List.length_append, List.length_set, List.length_cons, List.length_nil, goneIf_len, mGoneAt_len]; omega)
theorem mHearGone_len (e : DEnd) (x : DLetter) : (mHearGone e x).2.length ≤ 1073741824 := by
  unfold mHearGone
  repeat' split
  all_goals simp
theorem mHearCame_B {e : DEnd} (x : DLetter) (h : e.B) : (mHearCame e x).1.B := by
  obtain ⟨h1, h2, h3, h4, h5, h6, h7⟩ := id h
  unfold mHearCame
  repeat' split
  all_goals first | exact h | (rename_i hc; have h8 := (endOk_split hc.1).2.2.1; have h9 := endOk_ids hc.1; have ha := mAddrsOk_len (endOk_parts hc.1).2.1; have hz := mHalfsOk_len (endOk_parts hc.1).2.2.1) | (rename_i hc _; have h8 := (endOk_split hc.1).2.2.1; have h9 := endOk_ids hc.1; have ha := mAddrsOk_len (endOk_parts hc.1).2.1; have hz := mHalfsOk_len (endOk_parts hc.1).2.2.1) | (rename_i hc; have h8 := (endOk_split hc.1.1).2.2.1; have h9 := endOk_ids hc.1.1; have ha := mAddrsOk_len (endOk_parts hc.1.1).2.1; have hz := mHalfsOk_len (endOk_parts hc.1.1).2.2.1) | skip
  all_goals (unfold DEnd.B at h ⊢; simp only [setSub, mMet, List.length_append, List.length_set, List.length_cons, List.length_nil, goneIf_len, mGoneAt_len]; omega)
theorem mHearCame_len (e : DEnd) (x : DLetter) : (mHearCame e x).2.length ≤ 1073741824 := by
  unfold mHearCame
  repeat' split
  all_goals simp
theorem mReset_B {e : DEnd} (k : Int) (h : e.B) : (mReset e k).1.B := by
  obtain ⟨h1, h2, h3, h4, h5, h6, h7⟩ := id h
  unfold mReset
  repeat' split
  all_goals first | exact h | (rename_i hc; have h8 := (endOk_split hc.1).2.2.1; have h9 := endOk_ids hc.1; have ha := mAddrsOk_len (endOk_parts hc.1).2.1; have hz := mHalfsOk_len (endOk_parts hc.1).2.2.1) | (rename_i hc _; have h8 := (endOk_split hc.1).2.2.1; have h9 := endOk_ids hc.1; have ha := mAddrsOk_len (endOk_parts hc.1).2.1; have hz := mHalfsOk_len (endOk_parts hc.1).2.2.1) | (rename_i hc; have h8 := (endOk_split hc.1.1).2.2.1; have h9 := endOk_ids hc.1.1; have ha := mAddrsOk_len (endOk_parts hc.1.1).2.1; have hz := mHalfsOk_len (endOk_parts hc.1.1).2.2.1) | skip
  all_goals (unfold DEnd.B at h ⊢; simp only [setSub, mMet, List.length_append, List.length_set, List.length_cons, List.length_nil, goneIf_len, mGoneAt_len]; omega)
theorem mReset_len (e : DEnd) (k : Int) : (mReset e k).2.length ≤ 1073741824 := by
  unfold mReset
  repeat' split
  all_goals simp
theorem mHearReset_B {e : DEnd} (x : DLetter) (h : e.B) : (mHearReset e x).1.B := by
  obtain ⟨h1, h2, h3, h4, h5, h6, h7⟩ := id h
  unfold mHearReset
  repeat' split
  all_goals first | exact h | (rename_i hc; have h8 := (endOk_split hc.1).2.2.1; have h9 := endOk_ids hc.1; have ha := mAddrsOk_len (endOk_parts hc.1).2.1; have hz := mHalfsOk_len (endOk_parts hc.1).2.2.1) | (rename_i hc _; have h8 := (endOk_split hc.1).2.2.1; have h9 := endOk_ids hc.1; have ha := mAddrsOk_len (endOk_parts hc.1).2.1; have hz := mHalfsOk_len (endOk_parts hc.1).2.2.1) | (rename_i hc; have h8 := (endOk_split hc.1.1).2.2.1; have h9 := endOk_ids hc.1.1; have ha := mAddrsOk_len (endOk_parts hc.1.1).2.1; have hz := mHalfsOk_len (endOk_parts hc.1.1).2.2.1) | skip
  all_goals (unfold DEnd.B at h ⊢; simp only [setSub, mMet, List.length_append, List.length_set, List.length_cons, List.length_nil, goneIf_len, mGoneAt_len]; omega)
theorem mHearReset_len (e : DEnd) (x : DLetter) : (mHearReset e x).2.length ≤ 1073741824 := by
  unfold mHearReset
  repeat' split
  all_goals simp
theorem mPush_B {e : DEnd}  (h : e.B) : (mPush e).1.B := by
  obtain ⟨h1, h2, h3, h4, h5, h6, h7⟩ := id h
  unfold mPush
  repeat' split
  all_goals first | exact h | (rename_i hc; have h8 := (endOk_split hc.1).2.2.1; have h9 := endOk_ids hc.1; have ha := mAddrsOk_len (endOk_parts hc.1).2.1; have hz := mHalfsOk_len (endOk_parts hc.1).2.2.1) | (rename_i hc _; have h8 := (endOk_split hc.1).2.2.1; have h9 := endOk_ids hc.1; have ha := mAddrsOk_len (endOk_parts hc.1).2.1; have hz := mHalfsOk_len (endOk_parts hc.1).2.2.1) | (rename_i hc; have h8 := (endOk_split hc.1.1).2.2.1; have h9 := endOk_ids hc.1.1; have ha := mAddrsOk_len (endOk_parts hc.1.1).2.1; have hz := mHalfsOk_len (endOk_parts hc.1.1).2.2.1) | skip
  all_goals (unfold DEnd.B at h ⊢; simp only [setSub, mMet, List.length_append, List.length_set, List.length_cons, List.length_nil, goneIf_len, mGoneAt_len]; omega)
theorem mPush_len (e : DEnd)  : (mPush e).2.length ≤ 1073741824 := by
  unfold mPush
  repeat' split
  all_goals simp
theorem mDropOwn_B {e : DEnd} (id : Int) (h : e.B) : (mDropOwn e id).1.B := by
  unfold mDropOwn
  split
  · rename_i hc; exact mDropEnd_B h hc.1
  · exact h
theorem mDropOwn_len {e : DEnd} (id : Int) (h : e.B) : (mDropOwn e id).2.length ≤ 1073741824 := by
  unfold mDropOwn
  split
  · rename_i hc
    have hd := mDropEnd_B (id := id) h hc.1
    have := colL_le fOn (mDropEnd e id).subs 0
    have hs := hd.2.2.1
    rw [List.length_map]
    exact Nat.le_trans this hs
  · simp
end Go.Eng

namespace Go.Eng

def pushN : Nat → DEnd → DEnd × List DLetter
  | 0, e => (e, [])
  | n + 1, e => ((mPush (pushN n e).1).1, (pushN n e).2 ++ (mPush (pushN n e).1).2)
theorem mPush_len1 (e : DEnd) : (mPush e).2.length ≤ 1 := by
  unfold mPush
  split <;> simp
theorem pushN_B {e : DEnd} (h : e.B) : ∀ n, (pushN n e).1.B
  | 0 => h
  | n + 1 => mPush_B (pushN_B h n)
theorem pushN_len (e : DEnd) : ∀ n, (pushN n e).2.length ≤ n
  | 0 => Nat.le_refl _
  | n + 1 => by
    have := pushN_len e n
    have := mPush_len1 (pushN n e).1
    rw [pushN, List.length_append]; omega
def mWriteAll (e : DEnd) (t : List UInt8) : DEnd × List DLetter := pushN 3 (mWrite e t).1
theorem mWriteAll_B {e : DEnd} (t : List UInt8) (h : e.B) : (mWriteAll e t).1.B := pushN_B (mWrite_B t h) 3
theorem mWriteAll_len (e : DEnd) (t : List UInt8) : (mWriteAll e t).2.length ≤ 1073741824 := by
  have := pushN_len (mWrite e t).1 3
  show (pushN 3 _).2.length ≤ _
  omega
end Go.Eng

namespace Go.Eng

def mkKnown (x : DKnown) (k : Int) : DKnown := { keys := mkL mkInt 1 x.keys k, tags := mkL mkTag 5 x.tags (k + 1 * x.keys.length) }
def nKnown (x : DKnown) : Nat := x.keys.length + 5 * x.tags.length
def hdKnown (x : DKnown) (k : Int) : Int := sq (hdL mkInt 1 x.keys k) fun k => sq (hdL mkTag 5 x.tags k) id
def DKnown.B (x : DKnown) : Prop := x.keys.length ≤ 1073741824 ∧ x.tags.length ≤ 1073741824
theorem hd_mkKnown (x : DKnown) {k : Int} (hk : 0 ≤ k) : hdKnown (mkKnown x k) k = k + nKnown x := by
  simp only [hdKnown, mkKnown, nKnown]
  have h1 := hdL_mkL mkInt 1 x.keys k
  rw [h1, sq_eq (by omega)]
  have h2 := hdL_mkL mkTag 5 x.tags (k + ((1 : Nat) : Int) * x.keys.length)
  simp only [Int.natCast_one] at h2 ⊢
  rw [h2, sq_eq (by omega)]
  simp only [id]
  omega
def mkWorld (w : DWorld) (k : Int) : DWorld :=
  { w with a := mkEnd w.a k, b := mkEnd w.b (k + nEnd w.a), bag := mkL mkLetter 19 w.bag (k + nEnd w.a + nEnd w.b), past := mkL mkLetter 19 w.past (k + nEnd w.a + nEnd w.b + 19 * w.bag.length),
           known := mkKnown w.known (k + nEnd w.a + nEnd w.b + 19 * w.bag.length + 19 * w.past.length),
           nums := mkL mkInt 1 w.nums (k + nEnd w.a + nEnd w.b + 19 * w.bag.length + 19 * w.past.length + nKnown w.known),
           answersA := mkL mkInt 1 w.answersA (k + nEnd w.a + nEnd w.b + 19 * w.bag.length + 19 * w.past.length + nKnown w.known + 1 * w.nums.length),
           answersB := mkL mkInt 1 w.answersB (k + nEnd w.a + nEnd w.b + 19 * w.bag.length + 19 * w.past.length + nKnown w.known + 1 * w.nums.length + 1 * w.answersA.length) }
def nWorld (w : DWorld) : Nat := nEnd w.a + nEnd w.b + 19 * w.bag.length + 19 * w.past.length + nKnown w.known + w.nums.length + w.answersA.length + w.answersB.length
def hdWorld (w : DWorld) (k : Int) : Int :=
  sq (hdEnd w.a k) fun k => sq (hdEnd w.b k) fun k => sq (hdL mkLetter 19 w.bag k) fun k => sq (hdL mkLetter 19 w.past k) fun k => sq (hdKnown w.known k) fun k =>
  sq (hdL mkInt 1 w.nums k) fun k => sq (hdL mkInt 1 w.answersA k) fun k => sq (hdL mkInt 1 w.answersB k) id
theorem endN_le {e : DEnd} (h : e.B) : nEnd e ≤ 34359738368 := by
  obtain ⟨h1, h2, h3, h4, h5, h6, h7⟩ := h
  unfold nEnd
  omega
theorem hd_mkWorld (w : DWorld) : hdWorld (mkWorld w 1) 1 = 1 + nWorld w := by
  have hl : ∀ (l : List DLetter) (k : Int), hdL mkLetter 19 (mkL mkLetter 19 l k) k = k + 19 * (l.length : Int) := fun l k => hdL_mkL mkLetter 19 l k
  have hi : ∀ (l : List Int) (k : Int), hdL mkInt 1 (mkL mkInt 1 l k) k = k + 1 * (l.length : Int) := fun l k => hdL_mkL mkInt 1 l k
  unfold hdWorld mkWorld
  simp only []
  rw [hd_mkEnd w.a 1 (by decide), sq_eq (by omega)]
  rw [hd_mkEnd w.b _ (by omega), sq_eq (by omega)]
  rw [hl, sq_eq (by omega), hl, sq_eq (by omega), hd_mkKnown _ (by omega), sq_eq (by omega), hi, sq_eq (by omega), hi, sq_eq (by omega), hi, sq_eq (by omega)]
  simp only [id, nWorld]
  omega
theorem mkWorld_B {w : DWorld} (k : Int) (h : w.B) : (mkWorld w k).B := by
  obtain ⟨h1, h2, h3, h4, h5, h6, h7, h8, h9⟩ := h
  refine ⟨mkEnd_B _ h1, mkEnd_B _ h2, ?_, ?_, ?_, ?_, ?_, ?_, ?_⟩ <;> (simp only [mkWorld, mkKnown, mkL_length]; assumption)
theorem hdEnd_bd (e : DEnd) {k : Int} (h : -1 ≤ k) : -1 ≤ hdEnd e k ∧ hdEnd e k ≤ k + nEnd e := by
  have b1 := hdL_bd mkAddr 4 e.own k h
  have b2 := hdL_bd mkAddr 4 e.far _ b1.1
  have b3 := hdL_bd mkSub 10 e.subs _ b2.1
  have b4 := hdL_bd mkHalf 8 e.halfs _ b3.1
  have b5 := sqid_bd (hdL_bd mkPiece 2 e.inn.list _ b4.1) (by omega)
  have b6 := hdL_bd mkInt 1 e.done _ b5.1
  have b7 := hdL_bd mkInt 1 e.over _ b6.1
  unfold hdEnd nEnd
  unfold sq at b5 b6 b7 ⊢
  simp only [id] at *
  repeat' split
  all_goals simp_all
  all_goals omega
theorem hdKnown_bd (x : DKnown) {k : Int} (h : -1 ≤ k) : -1 ≤ hdKnown x k ∧ hdKnown x k ≤ k + nKnown x := by
  have b1 := hdL_bd mkInt 1 x.keys k h
  have b2 := hdL_bd mkTag 5 x.tags _ b1.1
  unfold hdKnown nKnown sq
  simp only [id]
  repeat' split
  all_goals omega
theorem szN_pos {n : Nat} {q : Int} (h : ¬ q - (n : Int) < 0) : szN n q = q - (n : Int) := if_neg h
theorem szN_neg {n : Nat} {q : Int} (h : q - (n : Int) < 0) : szN n q = -1 := if_pos h
theorem KB_world {w : DWorld} (h : w.B) : KB 1 (nWorld w) := by
  obtain ⟨h1, h2, h3, h4, h5, h6, h7, h8, h9⟩ := h
  have := endN_le h1
  have := endN_le h2
  unfold nWorld nKnown KB
  omega
theorem mkWorld_n (w : DWorld) (k : Int) : nWorld (mkWorld w k) = nWorld w := by
  simp only [nWorld, mkWorld, mkKnown, nKnown, mkL_length, mkEnd_n]
theorem dWorld_iff (x y : DWorld) : x = y ↔ x.a = y.a ∧ x.b = y.b ∧ x.bag = y.bag ∧ x.past = y.past ∧ x.wroteA = y.wroteA ∧ x.wroteB = y.wroteB ∧ x.readA = y.readA ∧ x.readB = y.readB ∧ x.known = y.known ∧ x.nums = y.nums ∧ x.answersA = y.answersA ∧ x.answersB = y.answersB := by
  rcases x with ⟨⟩; rcases y with ⟨⟩; simp
theorem dKnown_iff (x y : DKnown) : x = y ↔ x.keys = y.keys ∧ x.tags = y.tags := by
  rcases x with ⟨⟩; rcases y with ⟨⟩; simp
def mSideAt (a : Int) : Int := if mIn a 10 19 = true then 1 else if mIn a 20 29 = true then 2 else 0
def tagL (t : DTag) : List DTag → Nat → Bool
  | [], _ => false
  | g :: l, i => if i < 300 then (if g = t then true else tagL t l (i + 1)) else false
def mCanMake (k : DKnown) (t : DTag) : Bool := decide (t = tg0) || (mHas k.keys t.one && mHas k.keys t.two) || tagL t k.tags 0
def mMayNum (l : List Int) (n : Int) : Bool := !(decide (n ≥ 1000) && !mHas l n)
def mNumL (x : DLetter) : List Int := [x.key, x.nonce, x.give, x.sign]
def mMayInject (w : DWorld) (x : DLetter) : Bool :=
  mLetterOk x && !(mSideAt x.dst == 0) && mCanMake w.known x.tag && allL (mMayNum w.nums) (mNumL x)
theorem side_div {a : Int} (h : mIn a 10 29 = true) : w64 (a.tdiv 10) = mSideAt a := by
  have hi := mIn_iff.1 h
  rw [Int.tdiv_eq_ediv_of_nonneg (by omega), w64_id (by omega) (by omega)]
  unfold mSideAt
  simp only [mIn_iff]
  split
  · omega
  · split <;> omega
def end0 : DEnd := ⟨0, 0, 0, 0, ⟨0, 0⟩, [], [], [], [], ⟨0, 0, 0⟩, ⟨[], 0, 0, 0⟩, ⟨0, [], []⟩, [], [], 0, 0, 0⟩
def mEndAt (w : DWorld) (s : Int) : DEnd := if s = 1 then w.a else if s = 2 then w.b else end0
theorem mEndAt_B {w : DWorld} (s : Int) (h : w.B) : (mEndAt w s).B := by
  unfold mEndAt
  split
  · exact h.1
  · split
    · exact h.2.1
    · simp [DEnd.B, end0]
theorem letters_W {l : List DLetter} (h : ∀ x ∈ l, ∀ y ∈ ETy.letter.lv x, wfL y) : ∀ x ∈ l, x.text.length ≤ 9223372036854775807 := fun x hx => by
  have := h x hx (.str x.text) (by simp [ETy.lv, leavesOf, LT.leaf])
  simp only [wfL, maxLen] at this
  omega
theorem pieces_W {l : List DPiece} (h : ∀ x ∈ l, ∀ y ∈ ETy.piece.lv x, wfL y) : ∀ x ∈ l, x.text.length ≤ 9223372036854775807 := fun x hx => by
  have := h x hx (.str x.text) (by simp [ETy.lv, leavesOf, LT.leaf])
  simp only [wfL, maxLen] at this
  omega
theorem world_W {w : DWorld} (h : wfC aWorld.cts (aWorld.to w)) : w.W := by
  simp only [wfC, wfL, LT.leaf, maxLen] at h
  obtain ⟨_, _, _, _, _, _, ⟨a1, _⟩, ⟨a2, _⟩, ⟨a3, _⟩, ⟨a4, _⟩, _, _, _, a5, _, _, _, _, a6, ⟨a7, a8⟩, ⟨a9, _⟩, ⟨a10, _⟩, _, _, _, _, _, _, _, _, _, ⟨b1, _⟩, ⟨b2, _⟩, ⟨b3, _⟩, ⟨b4, _⟩, _, _, _, b5, _, _, _, _, b6, ⟨b7, b8⟩, ⟨b9, _⟩, ⟨b10, _⟩, _, _, _, ⟨c1, c2⟩, ⟨c3, c4⟩, c5, c6, c7, c8, ⟨c9, _⟩, ⟨c10, _⟩, ⟨c11, _⟩, ⟨c12, _⟩, ⟨c13, _⟩, _⟩ := h
  refine ⟨⟨by omega, by omega, by omega, by omega, by omega, ⟨by omega, by omega, pieces_W a8⟩, by omega, by omega⟩, ⟨by omega, by omega, by omega, by omega, by omega, ⟨by omega, by omega, pieces_W b8⟩, by omega, by omega⟩, ⟨by omega, letters_W c2⟩, ⟨by omega, letters_W c4⟩, by omega, by omega, by omega, by omega, by omega, by omega, by omega, by omega, by omega⟩
theorem worldB_of {w : DWorld} (h : ¬ szWorld w 1048576 < 0) : w.B := by
  have h : 0 ≤ szWorld w 1048576 := by omega
  unfold szWorld at h
  obtain ⟨a1, h⟩ := sq_ge h
  obtain ⟨a2, h⟩ := sq_ge h
  obtain ⟨a3, h⟩ := sq_ge h
  obtain ⟨a4, h⟩ := sq_ge h
  obtain ⟨a5, h⟩ := sq_ge h
  obtain ⟨a6, h⟩ := sq_ge h
  obtain ⟨a7, h⟩ := sq_ge h
  obtain ⟨a8, h⟩ := sq_ge h
  obtain ⟨a9, h⟩ := sq_ge h
  obtain ⟨a10, h⟩ := sq_ge h
  obtain ⟨a11, h⟩ := sq_ge h
  obtain ⟨a12, h⟩ := sq_ge h
  have e1 := szEnd_B (Int.le_refl _) (by omega : ¬ szEnd w.a 1048576 < 0)
  have m1 := szEnd_m (n := w.a) (Int.le_refl 1048576)
  have e2 := szEnd_B m1 (by omega : ¬ szEnd w.b (szEnd w.a 1048576) < 0)
  have m2 := szEnd_m (n := w.b) m1
  have m3 := szLs_m (n := w.bag) m2
  have m4 := szLs_m (n := w.past) m3
  unfold szS at a3 a4
  obtain ⟨a3', _⟩ := sq_ge a3
  obtain ⟨a4', _⟩ := sq_ge a4
  have m3' : sq (szN w.bag.length (szEnd w.b (szEnd w.a 1048576))) (szL szLetter w.bag) ≤ 1048576 := m3
  have c3 := szN_ge a3'
  have c4 := szN_ge a4'
  have c5 := szN_ge a5
  have c6 := szN_ge a6
  have c7 := szN_ge a7
  have c8 := szN_ge a8
  have c9u := szKnown_up w.known _ (Int.not_lt.2 a9)
  unfold szKnown at a9
  obtain ⟨a9', a9''⟩ := sq_ge a9
  obtain ⟨a9'', _⟩ := sq_ge a9''
  have c9 := szN_ge a9'
  have c9' := szN_ge a9''
  have c10 := szN_ge a10
  have c11 := szN_ge a11
  have c12 := szN_ge a12
  refine ⟨?_, ?_, ?_, ?_, ?_, ?_, ?_, ?_, ?_⟩
  · unfold DEnd.B; omega
  · unfold DEnd.B; omega
  all_goals omega
theorem sq_m {q : Int} {k : Int → Int} (h : k q ≤ 1048576) : sq q k ≤ 1048576 := by
  unfold sq
  split
  · omega
  · exact h
theorem sq_mid {q : Int} (h : q ≤ 1048576) : sq q id ≤ 1048576 := by
  unfold sq
  split
  · omega
  · exact h
theorem szWorld_m {w : DWorld} {q : Int} (hq : q ≤ 1048576) : szWorld w q ≤ 1048576 := by
  have m1 := szEnd_m (n := w.a) hq
  have m2 := szEnd_m (n := w.b) m1
  have m3 := szLs_m (n := w.bag) m2
  have m4 := szLs_m (n := w.past) m3
  have m5 := szN_m (n := w.wroteA.length) m4
  have m6 := szN_m (n := w.wroteB.length) m5
  have m7 := szN_m (n := w.readA.length) m6
  have m8 := szN_m (n := w.readB.length) m7
  have m9 := szKnown_m (n := w.known) m8
  have m10 := szN_m (n := w.nums.length) m9
  have m11 := szN_m (n := w.answersA.length) m10
  have m12 := szN_m (n := w.answersB.length) m11
  have m13 := sq_mid m12
  unfold szWorld
  iterate 11 with_reducible refine sq_m ?_
  exact m13
theorem hd_mk1w (w : DWorld) : hdWorld (mkWorld w 1) 1 = 1 + (nWorld w : Int) := hd_mkWorld w
end Go.Eng
