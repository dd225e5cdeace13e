/- Plain models of what the functions compute. -/
import Derived.Test.YtnpeomhpbakgnaaEng6
set_option linter.unusedVariables false
set_option linter.unusedSimpArgs false
namespace Go.Eng




/-! sizes -/
def szN (n : Nat) (left : Int) : Int := if left - (n : Int) < 0 then -1 else left - (n : Int)
def sq (q : Int) (k : Int → Int) : Int := if q < 0 then -1 else k q
def szL {α : Type} (f : α → Int → Int) : List α → Int → Int
  | [], q => q
  | x :: l, q => sq (f x q) (szL f l)
def szS {α : Type} (f : α → Int → Int) (l : List α) (left : Int) : Int := sq (szN l.length left) (szL f l)
def szLetter (x : DLetter) (left : Int) : Int := szN x.text.length left
def szPiece (x : DPiece) (left : Int) : Int := szN x.text.length left
def szOut (x : DOut) (left : Int) : Int := szN x.text.length left
def szPieces (p : DPieces) (left : Int) : Int := sq (szN p.ready.length left) fun q => sq (szS szPiece p.list q) id
def szKnown (k : DKnown) (left : Int) : Int := sq (szN k.keys.length left) fun q => sq (szN k.tags.length q) id
def szEnd (e : DEnd) (left : Int) : Int :=
  sq (szN e.own.length left) fun q => sq (szN e.far.length q) fun q => sq (szN e.subs.length q) fun q => sq (szN e.halfs.length q) fun q =>
  sq (szOut e.out q) fun q => sq (szPieces e.inn q) fun q => sq (szN e.done.length q) fun q => sq (szN e.over.length q) id
def szWorld (w : DWorld) (left : Int) : Int :=
  sq (szEnd w.a left) fun q => sq (szEnd w.b q) fun q => sq (szS szLetter w.bag q) fun q => sq (szS szLetter w.past q) fun q =>
  sq (szN w.wroteA.length q) fun q => sq (szN w.wroteB.length q) fun q => sq (szN w.readA.length q) fun q => sq (szN w.readB.length q) fun q =>
  sq (szKnown w.known q) fun q => sq (szN w.nums.length q) fun q => sq (szN w.answersA.length q) fun q => sq (szN w.answersB.length q) id

def DPieces.W (p : DPieces) : Prop := p.ready.length ≤ 9223372036854775807 ∧ p.list.length ≤ 9223372036854775807 ∧ ∀ x ∈ p.list, x.text.length ≤ 9223372036854775807
def DEnd.W (e : DEnd) : Prop := e.own.length ≤ 9223372036854775807 ∧ e.far.length ≤ 9223372036854775807 ∧ e.subs.length ≤ 9223372036854775807 ∧ e.halfs.length ≤ 9223372036854775807 ∧ e.out.text.length ≤ 9223372036854775807 ∧ e.inn.W ∧ e.done.length ≤ 9223372036854775807 ∧ e.over.length ≤ 9223372036854775807
def DWorld.W (w : DWorld) : Prop := w.a.W ∧ w.b.W ∧ (w.bag.length ≤ 9223372036854775807 ∧ ∀ x ∈ w.bag, x.text.length ≤ 9223372036854775807) ∧ (w.past.length ≤ 9223372036854775807 ∧ ∀ x ∈ w.past, x.text.length ≤ 9223372036854775807) ∧
  w.wroteA.length ≤ 9223372036854775807 ∧ w.wroteB.length ≤ 9223372036854775807 ∧ w.readA.length ≤ 9223372036854775807 ∧ w.readB.length ≤ 9223372036854775807 ∧ w.known.keys.length ≤ 9223372036854775807 ∧ w.known.tags.length ≤ 9223372036854775807 ∧ w.nums.length ≤ 9223372036854775807 ∧ w.answersA.length ≤ 9223372036854775807 ∧ w.answersB.length ≤ 9223372036854775807
def QB (q : Int) : Prop := 0 ≤ q ∧ q ≤ 1048576

/-- All slices are of moderate length. -/
def DEnd.B (e : DEnd) : Prop := e.own.length ≤ 1073741824 ∧ e.far.length ≤ 1073741824 ∧ e.subs.length ≤ 1073741824 ∧ e.halfs.length ≤ 1073741824 ∧ e.inn.list.length ≤ 1073741824 ∧ e.done.length ≤ 1073741824 ∧ e.over.length ≤ 1073741824
def DWorld.B (w : DWorld) : Prop := w.a.B ∧ w.b.B ∧ w.bag.length ≤ 1073741824 ∧ w.past.length ≤ 1073741824 ∧ w.known.keys.length ≤ 1073741824 ∧ w.known.tags.length ≤ 1073741824 ∧ w.nums.length ≤ 1073741824 ∧ w.answersA.length ≤ 1073741824 ∧ w.answersB.length ≤ 1073741824

theorem szN_le (n : Nat) (l : Int) : szN n l ≤ l ∨ szN n l = -1 := by unfold szN; split <;> omega
theorem szN_ge {n : Nat} {l : Int} (h : 0 ≤ szN n l) : (n : Int) ≤ l ∧ szN n l ≤ l := by unfold szN at *; split at h <;> omega
theorem sq_ge {q : Int} {k : Int → Int} (h : 0 ≤ sq q k) : 0 ≤ q ∧ 0 ≤ k q := by unfold sq at h; split at h <;> omega
theorem sq_neg {q : Int} {k : Int → Int} (h : q < 0) : sq q k = -1 := if_pos h
theorem sq_pos {q : Int} {k : Int → Int} (h : ¬ q < 0) : sq q k = k q := if_neg h
theorem sq_eq {q : Int} {k : Int → Int} (h : 0 ≤ q) : sq q k = k q := by unfold sq; rw [if_neg (by omega)]

theorem szL_le {α : Type} (f : α → Int → Int) (hf : ∀ x q, 0 ≤ f x q → f x q ≤ q) : ∀ (l : List α) (q : Int), 0 ≤ szL f l q → szL f l q ≤ q
  | [], q, _ => by simp [szL]
  | x :: l, q, h => by
    rw [szL] at h ⊢
    obtain ⟨h1, h2⟩ := sq_ge h
    rw [sq_eq h1]
    have := szL_le f hf l _ h2
    have := hf x q h1
    omega
theorem szPieces_le (p : DPieces) (q : Int) : 0 ≤ szPieces p q → szPieces p q ≤ q := fun h => by
  unfold szPieces at h ⊢
  obtain ⟨h1, h2⟩ := sq_ge h
  rw [sq_eq h1]
  obtain ⟨h2, _⟩ := sq_ge h2
  rw [sq_eq h2]
  show szS szPiece p.list (szN p.ready.length q) ≤ q
  unfold szS at h2 ⊢
  obtain ⟨h3, h4⟩ := sq_ge h2
  rw [sq_eq h3]
  have := szL_le szPiece (fun x q h => (szN_ge h).2) p.list _ h4
  have := (szN_ge h3).2
  have := (szN_ge h1).2
  omega
theorem szLs_le (l : List DLetter) (q : Int) : 0 ≤ szS szLetter l q → szS szLetter l q ≤ q := fun h => by
  unfold szS at h ⊢
  obtain ⟨h3, h4⟩ := sq_ge h
  rw [sq_eq h3]
  have := szL_le szLetter (fun x q h => (szN_ge h).2) l _ h4
  have := (szN_ge h3).2
  omega
theorem szN_up (n : Nat) (q : Int) : ¬ szN n q < 0 → szN n q ≤ q := fun h => (szN_ge (by omega)).2
theorem szOut_up (n : DOut) (q : Int) : ¬ szOut n q < 0 → szOut n q ≤ q := szN_up _ _
theorem szPieces_up (n : DPieces) (q : Int) : ¬ szPieces n q < 0 → szPieces n q ≤ q := fun h => szPieces_le _ _ (by omega)
theorem szLs_up (n : List DLetter) (q : Int) : ¬ szS szLetter n q < 0 → szS szLetter n q ≤ q := fun h => szLs_le _ _ (by omega)
theorem szEnd_up (e : DEnd) (q : Int) : ¬ szEnd e q < 0 → szEnd e q ≤ q := fun h => by
  have h : 0 ≤ szEnd e q := by omega
  unfold szEnd at h ⊢
  obtain ⟨a1, h⟩ := sq_ge h; rw [sq_eq a1]
  obtain ⟨a2, h⟩ := sq_ge h; rw [sq_eq a2]
  obtain ⟨a3, h⟩ := sq_ge h; rw [sq_eq a3]
  obtain ⟨a4, h⟩ := sq_ge h; rw [sq_eq a4]
  obtain ⟨a5, h⟩ := sq_ge h; rw [sq_eq a5]
  obtain ⟨a6, h⟩ := sq_ge h; rw [sq_eq a6]
  obtain ⟨a7, h⟩ := sq_ge h; rw [sq_eq a7]
  obtain ⟨a8, h⟩ := sq_ge h; rw [sq_eq a8]
  have b1 := (szN_ge a1).2
  have b2 := (szN_ge a2).2
  have b3 := (szN_ge a3).2
  have b4 := (szN_ge a4).2
  have b5 := (szN_ge a5).2
  have b6 := szPieces_le _ _ a6
  have b7 := (szN_ge a7).2
  have b8 := (szN_ge a8).2
  show szN _ _ ≤ _
  exact Int.le_trans b8 (Int.le_trans b7 (Int.le_trans b6 (Int.le_trans b5 (Int.le_trans b4 (Int.le_trans b3 (Int.le_trans b2 b1))))))
theorem szKnown_up (k : DKnown) (q : Int) : ¬ szKnown k q < 0 → szKnown k q ≤ q := fun h => by
  have h : 0 ≤ szKnown k q := by omega
  unfold szKnown at h ⊢
  obtain ⟨a1, h⟩ := sq_ge h; rw [sq_eq a1]
  obtain ⟨a2, h⟩ := sq_ge h; rw [sq_eq a2]
  exact Int.le_trans (szN_ge a2).2 (szN_ge a1).2
/-- What fits is of moderate length. -/
theorem szEnd_B {e : DEnd} {q : Int} (hq : q ≤ 1048576) (h : ¬ szEnd e q < 0) : e.own.length ≤ 1048576 ∧ e.far.length ≤ 1048576 ∧ e.subs.length ≤ 1048576 ∧ e.halfs.length ≤ 1048576 ∧ e.out.text.length ≤ 1048576 ∧ e.inn.ready.length ≤ 1048576 ∧ e.inn.list.length ≤ 1048576 ∧ e.done.length ≤ 1048576 ∧ e.over.length ≤ 1048576 := by
  have h : 0 ≤ szEnd e q := by omega
  unfold szEnd at h
  obtain ⟨a1, h⟩ := sq_ge h
  obtain ⟨a2, h⟩ := sq_ge h
  obtain ⟨a3, h⟩ := sq_ge h
  obtain ⟨a4, h⟩ := sq_ge h
  obtain ⟨a5, h⟩ := sq_ge h
  obtain ⟨a6, h⟩ := sq_ge h
  obtain ⟨a7, h⟩ := sq_ge h
  obtain ⟨a8, h⟩ := sq_ge h
  have b1 := szN_ge a1
  have b2 := szN_ge a2
  have b3 := szN_ge a3
  have b4 := szN_ge a4
  have b5 := szN_ge a5
  have b6 := szPieces_le _ _ a6
  have b7 := szN_ge a7
  have b8 := szN_ge a8
  unfold szPieces at a6
  obtain ⟨c1, a6⟩ := sq_ge a6
  obtain ⟨c2, a6⟩ := sq_ge a6
  have d1 := szN_ge c1
  unfold szS at c2
  obtain ⟨c2, _⟩ := sq_ge c2
  have d2 := szN_ge c2
  have b5' : szOut e.out _ ≤ _ := b5.2
  refine ⟨?_, ?_, ?_, ?_, ?_, ?_, ?_, ?_, ?_⟩ <;> omega
theorem szN_m {n : Nat} {q : Int} (h : q ≤ 1048576) : szN n q ≤ 1048576 := by unfold szN; split <;> omega
theorem szOut_m {n : DOut} {q : Int} (h : q ≤ 1048576) : szOut n q ≤ 1048576 := szN_m h
theorem szPieces_m {n : DPieces} {q : Int} (h : q ≤ 1048576) : szPieces n q ≤ 1048576 := by
  by_cases h2 : szPieces n q < 0
  · omega
  · exact Int.le_trans (szPieces_up _ _ h2) h
theorem szEnd_m {n : DEnd} {q : Int} (h : q ≤ 1048576) : szEnd n q ≤ 1048576 := by
  by_cases h2 : szEnd n q < 0
  · omega
  · exact Int.le_trans (szEnd_up _ _ h2) h
theorem szKnown_m {n : DKnown} {q : Int} (h : q ≤ 1048576) : szKnown n q ≤ 1048576 := by
  by_cases h2 : szKnown n q < 0
  · omega
  · exact Int.le_trans (szKnown_up _ _ h2) h
theorem szLs_m {n : List DLetter} {q : Int} (h : q ≤ 1048576) : szS szLetter n q ≤ 1048576 := by
  by_cases h2 : szS szLetter n q < 0
  · omega
  · exact Int.le_trans (szLs_up _ _ h2) h
theorem end_W {e : DEnd} (h : wfC aEnd.cts (aEnd.to e)) : e.W := by
  simp only [wfC, wfL, LT.leaf, maxLen] at h
  obtain ⟨_, _, _, _, _, _, ⟨h1, _⟩, ⟨h2, _⟩, ⟨h3, _⟩, ⟨h4, _⟩, _, _, _, h5, _, _, _, _, h6, ⟨h7, h8⟩, ⟨h9, _⟩, ⟨h10, _⟩, _⟩ := h
  refine ⟨by omega, by omega, by omega, by omega, by omega, ⟨by omega, by omega, fun x hx => ?_⟩, by omega, by omega⟩
  have := h8 x hx (.str x.text) (by simp [ETy.lv, leavesOf, LT.leaf])
  simp only [wfL] at this
  omega
theorem endB_of {e : DEnd} (h : ¬ szEnd e 1048576 < 0) : e.B := by
  have := szEnd_B (Int.le_refl _) h
  unfold DEnd.B
  omega
theorem letter_W {x : DLetter} (h : wfC aLetter.cts (aLetter.to x)) : x.text.length ≤ 9223372036854775807 := by
  simp only [wfC, wfL, LT.leaf, maxLen] at h
  omega
theorem dEnd_iff (x y : DEnd) : x = y ↔ x.side = y.side ∧ x.state = y.state ∧ x.key = y.key ∧ x.peer = y.peer ∧ x.policy = y.policy ∧ x.own = y.own ∧ x.far = y.far ∧ x.subs = y.subs ∧ x.halfs = y.halfs ∧ x.bucket = y.bucket ∧ x.out = y.out ∧ x.inn = y.inn ∧ x.done = y.done ∧ x.over = y.over ∧ x.draw = y.draw ∧ x.now = y.now ∧ x.pick = y.pick := by
  rcases x with ⟨⟩; rcases y with ⟨⟩; simp
/-! marks -/
def mDig (k : Nat) (out : List UInt8) : List UInt8 :=
  if h : k = 0 then out else mDig (k / 10) (UInt8.ofNat (IntKind.u8.wrap (w64 (48 + (k : Int).tmod 10))).toNat :: out)
termination_by k
decreasing_by omega
def mText (k : Int) : List UInt8 := if k ≤ 0 then [109, 48] else 109 :: mDig k.toNat []

def m3 (k : Int) : Bool := k.tmod 3 == 0
theorem m3_fold (a : Int) : (a.tmod 3 == 0) = m3 a := rfl
def mkInt (k : Int) : Int := k
def mkAddr (k : Int) : DAddr := ⟨k, k + 1, m3 (k + 2), m3 (k + 3)⟩
def mkSub (k : Int) : DSub := ⟨⟨k, k + 1, k + 2⟩, k + 3, m3 (k + 4), k + 5, k + 6, k + 7, k + 8, k + 9⟩
def mkHalf (k : Int) : DHalf := ⟨⟨k, k + 1, k + 2⟩, k + 3, k + 4, k + 5, k + 6, k + 7⟩
def mkPiece (k : Int) : DPiece := ⟨k, mText (k + 1)⟩
def mkTag (k : Int) : DTag := ⟨k, k + 1, k + 2, k + 3, k + 4⟩
def mkRoad (k : Int) : DRoad := ⟨k, k + 1, k + 2⟩
def mkLetter (k : Int) : DLetter := ⟨k, k + 1, k + 2, k + 3, k + 4, k + 5, k + 6, k + 7, k + 8, ⟨k + 9, k + 10, k + 11, k + 12, k + 13⟩, k + 14, k + 15, m3 (k + 16), k + 17, mText (k + 18)⟩

/-- A list, its elements marked from k on, n numbers an element. -/
def mkL {α : Type} (mk : Int → α) (n : Nat) : List α → Int → List α
  | [], _ => []
  | _ :: l, k => mk k :: mkL mk n l (k + n)
theorem mkL_length {α : Type} (mk : Int → α) (n : Nat) : ∀ (l : List α) (k : Int), (mkL mk n l k).length = l.length
  | [], _ => rfl
  | _ :: l, k => by simp [mkL, mkL_length mk n l]
/-- Are the marks still there? -/
def hdL {α : Type} [DecidableEq α] (mk : Int → α) (n : Nat) : List α → Int → Int
  | [], k => k
  | x :: l, k => if x = mk k then hdL mk n l (k + n) else -1
theorem hdL_mkL {α : Type} [DecidableEq α] (mk : Int → α) (n : Nat) : ∀ (l : List α) (k : Int), hdL mk n (mkL mk n l k) k = k + n * l.length
  | [], k => by simp [hdL, mkL]
  | _ :: l, k => by
    rw [mkL, hdL, if_pos rfl, hdL_mkL mk n l]
    rw [List.length_cons, Int.natCast_add, Int.mul_add]
    omega

theorem mk_step {α : Type} (mk : Int → α) (n : Nat) : ∀ (a : List α) (k : Int) (i : Nat), i < a.length → (mkL mk n (a.take i) k ++ a.drop i).set (i : Int).toNat (mk (k + n * i)) = mkL mk n (a.take (i + 1)) k ++ a.drop (i + 1)
  | [], k, i, h => by simp at h
  | x :: a, k, 0, _ => by simp [mkL]
  | x :: a, k, i + 1, h => by
    have ih := mk_step mk n a (k + n) i (by simpa using h)
    simp only [Int.toNat_natCast] at ih ⊢
    simp only [List.take_succ_cons, List.drop_succ_cons, mkL, List.cons_append, List.set_cons_succ]
    rw [← ih]
    congr 3
    rw [Int.natCast_add, Int.mul_add]
    omega
theorem mk_get {α : Type} (mk : Int → α) (n : Nat) (a : List α) (k : Int) (i : Nat) (d x : α) (h : a[i]? = some x) : (mkL mk n (a.take i) k ++ a.drop i).getD (i : Int).toNat d = x := by
  obtain ⟨hi, rfl⟩ := List.getElem?_eq_some_iff.1 h
  have hl : (mkL mk n (a.take i) k).length = i := by rw [mkL_length]; simp; omega
  rw [Int.toNat_natCast, List.getD, List.getElem?_append_right (by omega), hl, Nat.sub_self]
  simp [h]
theorem mk_len {α : Type} (mk : Int → α) (n : Nat) (a : List α) (k : Int) (i : Nat) (h : i ≤ a.length) : (mkL mk n (a.take i) k ++ a.drop i).length = a.length := by
  rw [List.length_append, mkL_length]; simp; omega
theorem set_get {α : Type} (l : List α) (i : Nat) (x d : α) (h : i < l.length) : (l.set i x).getD i d = x := by
  simp [List.getD, h]
theorem w64_inc {a : Int} (h1 : 0 ≤ a) (h2 : a ≤ 2305843009213693952) : w64 (a + 1) = a + 1 := w64_id (by omega) (by omega)

theorem u8_bd (n : Int) : 0 ≤ IntKind.u8.wrap n ∧ IntKind.u8.wrap n ≤ 255 := by
  unfold IntKind.wrap
  simp [IntKind.signed, IntKind.bits]
  omega
theorem w64_div10 {j : Nat} (h : j ≤ 2305843009213693952) : w64 ((j : Int).tdiv 10) = ((j / 10 : Nat) : Int) := by
  rw [Int.tdiv_eq_ediv_of_nonneg (by omega), w64_id] <;> omega

theorem hdL_bd {α : Type} [DecidableEq α] (mk : Int → α) (n : Nat) : ∀ (l : List α) (k : Int), -1 ≤ k → -1 ≤ hdL mk n l k ∧ hdL mk n l k ≤ k + n * l.length
  | [], k, h => by simp [hdL]; exact h
  | x :: l, k, h => by
    rw [hdL]
    split
    · have := hdL_bd mk n l (k + n) (by omega)
      rw [List.length_cons, Int.natCast_add, Int.mul_add]
      omega
    · have : 0 ≤ (n : Int) * ((x :: l).length : Int) := Int.mul_nonneg (by omega) (by omega)
      omega
theorem sqid_bd {q b : Int} (h : -1 ≤ q ∧ q ≤ b) (hb : -1 ≤ b) : -1 ≤ sq q id ∧ sq q id ≤ b := by
  unfold sq
  split
  · omega
  · exact h

def KB (k : Int) (n : Nat) : Prop := 0 ≤ k ∧ k + n ≤ 1152921504606846976

def mkEnd (e : DEnd) (k : Int) : DEnd :=
  let k1 := k + 4 * e.own.length
  let k2 := k1 + 4 * e.far.length
  let k3 := k2 + 10 * e.subs.length
  let k4 := k3 + 8 * e.halfs.length
  let k5 := k4 + 2 * e.inn.list.length
  let k6 := k5 + 1 * e.done.length
  { e with own := mkL mkAddr 4 e.own k, far := mkL mkAddr 4 e.far k1, subs := mkL mkSub 10 e.subs k2, halfs := mkL mkHalf 8 e.halfs k3,
           inn := { e.inn with list := mkL mkPiece 2 e.inn.list k4 }, done := mkL mkInt 1 e.done k5, over := mkL mkInt 1 e.over k6 }
def nEnd (e : DEnd) : Nat := 4 * e.own.length + 4 * e.far.length + 10 * e.subs.length + 8 * e.halfs.length + 2 * e.inn.list.length + e.done.length + e.over.length
def hdEnd (e : DEnd) (k : Int) : Int :=
  sq (hdL mkAddr 4 e.own k) fun k => sq (hdL mkAddr 4 e.far k) fun k => sq (hdL mkSub 10 e.subs k) fun k => sq (hdL mkHalf 8 e.halfs k) fun k =>
  sq (sq (hdL mkPiece 2 e.inn.list k) id) fun k => sq (hdL mkInt 1 e.done k) fun k => sq (hdL mkInt 1 e.over k) id
theorem mkEnd_B {e : DEnd} (k : Int) (h : e.B) : (mkEnd e k).B := by
  unfold DEnd.B mkEnd
  simp only [mkL_length]
  exact h
theorem mkEnd_n (e : DEnd) (k : Int) : nEnd (mkEnd e k) = nEnd e := by
  unfold nEnd mkEnd
  simp only [mkL_length]
theorem endK_of {e : DEnd} (h : ¬ szEnd e 1048576 < 0) : KB 1 (nEnd e) := by
  have := szEnd_B (Int.le_refl _) h
  unfold KB nEnd
  omega
theorem hd_mkEnd (e : DEnd) (k : Int) (hk : 0 ≤ k) : hdEnd (mkEnd e k) k = k + nEnd e := by
  unfold hdEnd mkEnd nEnd
  dsimp only
  rw [hdL_mkL, sq_eq (by omega)]
  rw [show k + ((4 : Nat) : Int) * e.own.length = k + 4 * e.own.length from rfl, hdL_mkL, sq_eq (by omega)]
  rw [show ∀ a : Int, a + ((4 : Nat) : Int) * e.far.length = a + 4 * e.far.length from fun _ => rfl, hdL_mkL, sq_eq (by omega)]
  rw [show ∀ a : Int, a + ((10 : Nat) : Int) * e.subs.length = a + 10 * e.subs.length from fun _ => rfl, hdL_mkL, sq_eq (by omega)]
  rw [show ∀ a : Int, a + ((8 : Nat) : Int) * e.halfs.length = a + 8 * e.halfs.length from fun _ => rfl, hdL_mkL, sq_eq (q := k + _ + _ + _ + _ + _) (by omega), sq_eq (by simp only [id]; omega)]
  simp only [id]
  rw [show ∀ a : Int, a + ((2 : Nat) : Int) * e.inn.list.length = a + 2 * e.inn.list.length from fun _ => rfl, hdL_mkL, sq_eq (by omega)]
  rw [show ∀ a : Int, a + ((1 : Nat) : Int) * e.done.length = a + 1 * e.done.length from fun _ => rfl, hdL_mkL, sq_eq (by omega)]
  simp only [id]
  omega
end Go.Eng
