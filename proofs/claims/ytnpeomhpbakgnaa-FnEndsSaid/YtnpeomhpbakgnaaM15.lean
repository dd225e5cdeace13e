/- Plain models of what the functions compute. -/
import Derived.Test.YtnpeomhpbakgnaaM14
set_option linter.unusedVariables false
set_option linter.unusedSimpArgs false
namespace Go.Eng

def mkKnown (x : DKnown) (k : Int) : DKnown := { keys := mkL mkInt 1 x.keys k, tags := mkL mkTag 5 x.tags (k + 1 * x.keys.length) }
def nKnown (x : DKnown) : Nat := x.keys.length + 5 * x.tags.length
def hdKnown (x : DKnown) (k : Int) : Int := sq (hdL mkInt 1 x.keys k) fun k => sq (hdL mkTag 5 x.tags k) id
def DKnown.B (x : DKnown) : Prop := x.keys.length ≤ 1073741824 ∧ x.tags.length ≤ 1073741824
theorem hd_mkKnown (x : DKnown) {k : Int} (hk : 0 ≤ k) : hdKnown (mkKnown x k) k = k + nKnown x := by
  simp only [hdKnown, mkKnown, nKnown]
  have h1 := hdL_mkL mkInt 1 x.keys k
  rw [h1, sq_eq (by omega)]
  have h2 := hdL_mkL mkTag 5 x.tags (k + ((1 : Nat) : Int) * x.keys.length)
  simp only [Int.natCast_one] at h2 ⊢
  rw [h2, sq_eq (by omega)]
  simp only [id]
  omega
def mkWorld (w : DWorld) (k : Int) : DWorld :=
  { w with a := mkEnd w.a k, b := mkEnd w.b (k + nEnd w.a), bag := mkL mkLetter 19 w.bag (k + nEnd w.a + nEnd w.b), past := mkL mkLetter 19 w.past (k + nEnd w.a + nEnd w.b + 19 * w.bag.length),
           known := mkKnown w.known (k + nEnd w.a + nEnd w.b + 19 * w.bag.length + 19 * w.past.length),
           nums := mkL mkInt 1 w.nums (k + nEnd w.a + nEnd w.b + 19 * w.bag.length + 19 * w.past.length + nKnown w.known),
           answersA := mkL mkInt 1 w.answersA (k + nEnd w.a + nEnd w.b + 19 * w.bag.length + 19 * w.past.length + nKnown w.known + 1 * w.nums.length),
           answersB := mkL mkInt 1 w.answersB (k + nEnd w.a + nEnd w.b + 19 * w.bag.length + 19 * w.past.length + nKnown w.known + 1 * w.nums.length + 1 * w.answersA.length) }
def nWorld (w : DWorld) : Nat := nEnd w.a + nEnd w.b + 19 * w.bag.length + 19 * w.past.length + nKnown w.known + w.nums.length + w.answersA.length + w.answersB.length
def hdWorld (w : DWorld) (k : Int) : Int :=
  sq (hdEnd w.a k) fun k => sq (hdEnd w.b k) fun k => sq (hdL mkLetter 19 w.bag k) fun k => sq (hdL mkLetter 19 w.past k) fun k => sq (hdKnown w.known k) fun k =>
  sq (hdL mkInt 1 w.nums k) fun k => sq (hdL mkInt 1 w.answersA k) fun k => sq (hdL mkInt 1 w.answersB k) id
theorem endN_le {e : DEnd} (h : e.B) : nEnd e ≤ 34359738368 := by
  obtain ⟨h1, h2, h3, h4, h5, h6, h7⟩ := h
  unfold nEnd
  omega
theorem hd_mkWorld (w : DWorld) : hdWorld (mkWorld w 1) 1 = 1 + nWorld w := by
  have hl : ∀ (l : List DLetter) (k : Int), hdL mkLetter 19 (mkL mkLetter 19 l k) k = k + 19 * (l.length : Int) := fun l k => hdL_mkL mkLetter 19 l k
  have hi : ∀ (l : List Int) (k : Int), hdL mkInt 1 (mkL mkInt 1 l k) k = k + 1 * (l.length : Int) := fun l k => hdL_mkL mkInt 1 l k
  unfold hdWorld mkWorld
  simp only []
  rw [hd_mkEnd w.a 1 (by decide), sq_eq (by omega)]
  rw [hd_mkEnd w.b _ (by omega), sq_eq (by omega)]
  rw [hl, sq_eq (by omega), hl, sq_eq (by omega), hd_mkKnown _ (by omega), sq_eq (by omega), hi, sq_eq (by omega), hi, sq_eq (by omega), hi, sq_eq (by omega)]
  simp only [id, nWorld]
  omega
theorem mkWorld_B {w : DWorld} (k : Int) (h : w.B) : (mkWorld w k).B := by
  obtain ⟨h1, h2, h3, h4, h5, h6, h7, h8, h9⟩ := h
  refine ⟨mkEnd_B _ h1, mkEnd_B _ h2, ?_, ?_, ?_, ?_, ?_, ?_, ?_⟩ <;> (simp only [mkWorld, mkKnown, mkL_length]; assumption)
theorem hdEnd_bd (e : DEnd) {k : Int} (h : -1 ≤ k) : -1 ≤ hdEnd e k ∧ hdEnd e k ≤ k + nEnd e := by
  have b1 := hdL_bd mkAddr 4 e.own k h
  have b2 := hdL_bd mkAddr 4 e.far _ b1.1
  have b3 := hdL_bd mkSub 10 e.subs _ b2.1
  have b4 := hdL_bd mkHalf 8 e.halfs _ b3.1
  have b5 := sqid_bd (hdL_bd mkPiece 2 e.inn.list _ b4.1) (by omega)
  have b6 := hdL_bd mkInt 1 e.done _ b5.1
  have b7 := hdL_bd mkInt 1 e.over _ b6.1
  unfold hdEnd nEnd
  unfold sq at b5 b6 b7 ⊢
  simp only [id] at *
  repeat' split
  all_goals simp_all
  all_goals omega
theorem hdKnown_bd (x : DKnown) {k : Int} (h : -1 ≤ k) : -1 ≤ hdKnown x k ∧ hdKnown x k ≤ k + nKnown x := by
  have b1 := hdL_bd mkInt 1 x.keys k h
  have b2 := hdL_bd mkTag 5 x.tags _ b1.1
  unfold hdKnown nKnown sq
  simp only [id]
  repeat' split
  all_goals omega
theorem szN_pos {n : Nat} {q : Int} (h : ¬ q - (n : Int) < 0) : szN n q = q - (n : Int) := if_neg h
theorem szN_neg {n : Nat} {q : Int} (h : q - (n : Int) < 0) : szN n q = -1 := if_pos h
theorem KB_world {w : DWorld} (h : w.B) : KB 1 (nWorld w) := by
  obtain ⟨h1, h2, h3, h4, h5, h6, h7, h8, h9⟩ := h
  have := endN_le h1
  have := endN_le h2
  unfold nWorld nKnown KB
  omega
theorem mkWorld_n (w : DWorld) (k : Int) : nWorld (mkWorld w k) = nWorld w := by
  simp only [nWorld, mkWorld, mkKnown, nKnown, mkL_length, mkEnd_n]
theorem dWorld_iff (x y : DWorld) : x = y ↔ x.a = y.a ∧ x.b = y.b ∧ x.bag = y.bag ∧ x.past = y.past ∧ x.wroteA = y.wroteA ∧ x.wroteB = y.wroteB ∧ x.readA = y.readA ∧ x.readB = y.readB ∧ x.known = y.known ∧ x.nums = y.nums ∧ x.answersA = y.answersA ∧ x.answersB = y.answersB := by
  rcases x with ⟨⟩; rcases y with ⟨⟩; simp
theorem dKnown_iff (x y : DKnown) : x = y ↔ x.keys = y.keys ∧ x.tags = y.tags := by
  rcases x with ⟨⟩; rcases y with ⟨⟩; simp
def mSideAt (a : Int) : Int := if mIn a 10 19 = true then 1 else if mIn a 20 29 = true then 2 else 0
def tagL (t : DTag) : List DTag → Nat → Bool
  | [], _ => false
  | g :: l, i => if i < 300 then (if g = t then true else tagL t l (i + 1)) else false
def mCanMake (k : DKnown) (t : DTag) : Bool := decide (t = tg0) || (mHas k.keys t.one && mHas k.keys t.two) || tagL t k.tags 0
def mMayNum (l : List Int) (n : Int) : Bool := !(decide (n ≥ 1000) && !mHas l n)
def mNumL (x : DLetter) : List Int := [x.key, x.nonce, x.give, x.sign]
def mMayInject (w : DWorld) (x : DLetter) : Bool :=
  mLetterOk x && !(mSideAt x.dst == 0) && mCanMake w.known x.tag && allL (mMayNum w.nums) (mNumL x)
theorem side_div {a : Int} (h : mIn a 10 29 = true) : w64 (a.tdiv 10) = mSideAt a := by
  have hi := mIn_iff.1 h
  rw [Int.tdiv_eq_ediv_of_nonneg (by omega), w64_id (by omega) (by omega)]
  unfold mSideAt
  simp only [mIn_iff]
  split
  · omega
  · split <;> omega
def end0 : DEnd := ⟨0, 0, 0, 0, ⟨0, 0⟩, [], [], [], [], ⟨0, 0, 0⟩, ⟨[], 0, 0, 0⟩, ⟨0, [], []⟩, [], [], 0, 0, 0⟩
def mEndAt (w : DWorld) (s : Int) : DEnd := if s = 1 then w.a else if s = 2 then w.b else end0
theorem mEndAt_B {w : DWorld} (s : Int) (h : w.B) : (mEndAt w s).B := by
  unfold mEndAt
  split
  · exact h.1
  · split
    · exact h.2.1
    · simp [DEnd.B, end0]
theorem letters_W {l : List DLetter} (h : ∀ x ∈ l, ∀ y ∈ ETy.letter.lv x, wfL y) : ∀ x ∈ l, x.text.length ≤ 9223372036854775807 := fun x hx => by
  have := h x hx (.str x.text) (by simp [ETy.lv, leavesOf, LT.leaf])
  simp only [wfL, maxLen] at this
  omega
theorem pieces_W {l : List DPiece} (h : ∀ x ∈ l, ∀ y ∈ ETy.piece.lv x, wfL y) : ∀ x ∈ l, x.text.length ≤ 9223372036854775807 := fun x hx => by
  have := h x hx (.str x.text) (by simp [ETy.lv, leavesOf, LT.leaf])
  simp only [wfL, maxLen] at this
  omega
theorem world_W {w : DWorld} (h : wfC aWorld.cts (aWorld.to w)) : w.W := by
  simp only [wfC, wfL, LT.leaf, maxLen] at h
  obtain ⟨_, _, _, _, _, _, ⟨a1, _⟩, ⟨a2, _⟩, ⟨a3, _⟩, ⟨a4, _⟩, _, _, _, a5, _, _, _, _, a6, ⟨a7, a8⟩, ⟨a9, _⟩, ⟨a10, _⟩, _, _, _, _, _, _, _, _, _, ⟨b1, _⟩, ⟨b2, _⟩, ⟨b3, _⟩, ⟨b4, _⟩, _, _, _, b5, _, _, _, _, b6, ⟨b7, b8⟩, ⟨b9, _⟩, ⟨b10, _⟩, _, _, _, ⟨c1, c2⟩, ⟨c3, c4⟩, c5, c6, c7, c8, ⟨c9, _⟩, ⟨c10, _⟩, ⟨c11, _⟩, ⟨c12, _⟩, ⟨c13, _⟩, _⟩ := h
  refine ⟨⟨by omega, by omega, by omega, by omega, by omega, ⟨by omega, by omega, pieces_W a8⟩, by omega, by omega⟩, ⟨by omega, by omega, by omega, by omega, by omega, ⟨by omega, by omega, pieces_W b8⟩, by omega, by omega⟩, ⟨by omega, letters_W c2⟩, ⟨by omega, letters_W c4⟩, by omega, by omega, by omega, by omega, by omega, by omega, by omega, by omega, by omega⟩
theorem worldB_of {w : DWorld} (h : ¬ szWorld w 1048576 < 0) : w.B := by
  have h : 0 ≤ szWorld w 1048576 := by omega
  unfold szWorld at h
  obtain ⟨a1, h⟩ := sq_ge h
  obtain ⟨a2, h⟩ := sq_ge h
  obtain ⟨a3, h⟩ := sq_ge h
  obtain ⟨a4, h⟩ := sq_ge h
  obtain ⟨a5, h⟩ := sq_ge h
  obtain ⟨a6, h⟩ := sq_ge h
  obtain ⟨a7, h⟩ := sq_ge h
  obtain ⟨a8, h⟩ := sq_ge h
  obtain ⟨a9, h⟩ := sq_ge h
  obtain ⟨a10, h⟩ := sq_ge h
  obtain ⟨a11, h⟩ := sq_ge h
  obtain ⟨a12, h⟩ := sq_ge h
  have e1 := szEnd_B (Int.le_refl _) (by omega : ¬ szEnd w.a 1048576 < 0)
  have m1 := szEnd_m (n := w.a) (Int.le_refl 1048576)
  have e2 := szEnd_B m1 (by omega : ¬ szEnd w.b (szEnd w.a 1048576) < 0)
  have m2 := szEnd_m (n := w.b) m1
  have m3 := szLs_m (n := w.bag) m2
  have m4 := szLs_m (n := w.past) m3
  unfold szS at a3 a4
  obtain ⟨a3', _⟩ := sq_ge a3
  obtain ⟨a4', _⟩ := sq_ge a4
  have m3' : sq (szN w.bag.length (szEnd w.b (szEnd w.a 1048576))) (szL szLetter w.bag) ≤ 1048576 := m3
  have c3 := szN_ge a3'
  have c4 := szN_ge a4'
  have c5 := szN_ge a5
  have c6 := szN_ge a6
  have c7 := szN_ge a7
  have c8 := szN_ge a8
  have c9u := szKnown_up w.known _ (Int.not_lt.2 a9)
  unfold szKnown at a9
  obtain ⟨a9', a9''⟩ := sq_ge a9
  obtain ⟨a9'', _⟩ := sq_ge a9''
  have c9 := szN_ge a9'
  have c9' := szN_ge a9''
  have c10 := szN_ge a10
  have c11 := szN_ge a11
  have c12 := szN_ge a12
  refine ⟨?_, ?_, ?_, ?_, ?_, ?_, ?_, ?_, ?_⟩
  · unfold DEnd.B; omega
  · unfold DEnd.B; omega
  all_goals omega
theorem sq_m {q : Int} {k : Int → Int} (h : k q ≤ 1048576) : sq q k ≤ 1048576 := by
  unfold sq
  split
  · omega
  · exact h
theorem sq_mid {q : Int} (h : q ≤ 1048576) : sq q id ≤ 1048576 := by
  unfold sq
  split
  · omega
  · exact h
theorem szWorld_m {w : DWorld} {q : Int} (hq : q ≤ 1048576) : szWorld w q ≤ 1048576 := by
  have m1 := szEnd_m (n := w.a) hq
  have m2 := szEnd_m (n := w.b) m1
  have m3 := szLs_m (n := w.bag) m2
  have m4 := szLs_m (n := w.past) m3
  have m5 := szN_m (n := w.wroteA.length) m4
  have m6 := szN_m (n := w.wroteB.length) m5
  have m7 := szN_m (n := w.readA.length) m6
  have m8 := szN_m (n := w.readB.length) m7
  have m9 := szKnown_m (n := w.known) m8
  have m10 := szN_m (n := w.nums.length) m9
  have m11 := szN_m (n := w.answersA.length) m10
  have m12 := szN_m (n := w.answersB.length) m11
  have m13 := sq_mid m12
  unfold szWorld
  iterate 11 with_reducible refine sq_m ?_
  exact m13
theorem hd_mk1w (w : DWorld) : hdWorld (mkWorld w 1) 1 = 1 + (nWorld w : Int) := hd_mkWorld w
end Go.Eng
