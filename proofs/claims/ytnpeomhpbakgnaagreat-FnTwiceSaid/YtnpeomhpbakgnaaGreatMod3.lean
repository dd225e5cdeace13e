/- Plain models of what the functions compute; part 3. No program in sight. -/
import Derived.Test.YtnpeomhpbakgnaaGreatMod2
set_option linter.unusedVariables false
set_option linter.unusedSimpArgs false
namespace Go.Eng
def dEnd (c : DCur) : DEnd := if mOnce (mEnds c).1 2 = true then (mEnds c).2.1 else (mEnds c).2.2
def dEndC (c : DCur) : DCur := mBelowC (mEnds c).1 2
theorem dEndC_B {c : DCur} (h : c.B) : (dEndC c).B := mBelowC_B _ (mEnds_B h)
theorem dEndC_b (c : DCur) : (dEndC c).b = c.b := by rw [dEndC, mBelowC_b, mEnds_b]
theorem dEnd_R (c : DCur) : (dEnd c).R := by
 have h := mEnds_R c
 unfold dEnd; split
 ·exact h.1
 ·exact h.2
theorem dEnd_Bd (c : DCur) : Bd 7000 20 (dEnd c) := by
 have h := mEnds_Bd c
 unfold dEnd; split
 ·exact h.1
 ·exact h.2
/-- Halves, some of them not right. -/
def lTil : List Int := [-1, 1000000001]
def dHalfs1 (l : List DHalf) (c : DCur) : List DHalf × DCur := if mOnce c 8 = true then (l ++ [dHalf (mBelowC c 8)], dHalfC (mBelowC c 8)) else (l, mBelowC c 8)
def dHalfs2 (l : List DHalf) (c : DCur) : List DHalf × DCur :=
 if 0 < l.length then (if mOnce c 10 = true then (l.set 0 { l.getD 0 (ETy.zero .half) with til := mPickInt (mBelowC c 10) lTil }, mPickIntC (mBelowC c 10) lTil) else (l, mBelowC c 10)) else (l, c)
def dHalfsAny (c : DCur) : List DHalf × DCur := dHalfs2 (dHalfs1 (dHalfs c).1 (dHalfs c).2).1 (dHalfs1 (dHalfs c).1 (dHalfs c).2).2
theorem dHalfs1_B (l : List DHalf) {c : DCur} (h : c.B) : (dHalfs1 l c).2.B := by
 unfold dHalfs1; split
 ·exact dHalfC_B (mBelowC_B _ h)
 ·exact mBelowC_B _ h
theorem dHalfs1_b (l : List DHalf) (c : DCur) : (dHalfs1 l c).2.b = c.b := by
 unfold dHalfs1; split
 ·simp only [dHalfC_b, mBelowC_b]
 ·exact mBelowC_b _ _
theorem dHalfs2_B (l : List DHalf) {c : DCur} (h : c.B) : (dHalfs2 l c).2.B := by
 unfold dHalfs2; repeat' split
 ·exact mBelowC_B _ (mBelowC_B _ h)
 ·exact mBelowC_B _ h
 ·exact h
theorem dHalfs2_b (l : List DHalf) (c : DCur) : (dHalfs2 l c).2.b = c.b := by
 unfold dHalfs2; repeat' split
 ·simp only [mPickIntC_b, mBelowC_b]
 ·exact mBelowC_b _ _
 ·rfl
theorem dHalfsAny_B {c : DCur} (h : c.B) : (dHalfsAny c).2.B := dHalfs2_B _ (dHalfs1_B _ (dHalfs_B h))
theorem dHalfsAny_b (c : DCur) : (dHalfsAny c).2.b = c.b := by rw [dHalfsAny, dHalfs2_b, dHalfs1_b, dHalfs_b]
theorem dHalfs1_len (l : List DHalf) (c : DCur) : (dHalfs1 l c).1.length ≤ l.length + 1 := by
 unfold dHalfs1; split
 ·simp
 ·exact Nat.le_succ _
theorem dHalfs2_len (l : List DHalf) (c : DCur) : (dHalfs2 l c).1.length = l.length := by
 unfold dHalfs2; repeat' split
 all_goals simp
theorem dHalfsAny_len (c : DCur) : (dHalfsAny c).1.length ≤ 8 := by
 have h1 := dHalfs_len c
 have h2 := dHalfs1_len (dHalfs c).1 (dHalfs c).2
 rw [dHalfsAny, dHalfs2_len]; omega
/-- Something drawn turn by turn: as long as the place is below the number that is drawn anew. -/
def dLoop {α : Type} (n : Int) (f : DCur → α → α × DCur) : Nat → Nat → DCur → α → α × DCur
 | 0, _, c, x => (x, c)
 | k + 1, i, c, x => if (i : Int) < mBelow c n then dLoop n f k (i + 1) (f (mBelowC c n) x).2 (f (mBelowC c n) x).1 else (x, mBelowC c n)
theorem dLoop_B {α : Type} {n : Int} {f : DCur → α → α × DCur} (hf : ∀ (c : DCur) (x : α), c.B → (f c x).2.B) : ∀ (k i : Nat) (c : DCur) (x : α), c.B → (dLoop n f k i c x).2.B
 | 0, _, _, _, h => h
 | k + 1, i, c, x, h => by
  rw [dLoop]; split
  ·exact dLoop_B hf k _ _ _ (hf _ _ (mBelowC_B _ h))
  ·exact mBelowC_B _ h
theorem dLoop_b {α : Type} {n : Int} {f : DCur → α → α × DCur} (hf : ∀ (c : DCur) (x : α), (f c x).2.b = c.b) : ∀ (k i : Nat) (c : DCur) (x : α), (dLoop n f k i c x).2.b = c.b
 | 0, _, _, _ => rfl
 | k + 1, i, c, x => by
  rw [dLoop]; split
  ·rw [dLoop_b hf k, hf, mBelowC_b]
  ·exact mBelowC_b _ _
theorem dLoop_P {α : Type} {n : Int} {f : DCur → α → α × DCur} (P : α → Prop) (hf : ∀ (c : DCur) (x : α), P x → P (f c x).1) : ∀ (k i : Nat) (c : DCur) (x : α), P x → P (dLoop n f k i c x).1
 | 0, _, _, _, h => h
 | k + 1, i, c, x, h => by
  rw [dLoop]; split
  ·exact dLoop_P P hf k _ _ _ (hf _ _ h)
  ·exact h
/-- What is to be sent, drawn. -/
def outStep (c : DCur) (o : DOut) : DOut × DCur :=
 if mBelow c 4 = 0 then ((mAccept o (dText (mBelowC (mBelowC c 4) 40) (mBelow (mBelowC c 4) 40))).1, dTextC (mBelowC (mBelowC c 4) 40) (mBelow (mBelowC c 4) 40))
 else if mBelow c 4 = 1 then (mWasSent o, mBelowC c 4)
 else if mBelow c 4 = 2 then (mCame o (w64 (o.base + mBelow (mBelowC c 4) 20)), mBelowC (mBelowC c 4) 20)
 else (mAnew o, mBelowC c 4)
theorem outStep_B (c : DCur) (o : DOut) (h : c.B) : (outStep c o).2.B := by
 have h4 := mBelowC_B 4 h
 unfold outStep; repeat' split
 ·exact dTextC_B _ (mBelowC_B _ h4)
 ·exact h4
 ·exact mBelowC_B _ h4
 ·exact h4
theorem outStep_b (c : DCur) (o : DOut) : (outStep c o).2.b = c.b := by
 unfold outStep; repeat' split
 all_goals simp only [dTextC_b, mBelowC_b]
def lRoom : List Int := [200, 60, 10, 1]
def dOut0 (c : DCur) : DOut := ⟨[], mBelow c 50, mBelow c 50, mPickInt (mBelowC c 50) lRoom⟩
def dOutL (c : DCur) : DOut × DCur := dLoop 5 outStep 6 0 (mPickIntC (mBelowC c 50) lRoom) (dOut0 c)
theorem dOutL_B {c : DCur} (h : c.B) : (dOutL c).2.B := dLoop_B outStep_B _ _ _ _ (mBelowC_B _ (mBelowC_B _ h))
theorem dOutL_b (c : DCur) : (dOutL c).2.b = c.b := by rw [dOutL, dLoop_b outStep_b, mPickIntC_b, mBelowC_b]
def lBase : List Int := [-1, 1000000000, 1000000001, 3]
def lSent : List Int := [-1, 0, 500]
def lRoom2 : List Int := [0, 201, 1, -1]
def dOut2 (o : DOut) (c : DCur) : DOut × DCur :=
 if mBelow c 12 = 0 then ({ o with base := mPickInt (mBelowC c 12) lBase }, mPickIntC (mBelowC c 12) lBase)
 else if mBelow c 12 = 1 then ({ o with sent := mPickInt (mBelowC c 12) lSent }, mPickIntC (mBelowC c 12) lSent)
 else if mBelow c 12 = 2 then ({ o with room := mPickInt (mBelowC c 12) lRoom2 }, mPickIntC (mBelowC c 12) lRoom2)
 else (o, mBelowC c 12)
def dOutAny (c : DCur) : DOut × DCur := dOut2 (dOutL c).1 (dOutL c).2
theorem dOut2_B (o : DOut) {c : DCur} (h : c.B) : (dOut2 o c).2.B := by
 have h4 := mBelowC_B 12 h
 unfold dOut2; repeat' split
 all_goals first | exact h4 | exact mBelowC_B _ h4
theorem dOut2_b (o : DOut) (c : DCur) : (dOut2 o c).2.b = c.b := by
 unfold dOut2; repeat' split
 all_goals simp only [mPickIntC_b, mBelowC_b]
theorem dOutAny_B {c : DCur} (h : c.B) : (dOutAny c).2.B := dOut2_B _ (dOutL_B h)
theorem dOutAny_b (c : DCur) : (dOutAny c).2.b = c.b := by rw [dOutAny, dOut2_b, dOutL_b]
/-- What came, drawn. -/
def pcStep (c : DCur) (p : DPieces) : DPieces × DCur :=
 (mPutPiece p (mBelow c 50) (dText (mBelowC (mBelowC c 50) 12) (w64 (1 + mBelow (mBelowC c 50) 12))), dTextC (mBelowC (mBelowC c 50) 12) (w64 (1 + mBelow (mBelowC c 50) 12)))
theorem pcStep_B (c : DCur) (p : DPieces) (h : c.B) : (pcStep c p).2.B := dTextC_B _ (mBelowC_B _ (mBelowC_B _ h))
theorem pcStep_b (c : DCur) (p : DPieces) : (pcStep c p).2.b = c.b := by simp only [pcStep, dTextC_b, mBelowC_b]
def DPieces.O (p : DPieces) : Prop := mPiecesOk p = true ∧ p.K
theorem pcStep_O (c : DCur) (p : DPieces) (h : p.O) : (pcStep c p).1.O := ⟨piecesOk_put _ _ h.1, K_put _ _ h.2 h.1⟩
theorem O_S {p : DPieces} (h : p.O) : p.S := ⟨Nat.le_trans h.2.1 (by decide), Nat.le_trans (by have := (piecesOk_bd h.1).2; omega : p.list.length ≤ 20) (by decide), fun x hx => Nat.le_trans (h.2.2 x hx) (by decide)⟩
def dPcs0 (c : DCur) : DPieces := ⟨mBelow c 9, [], []⟩
theorem dPcs0_O (c : DCur) : (dPcs0 c).O := by
 have h := mBelow_bd (c := c) (n := 9) (by decide)
 refine ⟨?_, Nat.zero_le _, fun x hx => by cases hx⟩
 rw [piecesOk_iff (by simp [dPcs0]) (by intro x hx; cases hx)]
 simp [dPcs0, sumT, ordL]
 omega
def dPcs (c : DCur) : DPieces × DCur := dLoop 6 pcStep 7 0 (mBelowC c 9) (dPcs0 c)
theorem dPcs_B {c : DCur} (h : c.B) : (dPcs c).2.B := dLoop_B pcStep_B _ _ _ _ (mBelowC_B _ h)
theorem dPcs_b (c : DCur) : (dPcs c).2.b = c.b := by rw [dPcs, dLoop_b pcStep_b, mBelowC_b]
theorem dPcs_O (c : DCur) : (dPcs c).1.O := dLoop_P _ pcStep_O _ _ _ _ (dPcs0_O c)
def lRead : List Int := [-1, 1000000001, 1000000000]
def lReady : List Int := [190, 200, 201]
def lText : List (List UInt8) := [[], [97]]
def mPickS (c : DCur) (l : List (List UInt8)) : List UInt8 := l.getD (mBelow c l.length).toNat []
def mPickSC (c : DCur) (l : List (List UInt8)) : DCur := mBelowC c l.length
theorem mPickSC_b (c : DCur) (l : List (List UInt8)) : (mPickSC c l).b = c.b := mBelowC_b c _
def pcZ (l : List DPiece) : Nat → List DPiece
 | 0 => l
 | i + 1 => pcZ l i ++ [⟨w64 (100 + w64 (2 * (i : Int))), [122]⟩]
theorem pcZ_len (l : List DPiece) : ∀ i, (pcZ l i).length = l.length + i
 | 0 => rfl
 | i + 1 => by rw [pcZ, List.length_append, pcZ_len l i]; rfl
theorem pcZ_text (l : List DPiece) {B : Nat} (hB : 1 ≤ B) (h : ∀ x ∈ l, x.text.length ≤ B) : ∀ i, ∀ x ∈ pcZ l i, x.text.length ≤ B
 | 0, x, hx => h x hx
 | i + 1, x, hx => by
  rw [pcZ] at hx
  rcases List.mem_append.1 hx with hx | hx
  ·exact pcZ_text l hB h i x hx
  ·rw [List.mem_singleton.1 hx]; exact hB
def dPcs2 (p : DPieces) (c : DCur) : DPieces × DCur :=
 if mBelow c 16 = 0 then ({ p with read := mPickInt (mBelowC c 16) lRead }, mPickIntC (mBelowC c 16) lRead)
 else if mBelow c 16 = 1 then ({ p with list := p.list ++ [⟨mBelow (mBelowC c 16) 60, mPickS (mBelowC (mBelowC c 16) 60) lText⟩] }, mPickSC (mBelowC (mBelowC c 16) 60) lText)
 else if mBelow c 16 = 2 then ({ p with ready := mLong (mPickInt (mBelowC c 16) lReady) 97 }, mPickIntC (mBelowC c 16) lReady)
 else if mBelow c 16 = 3 then ({ p with list := pcZ p.list 20 }, mBelowC c 16)
 else (p, mBelowC c 16)
def dPcsAny (c : DCur) : DPieces × DCur := dPcs2 (dPcs c).1 (dPcs c).2
theorem dPcs2_B (p : DPieces) {c : DCur} (h : c.B) : (dPcs2 p c).2.B := by
 have h4 := mBelowC_B 16 h
 unfold dPcs2; repeat' split
 all_goals first | exact h4 | exact mBelowC_B _ h4 | exact mBelowC_B _ (mBelowC_B _ h4)
theorem dPcs2_b (p : DPieces) (c : DCur) : (dPcs2 p c).2.b = c.b := by
 unfold dPcs2; repeat' split
 all_goals simp only [mPickIntC_b, mPickSC_b, mBelowC_b]
theorem dPcsAny_B {c : DCur} (h : c.B) : (dPcsAny c).2.B := dPcs2_B _ (dPcs_B h)
theorem dPcsAny_b (c : DCur) : (dPcsAny c).2.b = c.b := by rw [dPcsAny, dPcs2_b, dPcs_b]
theorem getD_mem {α : Type} {l : List α} {i : Nat} (d : α) (h : i < l.length) : l.getD i d ∈ l := by
 rw [List.getD, List.getElem?_eq_getElem h]; exact List.getElem_mem h
theorem pickInt_mem (c : DCur) {l : List Int} (h : 0 < l.length) : mPickInt c l ∈ l := by
 have := mBelow_bd (c := c) (n := l.length) (by omega)
 exact getD_mem _ (by omega)
theorem pickS_mem (c : DCur) {l : List (List UInt8)} (h : 0 < l.length) : mPickS c l ∈ l := by
 have := mBelow_bd (c := c) (n := l.length) (by omega)
 exact getD_mem _ (by omega)
/-- Few bytes, few pieces. -/
def DPieces.F (p : DPieces) : Prop := p.ready.length ≤ 201 ∧ p.list.length ≤ 40 ∧ ∀ x ∈ p.list, x.text.length ≤ 200
theorem F_S {p : DPieces} (h : p.F) : p.S := ⟨Nat.le_trans h.1 (by decide), Nat.le_trans h.2.1 (by decide), fun x hx => Nat.le_trans (h.2.2 x hx) (by decide)⟩
theorem dPcsAny_F (c : DCur) : (dPcsAny c).1.F := by
 obtain ⟨h1, h2, h3⟩ := dPcs_O c
 have h4 : (dPcs c).1.list.length ≤ 20 := by have := (piecesOk_bd h1).2; omega
 unfold dPcsAny dPcs2; repeat' split
 ·exact ⟨by simp only []; omega, by simp only []; omega, h3⟩
 ·refine ⟨by simp only []; omega, by simp only [List.length_append, List.length_cons, List.length_nil]; omega, fun x hx => ?_⟩
  rcases List.mem_append.1 hx with hx | hx
  ·exact h3 x hx
  ·rw [List.mem_singleton.1 hx]
   have := pickS_mem (mBelowC (mBelowC (dPcs c).2 16) 60) (l := lText) (by decide)
   dsimp only
   generalize mPickS (mBelowC (mBelowC (dPcs c).2 16) 60) lText = t at this
   simp only [lText, List.mem_cons, List.not_mem_nil, or_false] at this
   rcases this with rfl | rfl <;> decide
 ·refine ⟨?_, by simp only []; omega, h3⟩
  have := pickInt_mem (mBelowC (dPcs c).2 16) (l := lReady) (by decide)
  simp only [mLong, List.length_replicate]
  generalize mPickInt (mBelowC (dPcs c).2 16) lReady = t at this
  simp only [lReady, List.mem_cons, List.not_mem_nil, or_false] at this
  rcases this with rfl | rfl | rfl <;> decide
 ·exact ⟨by simp only []; omega, by simp only [pcZ_len]; omega, pcZ_text _ (by decide) h3 20⟩
 ·exact ⟨by simp only []; omega, by simp only []; omega, h3⟩
/-- Subs, the first one again and again. -/
def subFill : Nat → List DSub → DCur → List DSub × DCur
 | 0, l, c => (l, c)
 | k + 1, l, c => if 0 < l.length then (if (l.length : Int) < w64 (8 + mBelow c 2) then subFill k (l ++ [l.getD 0 (ETy.zero .sub)]) (mBelowC c 2) else (l, mBelowC c 2)) else (l, c)
theorem subFill_B : ∀ (k : Nat) (l : List DSub) {c : DCur}, c.B → (subFill k l c).2.B
 | 0, _, _, h => h
 | k + 1, l, c, h => by
  rw [subFill]; repeat' split
  ·exact subFill_B k _ (mBelowC_B _ h)
  ·exact mBelowC_B _ h
  ·exact h
theorem subFill_b : ∀ (k : Nat) (l : List DSub) (c : DCur), (subFill k l c).2.b = c.b
 | 0, _, _ => rfl
 | k + 1, l, c => by
  rw [subFill]; repeat' split
  ·rw [subFill_b k, mBelowC_b]
  ·exact mBelowC_b _ _
  ·rfl
theorem subFill_len : ∀ (k : Nat) (l : List DSub) (c : DCur), l.length ≤ 9 → (subFill k l c).1.length ≤ 9
 | 0, _, _, h => h
 | k + 1, l, c, h => by
  have hb := mBelow_bd (c := c) (n := 2) (by decide)
  rw [subFill]; repeat' split
  ·rename_i h1 h2
   rw [w64_id (by omega) (by omega)] at h2
   exact subFill_len k _ _ (by rw [List.length_append]; simp only [List.length_cons, List.length_nil]; omega)
  ·exact h
  ·exact h
theorem subFill_mem : ∀ (k : Nat) (l : List DSub) (c : DCur), ∀ s ∈ (subFill k l c).1, s ∈ l
 | 0, _, _, s, h => h
 | k + 1, l, c, s, h => by
  rw [subFill] at h; repeat' split at h
  ·rename_i h1 h2
   have := subFill_mem k _ _ s h
   rcases List.mem_append.1 this with h | h
   ·exact h
   ·rw [List.mem_singleton.1 h]; exact getD_mem _ h1
  ·exact h
  ·exact h
def lState : List Int := [-1, 0, 1, 3]
def lDraw : List Int := [0, 1000000000, 999999998, -1]
def lOver : List Int := [3, 256, -1, 0]
def lRead3 : List Int := [-1, 1000000000, 1000000001]
def lPick : List Int := [1000000000, -1, 5]
/-- An end drawn, with one thing changed. -/
def altK (k : Int) (e : DEnd) (c : DCur) : DEnd × DCur :=
 if k = 0 then ({ e with side := mBelow c 4 }, mBelowC c 4)
 else if k = 1 then ({ e with state := mPickInt c lState }, mPickIntC c lState)
 else if k = 2 then ({ e with draw := mPickInt c lDraw }, mPickIntC c lDraw)
 else if k = 3 then ({ e with now := mPickInt c lRead3 }, mPickIntC c lRead3)
 else if k = 4 then ({ e with own := (dAddrsAny c).1 }, (dAddrsAny c).2)
 else if k = 5 then ({ e with halfs := (dHalfsAny c).1 }, (dHalfsAny c).2)
 else if k = 6 then ({ e with out := (dOutAny c).1 }, (dOutAny c).2)
 else if k = 7 then ({ e with inn := (dPcsAny c).1 }, (dPcsAny c).2)
 else if k = 8 then ({ e with subs := (subFill 10 e.subs c).1 }, (subFill 10 e.subs c).2)
 else if k = 9 then (if 0 < e.subs.length then ({ e with subs := e.subs.set 0 { e.subs.getD 0 (ETy.zero .sub) with state := mBelow c 6 } }, mBelowC c 6) else (e, c))
 else if k = 11 then ({ e with done := e.done ++ [mBelow c 4] }, mBelowC c 4)
 else if k = 12 then ({ e with over := e.over ++ [mPickInt c lOver] }, mPickIntC c lOver)
 else if k = 10 then ({ e with pick := mPickInt c lPick }, mPickIntC c lPick)
 else (e, c)
def dAny (c : DCur) : DEnd × DCur := altK (mBelow (dEndC c) 18) (dEnd c) (mBelowC (dEndC c) 18)
theorem altKs : (∀ (e : DEnd) (c : DCur), altK 0 e c = ({ e with side := mBelow c 4 }, mBelowC c 4)) ∧ (∀ (e : DEnd) (c : DCur), altK 1 e c = ({ e with state := mPickInt c lState }, mPickIntC c lState)) ∧ (∀ (e : DEnd) (c : DCur), altK 2 e c = ({ e with draw := mPickInt c lDraw }, mPickIntC c lDraw)) ∧ (∀ (e : DEnd) (c : DCur), altK 3 e c = ({ e with now := mPickInt c lRead3 }, mPickIntC c lRead3)) ∧ (∀ (e : DEnd) (c : DCur), altK 4 e c = ({ e with own := (dAddrsAny c).1 }, (dAddrsAny c).2)) ∧ (∀ (e : DEnd) (c : DCur), altK 5 e c = ({ e with halfs := (dHalfsAny c).1 }, (dHalfsAny c).2)) ∧ (∀ (e : DEnd) (c : DCur), altK 6 e c = ({ e with out := (dOutAny c).1 }, (dOutAny c).2)) ∧ (∀ (e : DEnd) (c : DCur), altK 7 e c = ({ e with inn := (dPcsAny c).1 }, (dPcsAny c).2)) ∧ (∀ (e : DEnd) (c : DCur), altK 8 e c = ({ e with subs := (subFill 10 e.subs c).1 }, (subFill 10 e.subs c).2)) ∧ (∀ (e : DEnd) (c : DCur), altK 9 e c = (if 0 < e.subs.length then ({ e with subs := e.subs.set 0 { e.subs.getD 0 (ETy.zero .sub) with state := mBelow c 6 } }, mBelowC c 6) else (e, c))) ∧ (∀ (e : DEnd) (c : DCur), altK 10 e c = ({ e with pick := mPickInt c lPick }, mPickIntC c lPick)) ∧ (∀ (e : DEnd) (c : DCur), altK 11 e c = ({ e with done := e.done ++ [mBelow c 4] }, mBelowC c 4)) ∧ (∀ (e : DEnd) (c : DCur), altK 12 e c = ({ e with over := e.over ++ [mPickInt c lOver] }, mPickIntC c lOver)) :=
 ⟨fun _ _ => rfl, fun _ _ => rfl, fun _ _ => rfl, fun _ _ => rfl, fun _ _ => rfl, fun _ _ => rfl, fun _ _ => rfl, fun _ _ => rfl, fun _ _ => rfl, fun _ _ => rfl, fun _ _ => rfl, fun _ _ => rfl, fun _ _ => rfl⟩
theorem altK_no {k : Int} (h : 13 ≤ k) (e : DEnd) (c : DCur) : altK k e c = (e, c) := by
 unfold altK
 rw [if_neg (by omega), if_neg (by omega), if_neg (by omega), if_neg (by omega), if_neg (by omega), if_neg (by omega), if_neg (by omega), if_neg (by omega), if_neg (by omega), if_neg (by omega), if_neg (by omega), if_neg (by omega), if_neg (by omega)]
theorem altK_B (k : Int) (e : DEnd) {c : DCur} (h : c.B) : (altK k e c).2.B :=
 iteP (P := fun z : DEnd × DCur => z.2.B) (mBelowC_B _ h) (iteP (P := fun z : DEnd × DCur => z.2.B) (mBelowC_B _ h) (iteP (P := fun z : DEnd × DCur => z.2.B) (mBelowC_B _ h) (iteP (P := fun z : DEnd × DCur => z.2.B) (mBelowC_B _ h) (iteP (P := fun z : DEnd × DCur => z.2.B) (dAddrsAny_B h) (iteP (P := fun z : DEnd × DCur => z.2.B) (dHalfsAny_B h) (iteP (P := fun z : DEnd × DCur => z.2.B) (dOutAny_B h) (iteP (P := fun z : DEnd × DCur => z.2.B) (dPcsAny_B h) (iteP (P := fun z : DEnd × DCur => z.2.B) (subFill_B _ _ h) (iteP (P := fun z : DEnd × DCur => z.2.B) (iteP (P := fun z : DEnd × DCur => z.2.B) (mBelowC_B _ h) h) (iteP (P := fun z : DEnd × DCur => z.2.B) (mBelowC_B _ h) (iteP (P := fun z : DEnd × DCur => z.2.B) (mBelowC_B _ h) (iteP (P := fun z : DEnd × DCur => z.2.B) (mBelowC_B _ h) (h)))))))))))))
theorem altK_b (k : Int) (e : DEnd) (c : DCur) : (altK k e c).2.b = c.b :=
 iteP (P := fun z : DEnd × DCur => z.2.b = c.b) (mBelowC_b _ _) (iteP (P := fun z : DEnd × DCur => z.2.b = c.b) (mPickIntC_b _ _) (iteP (P := fun z : DEnd × DCur => z.2.b = c.b) (mPickIntC_b _ _) (iteP (P := fun z : DEnd × DCur => z.2.b = c.b) (mPickIntC_b _ _) (iteP (P := fun z : DEnd × DCur => z.2.b = c.b) (dAddrsAny_b _) (iteP (P := fun z : DEnd × DCur => z.2.b = c.b) (dHalfsAny_b _) (iteP (P := fun z : DEnd × DCur => z.2.b = c.b) (dOutAny_b _) (iteP (P := fun z : DEnd × DCur => z.2.b = c.b) (dPcsAny_b _) (iteP (P := fun z : DEnd × DCur => z.2.b = c.b) (subFill_b _ _ _) (iteP (P := fun z : DEnd × DCur => z.2.b = c.b) (iteP (P := fun z : DEnd × DCur => z.2.b = c.b) (mBelowC_b _ _) rfl) (iteP (P := fun z : DEnd × DCur => z.2.b = c.b) (mBelowC_b _ _) (iteP (P := fun z : DEnd × DCur => z.2.b = c.b) (mPickIntC_b _ _) (iteP (P := fun z : DEnd × DCur => z.2.b = c.b) (mPickIntC_b _ _) (rfl)))))))))))))
theorem dAny_B {c : DCur} (h : c.B) : (dAny c).2.B := altK_B _ _ (mBelowC_B _ (dEndC_B h))
theorem dAny_b (c : DCur) : (dAny c).2.b = c.b := by rw [dAny, altK_b, mBelowC_b, dEndC_b]
end Go.Eng

namespace Go.Eng
/-- Few of each. -/
structure DEnd.U (e : DEnd) : Prop where
 own : e.own.length ≤ 20
 far : e.far.length ≤ 20
 subs : e.subs.length ≤ 20
 halfs : e.halfs.length ≤ 20
 done : e.done.length ≤ 1000
 over : e.over.length ≤ 1000
 inn : e.inn.F
 tries : ∀ s ∈ e.subs, s.tries ≤ 20
theorem U_B {e : DEnd} (h : e.U) : e.B := by
 have := h.own; have := h.far; have := h.subs; have := h.halfs; have := h.done; have := h.over; have := h.inn.2.1
 exact ⟨by omega, by omega, by omega, by omega, by omega, by omega, by omega⟩
theorem dEnd_U (c : DCur) : (dEnd c).U := by
 have hR := dEnd_R c
 have he := G_E hR.1
 have hi := endOk_ids hR.1.1
 have hp := (piecesOk_bd he.inn).2
 exact ⟨by have := he.own.1; omega, by have := he.far.1; omega, by have := he.subs.1; omega, by have := he.halfs.1; omega, by omega, by omega, ⟨by have := hR.1.2.1; omega, by omega, hR.1.2.2⟩, (dEnd_Bd c).2.2⟩
theorem setTries {l : List DSub} {x : Int} (h : ∀ s ∈ l, s.tries ≤ 20) : ∀ s ∈ l.set 0 { l.getD 0 (ETy.zero .sub) with state := x }, s.tries ≤ 20 := by
 intro s hs
 cases l with
 | nil => cases hs
 | cons a l =>
  rw [List.set_cons_zero] at hs
  rcases List.mem_cons.1 hs with rfl | hs
  ·exact h a (by simp)
  ·exact h s (by simp [hs])
theorem altK_U (k : Int) {e : DEnd} (c : DCur) (h : e.U) (h8 : e.subs.length ≤ 9) (hd : e.done.length ≤ 999) (ho : e.over.length ≤ 999) : (altK k e c).1.U := by
 obtain ⟨h1, h2, h3, h4, h5, h6, h7, h9⟩ := h
 have a1 := dAddrsAny_len c
 have a2 := dHalfsAny_len c
 have a3 := subFill_len 10 e.subs c h8
 exact iteP (P := fun z : DEnd × DCur => z.1.U) (⟨h1, h2, h3, h4, h5, h6, h7, h9⟩) (iteP (P := fun z : DEnd × DCur => z.1.U) (⟨h1, h2, h3, h4, h5, h6, h7, h9⟩) (iteP (P := fun z : DEnd × DCur => z.1.U) (⟨h1, h2, h3, h4, h5, h6, h7, h9⟩) (iteP (P := fun z : DEnd × DCur => z.1.U) (⟨h1, h2, h3, h4, h5, h6, h7, h9⟩) (iteP (P := fun z : DEnd × DCur => z.1.U) (⟨by simp only []; omega, h2, h3, h4, h5, h6, h7, h9⟩) (iteP (P := fun z : DEnd × DCur => z.1.U) (⟨h1, h2, h3, by simp only []; omega, h5, h6, h7, h9⟩) (iteP (P := fun z : DEnd × DCur => z.1.U) (⟨h1, h2, h3, h4, h5, h6, h7, h9⟩) (iteP (P := fun z : DEnd × DCur => z.1.U) (⟨h1, h2, h3, h4, h5, h6, dPcsAny_F c, h9⟩) (iteP (P := fun z : DEnd × DCur => z.1.U) (⟨h1, h2, by simp only []; omega, h4, h5, h6, h7, fun s hs => h9 s (subFill_mem _ _ _ s hs)⟩) (iteP (P := fun z : DEnd × DCur => z.1.U) (iteP (P := fun z : DEnd × DCur => z.1.U) ⟨h1, h2, by simp only [List.length_set]; omega, h4, h5, h6, h7, setTries h9⟩ ⟨h1, h2, h3, h4, h5, h6, h7, h9⟩) (iteP (P := fun z : DEnd × DCur => z.1.U) (⟨h1, h2, h3, h4, by simp only [List.length_append, List.length_cons, List.length_nil]; omega, h6, h7, h9⟩) (iteP (P := fun z : DEnd × DCur => z.1.U) (⟨h1, h2, h3, h4, h5, by simp only [List.length_append, List.length_cons, List.length_nil]; omega, h7, h9⟩) (iteP (P := fun z : DEnd × DCur => z.1.U) (⟨h1, h2, h3, h4, h5, h6, h7, h9⟩) (⟨h1, h2, h3, h4, h5, h6, h7, h9⟩)))))))))))))
theorem dAny_U (c : DCur) : (dAny c).1.U := by
 have hR := dEnd_R c
 have he := G_E hR.1
 have hi := endOk_ids hR.1.1
 exact altK_U _ _ (dEnd_U c) (by have := he.subs.1; omega) (by omega) (by omega)
theorem U_G {e : DEnd} (h : e.U) (ho : mEndOk e = true) : e.G := by
 have hF := F_S h.inn
 exact ⟨ho, K_of hF.1 hF.2.2 ((endOk_iff e).1 ho).inn⟩
end Go.Eng

namespace Go.Eng
theorem spps : (ByteArray.mk #[]).data.toList = [] ∧ (∀ x : Int, mNums [x] = mNum x) ∧ (∀ (n : Nat) (l : List UInt8), (l.drop n == []) = decide (l.length ≤ n)) ∧ (∀ {p : Prop} [Decidable p], (decide p = true) = p) ∧ (∀ {p : Prop} {_ : Decidable p}, decide p = false ↔ ¬ p) ∧
  (¬ True) = False ∧ (¬ False) = True ∧ (∀ h : Decidable True, @decide True h = true) ∧ (∀ h : Decidable False, @decide False h = false) ∧
  (∀ p : Prop, (True ∧ p) = p) ∧ (∀ p : Prop, (p ∧ True) = p) ∧ (∀ p : Prop, (False ∧ p) = False) ∧ (∀ p : Prop, (p ∧ False) = False) ∧ (∀ {a : Prop}, a → a ↔ True) ∧ (∀ p : Prop, (False → p) = True) ∧ (∀ p : Prop, (True → p) = p) ∧ (∀ {a : Prop}, a → False ↔ ¬ a) :=
 ⟨bytes_nil, mNums1, drop_nil_beq, decide_eq_true_eq, decide_eq_false_iff_not, not_true_eq_false, not_false_eq_true, decide_true, decide_false, true_and, and_true, false_and, and_false, imp_self, false_implies, true_implies, imp_false⟩
theorem cfa : (∀ x : DCur, (⟨x.b, x.i, x.h⟩ : DCur) = x) ∧ (∀ {b : List Int} {x : DCur}, x.b = b → (⟨b, x.i, x.h⟩ : DCur) = x) ∧ (∀ c : DCur, (mByteC c).b = c.b) ∧ (∀ (c : DCur) (n : Int), (mBelowC c n).b = c.b) ∧ (∀ (c : DCur) (l : List Int), (mPickIntC c l).b = c.b) ∧ (∀ c : DCur, (mDPolC c).b = c.b) ∧ (∀ c : DCur, (mDAny1C c).b = c.b) ∧ (∀ c : DCur, (mDAnyC c).b = c.b) :=
 ⟨dCur_eta, dCur_fold, mByteC_b, mBelowC_b, mPickIntC_b, mDPolC_b, mDAny1C_b, mDAnyC_b⟩
theorem cfb : (∀ c : DCur, (dAddrC c).b = c.b) ∧ (∀ c : DCur, (dRoadC c).b = c.b) ∧ (∀ c : DCur, (dHalf5C c).b = c.b) ∧ (∀ c : DCur, (dHalfC c).b = c.b) ∧ (∀ c : DCur, (dTagC c).b = c.b) ∧ (∀ (c : DCur) (n : Int), (dTextC c n).b = c.b) :=
 ⟨dAddrC_b, dRoadC_b, dHalf5C_b, dHalfC_b, dTagC_b, dTextC_b⟩
theorem cfc : (∀ b : List Int, (mCur b).b = b) ∧ (∀ b : List Int, (⟨b, (mNew b).i, (mNew b).h⟩ : DCur) = mCur b) ∧ (∀ c : DCur, (mEnds c).1.b = c.b) ∧ (∀ c : DCur, (dAddrs c).2.b = c.b) ∧ (∀ c : DCur, (dHalfs c).2.b = c.b) ∧ (∀ c : DCur, (dEndC c).b = c.b) ∧ (∀ c : DCur, (dHalfsAny c).2.b = c.b) ∧ (∀ c : DCur, (dOutL c).2.b = c.b) ∧ (∀ c : DCur, (dOutAny c).2.b = c.b) ∧ (∀ c : DCur, (dPcs c).2.b = c.b) ∧ (∀ c : DCur, (dPcsAny c).2.b = c.b) ∧ (∀ (c : DCur) (l : List (List UInt8)), (mPickSC c l).b = c.b) ∧ (∀ c : DCur, (dAny c).2.b = c.b) ∧ (∀ c : DCur, (dAddrsAny c).2.b = c.b) :=
 ⟨mCur_b, mCur_fold, mEnds_b, dAddrs_b, dHalfs_b, dEndC_b, dHalfsAny_b, dOutL_b, dOutAny_b, dPcs_b, dPcsAny_b, mPickSC_b, dAny_b, dAddrsAny_b⟩
end Go.Eng

namespace Go.Eng
def lFive : List Int := [11, 12, 21, 22, 31]
def lTok : List Int := [101, 102, 7]
def lSeven : List Int := [11, 12, 13, 21, 22, 23, 31]
def dLet0 (c : DCur) : DLetter := ⟨w64 (1 + mBelow c 13), mPickInt (mBelowC c 13) lFive, mPickInt (mPickIntC (mBelowC c 13) lFive) lFive, mBelow (mPickIntC (mPickIntC (mBelowC c 13) lFive) lFive) 3, mBelow (mBelowC (mPickIntC (mPickIntC (mBelowC c 13) lFive) lFive) 3) 3, mPickInt (mBelowC (mBelowC (mPickIntC (mPickIntC (mBelowC c 13) lFive) lFive) 3) 3) lTok, mBelow (mPickIntC (mBelowC (mBelowC (mPickIntC (mPickIntC (mBelowC c 13) lFive) lFive) 3) 3) lTok) 9, mBelow (mBelowC (mPickIntC (mBelowC (mBelowC (mPickIntC (mPickIntC (mBelowC c 13) lFive) lFive) 3) 3) lTok) 9) 9, mBelow (mBelowC (mBelowC (mPickIntC (mBelowC (mBelowC (mPickIntC (mPickIntC (mBelowC c 13) lFive) lFive) 3) 3) lTok) 9) 9) 9, ⟨0, 0, 0, 0, 0⟩, mBelow (mBelowC (mBelowC (mBelowC (mPickIntC (mBelowC (mBelowC (mPickIntC (mPickIntC (mBelowC c 13) lFive) lFive) 3) 3) lTok) 9) 9) 9) 4, mPickInt (mBelowC (mBelowC (mBelowC (mBelowC (mPickIntC (mBelowC (mBelowC (mPickIntC (mPickIntC (mBelowC c 13) lFive) lFive) 3) 3) lTok) 9) 9) 9) 4) lSeven, false, mBelow (mPickIntC (mBelowC (mBelowC (mBelowC (mBelowC (mPickIntC (mBelowC (mBelowC (mPickIntC (mPickIntC (mBelowC c 13) lFive) lFive) 3) 3) lTok) 9) 9) 9) 4) lSeven) 30, []⟩
def dLet0C (c : DCur) : DCur := mBelowC (mPickIntC (mBelowC (mBelowC (mBelowC (mBelowC (mPickIntC (mBelowC (mBelowC (mPickIntC (mPickIntC (mBelowC c 13) lFive) lFive) 3) 3) lTok) 9) 9) 9) 4) lSeven) 30
theorem dLet0C_B {c : DCur} (h : c.B) : (dLet0C c).B := by
 unfold dLet0C mPickIntC
 repeat' (refine mBelowC_B _ ?_)
 exact h
theorem dLet0C_b (c : DCur) : (dLet0C c).b = c.b := by simp only [dLet0C, mPickIntC_b, mBelowC_b]
def dLetTag (x : DLetter) (c : DCur) : DLetter × DCur := if mOnce c 3 = true then ({ x with tag := dTag (mBelowC c 3) }, dTagC (mBelowC c 3)) else (x, mBelowC c 3)
theorem dLetTag_B (x : DLetter) {c : DCur} (h : c.B) : (dLetTag x c).2.B := by
 unfold dLetTag; split
 ·exact dTagC_B (mBelowC_B _ h)
 ·exact mBelowC_B _ h
theorem dLetTag_b (x : DLetter) (c : DCur) : (dLetTag x c).2.b = c.b := by
 unfold dLetTag; split
 ·simp only [dTagC_b, mBelowC_b]
 ·exact mBelowC_b _ _
def lEvil : List (List UInt8) := [[97], [101, 118, 105, 108], [122, 122], []]
def dLetText (x : DLetter) (c : DCur) : DLetter × DCur := if x.kind = 11 then ({ x with text := mPickS c lEvil }, mPickSC c lEvil) else (x, c)
theorem dLetText_B (x : DLetter) {c : DCur} (h : c.B) : (dLetText x c).2.B := by
 unfold dLetText; split
 ·exact mBelowC_B _ h
 ·exact h
theorem dLetText_b (x : DLetter) (c : DCur) : (dLetText x c).2.b = c.b := by
 unfold dLetText; split
 ·exact mPickSC_b _ _
 ·rfl
def dLet (c : DCur) : DLetter × DCur := dLetText (dLetTag (dLet0 c) (dLet0C c)).1 (dLetTag (dLet0 c) (dLet0C c)).2
theorem dLet_B {c : DCur} (h : c.B) : (dLet c).2.B := dLetText_B _ (dLetTag_B _ (dLet0C_B h))
theorem dLet_b (c : DCur) : (dLet c).2.b = c.b := by rw [dLet, dLetText_b, dLetTag_b, dLet0C_b]
def lKind : List Int := [0, 14, 13]
def lLen : List Int := [20, 21]
def dLet2 (x : DLetter) (c : DCur) : DLetter × DCur :=
 if mBelow c 12 = 0 then ({ x with kind := mPickInt (mBelowC c 12) lKind }, mPickIntC (mBelowC c 12) lKind)
 else if mBelow c 12 = 1 then ({ x with text := mLong (mPickInt (mBelowC c 12) lLen) 97 }, mPickIntC (mBelowC c 12) lLen)
 else if mBelow c 12 = 2 then ({ x with sign := mPickInt (mBelowC c 12) lTil }, mPickIntC (mBelowC c 12) lTil)
 else if mBelow c 12 = 3 then ({ x with tag := { x.tag with a := -1 } }, mBelowC c 12)
 else (x, mBelowC c 12)
def dLetAny (c : DCur) : DLetter × DCur := dLet2 (dLet c).1 (dLet c).2
theorem dLet2_B (x : DLetter) {c : DCur} (h : c.B) : (dLet2 x c).2.B := by
 have h4 := mBelowC_B 12 h
 unfold dLet2; repeat' split
 all_goals first | exact h4 | exact mBelowC_B _ h4
theorem dLet2_b (x : DLetter) (c : DCur) : (dLet2 x c).2.b = c.b := by
 unfold dLet2; repeat' split
 all_goals simp only [mPickIntC_b, mBelowC_b]
theorem dLetAny_B {c : DCur} (h : c.B) : (dLetAny c).2.B := dLet2_B _ (dLet_B h)
theorem dLetAny_b (c : DCur) : (dLetAny c).2.b = c.b := by rw [dLetAny, dLet2_b, dLet_b]
/-- A letter that fits the end, for the most part. -/
def dFit1 (e : DEnd) (x : DLetter) (c : DCur) : DLetter × DCur :=
 if 0 < e.subs.length then (if mOnce c 4 = true then (x, mBelowC c 4) else
  ({ mBetween (mBack (gSub e (mBelow (mBelowC c 4) (e.subs.length : Int))).road) x with sign := (gSub e (mBelow (mBelowC c 4) (e.subs.length : Int))).take }, mBelowC (mBelowC c 4) (e.subs.length : Int))) else (x, c)
def dFit (e : DEnd) (c : DCur) : DLetter × DCur := dFit1 e (dLetAny c).1 (dLetAny c).2
theorem dFit1_B (e : DEnd) (x : DLetter) {c : DCur} (h : c.B) : (dFit1 e x c).2.B := by
 unfold dFit1; repeat' split
 ·exact mBelowC_B _ h
 ·exact mBelowC_B _ (mBelowC_B _ h)
 ·exact h
theorem dFit1_b (e : DEnd) (x : DLetter) (c : DCur) : (dFit1 e x c).2.b = c.b := by
 unfold dFit1; repeat' split
 ·exact mBelowC_b _ _
 ·simp only [mBelowC_b]
 ·rfl
theorem dFit_B (e : DEnd) {c : DCur} (h : c.B) : (dFit e c).2.B := dFit1_B _ _ (dLetAny_B h)
theorem dFit_b (e : DEnd) (c : DCur) : (dFit e c).2.b = c.b := by rw [dFit, dFit1_b, dLetAny_b]
/-- A letter of a kind, for the most part. -/
def hrA (k : Int) (x : DLetter) (c : DCur) : DLetter := if mOnce c 12 = true then x else { x with kind := k }
def hrB (e : DEnd) (x : DLetter) (c : DCur) : DLetter × DCur :=
 if 0 < e.own.length then (if mOnce c 2 = true then ({ x with dst := (e.own.getD (mBelow (mBelowC c 2) (e.own.length : Int)).toNat (ETy.zero .addr)).addr }, mBelowC (mBelowC c 2) (e.own.length : Int)) else (x, mBelowC c 2)) else (x, c)
def hrC (e : DEnd) (x : DLetter) (c : DCur) : DLetter := if mOnce c 2 = true then { x with token := mTokenFor e.side } else x
theorem hrB_B (e : DEnd) (x : DLetter) {c : DCur} (h : c.B) : (hrB e x c).2.B := by
 unfold hrB; repeat' split
 ·exact mBelowC_B _ (mBelowC_B _ h)
 ·exact mBelowC_B _ h
 ·exact h
def hr1 (e : DEnd) : List DSub → DLetter → DCur → DLetter × DCur
 | [], x, c => (x, c)
 | s :: l, x, c => if s.state = 1 then (if mOnce c 2 = true then hr1 e l { mBetween (mBack s.road) x with tag := mTagBack e.peer e.key x.nonce s.mine } (mBelowC c 2) else hr1 e l x (mBelowC c 2)) else hr1 e l x c
def hr2 (e : DEnd) : List DHalf → DLetter → DCur → DLetter × DCur
 | [], x, c => (x, c)
 | h :: l, x, c => if mOnce c 2 = true then hr2 e l { mBetween (mBack h.road) x with tag := mTagDone e.peer e.key h.theirs h.mine, nonce := h.theirs, give := h.give } (mBelowC c 2) else hr2 e l x (mBelowC c 2)
def hr3 (e : DEnd) : List DSub → DLetter → DCur → DLetter × DCur
 | [], x, c => (x, c)
 | s :: l, x, c => if s.state = 3 then (if mOnce c 4 = true then hr3 e l { mBetween (mBack s.road) x with tag := mTagDone e.peer e.key s.theirs s.mine } (mBelowC c 4) else hr3 e l x (mBelowC c 4)) else hr3 e l x c
/-- What is to be heard: each list only for its kinds. -/
def hr1L (k : Int) (e : DEnd) (l : List DSub) (x : DLetter) (c : DCur) : DLetter × DCur := if k = 5 then hr1 e l x c else (x, c)
def hr2L (k : Int) (e : DEnd) (l : List DHalf) (x : DLetter) (c : DCur) : DLetter × DCur := if k = 6 ∨ k = 4 then hr2 e l x c else (x, c)
def hr3L (k : Int) (e : DEnd) (l : List DSub) (x : DLetter) (c : DCur) : DLetter := if k = 6 then (hr3 e l x c).1 else x
def hrX0 (k : Int) (e : DEnd) (c : DCur) : DLetter × DCur :=
 (hrC e (hrB e (hrA k (dFit e c).1 (dFit e c).2) (mBelowC (dFit e c).2 12)).1 (hrB e (hrA k (dFit e c).1 (dFit e c).2) (mBelowC (dFit e c).2 12)).2, mBelowC (hrB e (hrA k (dFit e c).1 (dFit e c).2) (mBelowC (dFit e c).2 12)).2 2)
def hrX1 (k : Int) (e : DEnd) (c : DCur) : DLetter × DCur := hr1L k e e.subs (hrX0 k e c).1 (hrX0 k e c).2
def hrX2 (k : Int) (e : DEnd) (c : DCur) : DLetter × DCur := hr2L k e e.halfs (hrX1 k e c).1 (hrX1 k e c).2
def hrX (k : Int) (e : DEnd) (c : DCur) : DLetter := hr3L k e e.subs (hrX2 k e c).1 (hrX2 k e c).2
def hE (b : List Int) : DEnd := (dAny (mCur b)).1
def hX (k : Int) (b : List Int) : DLetter := hrX k (hE b) (dAny (mCur b)).2
theorem hrX0_B (k : Int) (e : DEnd) {c : DCur} (h : c.B) : (hrX0 k e c).2.B := mBelowC_B _ (hrB_B _ _ (mBelowC_B _ (dFit_B _ h)))
theorem cfd : (∀ c : DCur, (dLet0C c).b = c.b) ∧ (∀ c : DCur, (dLet c).2.b = c.b) ∧ (∀ c : DCur, (dLetAny c).2.b = c.b) ∧ (∀ (e : DEnd) (c : DCur), (dFit e c).2.b = c.b) ∧ (∀ (x : DLetter) (c : DCur), (dLetTag x c).2.b = c.b) :=
 ⟨dLet0C_b, dLet_b, dLetAny_b, dFit_b, dLetTag_b⟩
/-- Roads that meet again. -/
theorem joins {K : Type} {inv Q : K → Prop} {G : Prop} (step : (∀ z, inv z → Q z) → G) (pf : ∀ z, inv z → Q z) : G := step pf
end Go.Eng

namespace Go.Eng
end Go.Eng

namespace Go.Eng
theorem end_id {x : DPiece} (h1 : 0 ≤ x.pos) (h2 : x.pos ≤ 4000000000) (h3 : x.text.length ≤ 1000000) : w64 (x.pos + (x.text.length : Int)) = x.pos + x.text.length := w64_id (by omega) (by omega)
theorem ordL_cons {y : DPiece} {l : List DPiece} {e : Int} (h : ordL (y :: l) e = true) (he : 0 ≤ e) (hl : y.text.length ≤ 200) : e < y.pos ∧ y.pos ≤ 2000000000 ∧ 0 < y.text.length ∧ w64 (y.pos + (y.text.length : Int)) = y.pos + y.text.length ∧ ordL l (y.pos + y.text.length) = true := by
 rw [ordL] at h
 split at h
 ·rename_i hp
  simp only [pOrd, Bool.and_eq_true, Bool.not_eq_true', decide_eq_false_iff_not, beq_eq_false_iff_ne, ne_eq] at hp
  have hw := end_id (x := y) (by omega) (by omega) (by omega)
  rw [hw] at h
  exact ⟨by omega, by omega, by omega, hw, h⟩
 ·cases h
theorem ordL_all : ∀ {l : List DPiece} {e : Int}, ordL l e = true → 0 ≤ e → (∀ y ∈ l, y.text.length ≤ 200) → ∀ y ∈ l, e < y.pos ∧ y.pos ≤ 2000000000
 | [], _, _, _, _, y, hy => by cases hy
 | z :: l, e, h, he, ht, y, hy => by
  obtain ⟨h1, h2, h3, _, h5⟩ := ordL_cons h he (ht z (by simp))
  rcases List.mem_cons.1 hy with rfl | hy
  ·exact ⟨h1, h2⟩
  ·have := ordL_all h5 (by omega) (fun q hq => ht q (by simp [hq])) y hy
   omega
theorem merge_cover {y x : DPiece} (h1 : y.pos ≤ x.pos + x.text.length) (h2 : x.pos ≤ y.pos + y.text.length) :
  ((mMerge y x).pos = x.pos ∨ (mMerge y x).pos = y.pos) ∧ (mMerge y x).pos ≤ x.pos ∧ (mMerge y x).pos ≤ y.pos ∧ x.pos + x.text.length ≤ (mMerge y x).pos + (mMerge y x).text.length := by
 unfold mMerge
 split
 ·rename_i h
  refine ⟨.inl rfl, Int.le_refl _, by dsimp only; omega, ?_⟩
  simp only [List.length_append, List.length_take, List.length_drop]
  omega
 ·rename_i h
  refine ⟨.inr rfl, by dsimp only; omega, Int.le_refl _, ?_⟩
  simp only [List.length_append, List.length_drop]
  omega
theorem merge_in {y x : DPiece} (h1 : y.pos ≤ x.pos) (h2 : x.pos + x.text.length ≤ y.pos + y.text.length) : mMerge y x = y := by
 unfold mMerge
 rw [if_neg (by omega)]
 have : x.text.drop (y.pos + y.text.length - x.pos).toNat = [] := List.drop_eq_nil_iff.2 (by omega)
 rw [this, List.append_nil]
/-- What a piece laid among others comes to. -/
theorem ppF_form : ∀ (l out : List DPiece) (x : DPiece) (e : Int), 0 ≤ e → ordL l e = true → (∀ y ∈ l, y.text.length ≤ 200) → 0 ≤ x.pos → x.pos ≤ 4000000000 → x.text.length + 200 * l.length ≤ 1000000 →
  ∃ (bef : List DPiece) (X : DPiece) (aft : List DPiece), ppEnd (ppF l out x false) = out ++ (bef ++ X :: aft) ∧ (∀ y ∈ bef, e < y.pos ∧ y.pos + y.text.length < X.pos ∧ y.text.length ≤ 200) ∧ X.pos ≤ x.pos ∧ x.pos + x.text.length ≤ X.pos + X.text.length ∧
   (∀ z ∈ aft, X.pos + X.text.length < z.pos) ∧ (X.pos = x.pos ∨ e < X.pos) ∧ 0 ≤ X.pos ∧ X.text.length ≤ 1000000
 | [], out, x, e, _, _, _, hp, _, hl => ⟨[], x, [], by simp [ppF, ppEnd], by simp, Int.le_refl _, Int.le_refl _, by simp, .inl rfl, hp, by simpa using hl⟩
 | y :: l, out, x, e, he, ho, ht, hp, hp2, hl => by
  obtain ⟨o1, o2, o3, o4, o5⟩ := ordL_cons ho he (ht y (by simp))
  have hty := ht y (by simp)
  have htl : ∀ q ∈ l, q.text.length ≤ 200 := fun q hq => ht q (by simp [hq])
  have hxe := end_id hp hp2 (by omega : x.text.length ≤ 1000000)
  simp only [List.length_cons] at hl
  rw [ppF, o4, hxe]
  split
  ·rename_i hlt
   obtain ⟨bef, X, aft, r1, r2, r3, r4, r5, r6, r7, r8⟩ := ppF_form l (out ++ [y]) x (y.pos + y.text.length) (by omega) o5 htl hp hp2 (by omega)
   refine ⟨y :: bef, X, aft, by rw [r1]; simp, fun q hq => ?_, r3, r4, r5, by omega, r7, r8⟩
   rcases List.mem_cons.1 hq with rfl | hq
   ·exact ⟨o1, by omega, hty⟩
   ·have := r2 q hq
    exact ⟨by omega, this.2⟩
  ·split
   ·rename_i h1 h2
    rw [if_neg (by simp)]
    have hz := ordL_all o5 (by omega) htl
    rw [ppF_laid l _ x fun z hz' => by rw [hxe]; have := hz z hz'; omega]
    refine ⟨[], x, y :: l, by simp [ppEnd], by simp, Int.le_refl _, Int.le_refl _, fun z hz' => ?_, .inl rfl, hp, by omega⟩
    rcases List.mem_cons.1 hz' with rfl | hz'
    ·exact h2
    ·have := hz z hz'; omega
   ·rename_i h1 h2
    obtain ⟨m1, m2, m3, m4⟩ := merge_cover (y := y) (x := x) (by omega) (by omega)
    have ml := mMerge_len y x
    obtain ⟨bef, X, aft, r1, r2, r3, r4, r5, r6, r7, r8⟩ := ppF_form l out (mMerge y x) (y.pos + y.text.length) (by omega) o5 htl (by rcases m1 with h | h <;> omega) (by omega) (by omega)
    refine ⟨bef, X, aft, r1, fun q hq => ?_, by omega, by omega, r5, ?_, r7, r8⟩
    ·have := r2 q hq
     exact ⟨by omega, this.2⟩
    ·rcases m1 with h | h <;> rcases r6 with h' | h' <;> omega
theorem ppF_skip : ∀ (bef l out : List DPiece) (x : DPiece) (b : Bool), (∀ y ∈ bef, w64 (y.pos + (y.text.length : Int)) < x.pos) → ppF (bef ++ l) out x b = ppF l (out ++ bef) x b
 | [], l, out, x, b, _ => by simp
 | y :: bef, l, out, x, b, h => by
  rw [List.cons_append, ppF, if_pos (h y (by simp)), ppF_skip bef l _ x b fun z hz => h z (by simp [hz])]
  simp
/-- A piece that lies within one that is there changes nothing. -/
theorem ppF_again {bef aft : List DPiece} {X x : DPiece} (h1 : ∀ y ∈ bef, w64 (y.pos + (y.text.length : Int)) < x.pos) (hX : w64 (X.pos + (X.text.length : Int)) = X.pos + X.text.length) (hx : w64 (x.pos + (x.text.length : Int)) = x.pos + x.text.length) (h2 : X.pos ≤ x.pos) (h3 : x.pos + x.text.length ≤ X.pos + X.text.length)
  (ha : ∀ z ∈ aft, X.pos + X.text.length < z.pos) (hza : ∀ z ∈ aft, X.pos ≤ w64 (z.pos + (z.text.length : Int))) : ppEnd (ppF (bef ++ X :: aft) [] x false) = bef ++ X :: aft := by
 rw [ppF_skip bef _ _ _ _ h1, List.nil_append, ppF, hX, if_neg (by omega), hx, if_neg (by omega), merge_in h2 h3]
 cases aft with
 | nil => simp [ppF, ppEnd]
 | cons z aft =>
  have hz := ha z (by simp)
  have hz2 := hza z (by simp)
  rw [ppF, if_neg (by omega), hX, if_pos hz, if_neg (by simp), ppF_laid aft _ X fun q hq => by rw [hX]; exact ha q (by simp [hq])]
  simp [ppEnd]
theorem put_twice {p : DPieces} (hk : p.K) (ho : mPiecesOk p = true) (pos : Int) (t : List UInt8) : mPutPiece (mPutPiece p pos t) pos t = mPutPiece p pos t := by
 by_cases hc : mPiecesOk p = true ∧ mNum pos = true ∧ mIn t.length 1 200 = true ∧ mNextOf p - pos < (t.length : Int)
 ·by_cases hc2 : mPiecesOk (ppOut p pos t) = true
  ·have hP : mPutPiece p pos t = ppOut p pos t := by unfold mPutPiece; rw [if_pos hc, if_pos hc2]
   have hK2 := K_put pos t hk ho
   rw [hP] at hK2 ⊢
   have hn := next_is hk ho
   have hn2 := next_is hK2 hc2
   obtain ⟨_, q2, q3, q4⟩ := hc
   have q2 := mNum_iff.1 q2
   have q3 := mIn_iff.1 q3
   obtain ⟨w1, w2, w3, w4⟩ := (piecesOk_iff (Nat.le_trans hk.1 (by decide)) (fun x hx => Nat.le_trans (hk.2 x hx) (by decide))).1 ho
   obtain ⟨v1, v2, v3, v4⟩ := (piecesOk_iff (Nat.le_trans hK2.1 (by decide)) (fun x hx => Nat.le_trans (hK2.2 x hx) (by decide))).1 hc2
   have hr := hk.1
   have hxb := ppX_bd (text := t) (pos := pos) ho (O_S ⟨ho, hk⟩) q2 (by omega)
   have hx0 : (ppX p pos t).pos + (ppX p pos t).text.length = pos + t.length ∧ (mNextOf p ≤ (ppX p pos t).pos) ∧ (pos ≤ (ppX p pos t).pos) := by
    by_cases hlt : pos < mNextOf p
    ·have e : ppX p pos t = ⟨mNextOf p, t.drop (mNextOf p - pos).toNat⟩ := by unfold ppX; rw [if_pos hlt]
     rw [e]; dsimp only; rw [List.length_drop]; omega
    ·have e : ppX p pos t = ⟨pos, t⟩ := by unfold ppX; rw [if_neg hlt]
     rw [e]; dsimp only; omega
   obtain ⟨bef, X, aft, r1, r2, r3, r4, r5, r6, r7, r8⟩ := ppF_form p.list [] (ppX p pos t) (mNextOf p) (by omega) w3 hk.2 hxb.1 (by omega) (by omega)
   rw [List.nil_append] at r1
   by_cases hX : X.pos = mNextOf p
   ·-- it joins what is ready
    have hb : bef = [] := by
     cases bef with
     | nil => rfl
     | cons y b => have := r2 y (by simp); omega
    subst hb
    have hO : ppOut p pos t = ⟨p.read, p.ready ++ X.text, aft⟩ := by
     unfold ppOut
     rw [r1, List.nil_append]
     have : (X :: aft).getD 0 (ETy.zero .piece) = X := rfl
     rw [this, if_pos hX]; rfl
    rw [hO] at hn2 ⊢
    refine put_old hn2 ?_
    simp only [List.length_append]
    omega
   ·have hf : ((bef ++ X :: aft).getD 0 (ETy.zero .piece)).pos ≠ mNextOf p := by
     cases bef with
     | nil => exact hX
     | cons y b => have := (r2 y (by simp)).1; show y.pos ≠ _; omega
    have hO : ppOut p pos t = ⟨p.read, p.ready, bef ++ X :: aft⟩ := by
     unfold ppOut
     rw [r1, if_neg hf]
    have hN : mNextOf (ppOut p pos t) = mNextOf p := by rw [hn2, hn, hO]
    have hxp : ppX p pos t = ⟨pos, t⟩ := by
     unfold ppX
     rw [if_neg]
     intro hlt
     have : (ppX p pos t).pos = mNextOf p := by unfold ppX; rw [if_pos hlt]
     omega
    have hxp2 : ppX (ppOut p pos t) pos t = ⟨pos, t⟩ := by
     unfold ppX
     rw [hN, if_neg]
     intro hlt
     rw [hxp] at r3
     dsimp only at r3
     rcases r6 with h | h <;> omega
    rw [hxp] at r3 r4
    dsimp only at r3 r4
    have hin : ∀ z ∈ bef ++ X :: aft, z.text.length ≤ 200 := by
     have := hK2.2; rw [hO] at this; exact this
    have hz0 := ordL_all v3 (by rw [hN]; omega) (by rw [hO]; exact hin)
    rw [hO] at hz0
    have hid : ∀ z ∈ bef ++ X :: aft, w64 (z.pos + (z.text.length : Int)) = z.pos + z.text.length := fun z hz => by
     have := hz0 z hz
     have := hin z hz
     exact end_id (by rw [← hO, hN] at *; omega) (by omega) (by omega)
    have hag := ppF_again (bef := bef) (aft := aft) (X := X) (x := ⟨pos, t⟩) (fun y hy => by rw [hid y (by simp [hy])]; have := r2 y hy; dsimp only; omega) (hid X (by simp)) (end_id q2.1 (by dsimp only; omega) (by dsimp only; omega)) r3 r4 r5 (fun z hz => by rw [hid z (by simp [hz])]; have := r5 z hz; omega)
    have hO2 : ∀ Q : DPieces, Q = ppOut p pos t → ppOut Q pos t = Q := fun Q hQ => by
     rw [← hQ] at hxp2 hN hO
     have hl : Q.list = bef ++ X :: aft := by rw [hO]
     unfold ppOut
     rw [hxp2, hN, hl, hag, if_neg hf, hO]
    have hO2 := hO2 _ rfl
    unfold mPutPiece
    split
    ·rw [hO2, if_pos hc2]
    ·rfl
  ·have hP : mPutPiece p pos t = p := by unfold mPutPiece; rw [if_pos hc, if_neg hc2]
   rw [hP, hP]
 ·have hP : mPutPiece p pos t = p := by unfold mPutPiece; rw [if_neg hc]
  rw [hP, hP]
end Go.Eng

namespace Go.Eng
structure Tw (a b : DEnd) : Prop where
 on : mOnOf a = mOnOf b
 far : a.far = b.far
 own : a.own = b.own
 inn : a.inn = b.inn
 out : a.out = b.out
 len : a.subs.length = b.subs.length
theorem Tw.refl (a : DEnd) : Tw a a := ⟨rfl, rfl, rfl, rfl, rfl, rfl⟩
theorem onL_same : ∀ (l : List DSub) (i j : Nat) (s : DSub), (gS l j).state ≠ 3 → s.state ≠ 3 → colL fOn (l.set j s) i = colL fOn l i
 | [], _, _, _, _, _ => rfl
 | x :: l, i, 0, s, h1, h2 => by
  have h1 : x.state ≠ 3 := by simpa [gS, List.getD] using h1
  rw [List.set_cons_zero, colL_none (f := fOn) (by simp [fOn, h2]), colL_none (f := fOn) (by simp [fOn, h1])]
 | x :: l, i, j + 1, s, h1, h2 => by
  have ih := onL_same l (i + 1) j s (by simpa [gS, List.getD] using h1) h2
  rw [List.set_cons_succ, colL, colL, ih]
theorem hello_twice (e : DEnd) (x : DLetter) : Tw (mHearHello e x).1 (mHearHello (mHearHello e x).1 x).1 := by
 have h : (mHearHello e x).1 = e ∨ (mHearHello e x).1.state = 2 := by
  unfold mHearHello; split
  ·exact .inr rfl
  ·exact .inl rfl
 rcases h with h | h
 ·rw [h, h]; exact .refl _
 ·rw [mHearHello_2 x h]; exact .refl _
theorem back_twice (e : DEnd) (x : DLetter) : Tw (mHearBack e x).1 (mHearBack (mHearBack e x).1 x).1 := by
 have h : (mHearBack e x).1 = e ∨ (mHearBack e x).1.state = 2 := by
  unfold mHearBack; split
  ·exact .inr rfl
  ·exact .inl rfl
 rcases h with h | h
 ·rw [h, h]; exact .refl _
 ·rw [mHearBack_2 x h]; exact .refl _
theorem join_tw (e : DEnd) (x : DLetter) : Tw e (mHearJoin e x).1 := by
 unfold mHearJoin; split
 ·exact ⟨rfl, rfl, rfl, rfl, rfl, rfl⟩
 ·exact .refl _
theorem joinBack_tw (e : DEnd) (x : DLetter) : Tw e (mHearJoinBack e x).1 := by
 unfold mHearJoinBack; split
 ·rename_i h
  have h1 := h.2.2.2.2.1
  refine ⟨?_, rfl, rfl, rfl, rfl, by simp [setSub]⟩
  show mOnOf e = colL fOn (e.subs.set _ _) 0
  rw [onL_same _ _ _ _ (by show (gSub e _).state ≠ 3; rw [h1]; decide) (by simp)]; rfl
 ·exact .refl _
theorem dropHalf_no {l : List DHalf} (h : HOk l) (r : DRoad) : mHalfAt (mDropHalf l r) r < 0 := by
 rw [halfAt_neg]
 unfold mDropHalf
 split
 ·rename_i h0; exact halfAt_neg.1 h0
 ·rename_i h0
  obtain ⟨k, hk, hl, hr, _⟩ := half_get h (by omega : 0 ≤ mHalfAt l r)
  have hp := (pw_iff (ETy.zero .half)).1 h.2.2
  rw [hk, Int.toNat_natCast]
  intro a ha
  rcases List.mem_append.1 ha with ha | ha
  ·obtain ⟨i, hi, rfl⟩ := List.getElem_of_mem ha
   rw [List.length_take] at hi
   have := hp i k (by omega) hl
   rw [List.getElem_take]
   have h4 : l.getD i (ETy.zero .half) = l[i] := by simp [List.getD, (by omega : i < l.length)]
   rw [h4] at this
   exact fun hh => this (hh.trans hr.symm)
  ·obtain ⟨i, hi, rfl⟩ := List.getElem_of_mem ha
   have hi2 : k + 1 + i < l.length := by rw [List.length_drop] at hi; omega
   have := hp k (k + 1 + i) (by omega) hi2
   rw [List.getElem_drop]
   have h4 : l.getD (k + 1 + i) (ETy.zero .half) = l[k + 1 + i] := by simp [List.getD, hi2]
   rw [h4] at this
   exact fun hh => this (hr.trans hh.symm)
theorem done_no {o : DEnd} {x : DLetter} (h : mHalfAt o.halfs (mRoadOf x) < 0) : (mHearJoinDone o x).1 = o := by
 unfold mHearJoinDone
 split
 ·rw [if_neg (fun hc => by omega)]
  split <;> rfl
 ·rfl
theorem done_twice {e : DEnd} (he : EOk e) (x : DLetter) : Tw (mHearJoinDone e x).1 (mHearJoinDone (mHearJoinDone e x).1 x).1 := by
 have h : (mHearJoinDone e x).1 = e ∨ mHalfAt (mHearJoinDone e x).1.halfs (mRoadOf x) < 0 := by
  unfold mHearJoinDone
  repeat' split
  ·exact .inr (dropHalf_no he.halfs _)
  ·exact .inl rfl
  ·exact .inl rfl
  ·exact .inl rfl
 rcases h with h | h
 ·rw [h, h]; exact .refl _
 ·rw [done_no h]; exact .refl _
theorem ack_twice (e : DEnd) (x : DLetter) : Tw (mHearJoinAck e x).1 (mHearJoinAck (mHearJoinAck e x).1 x).1 := by
 by_cases hc : mEndOk e = true ∧ mLetterOk x = true ∧ 0 ≤ mSubAt e (mRoadOf x) ∧ (gSub e (mSubAt e (mRoadOf x))).state = 2 ∧ (gSub e (mSubAt e (mRoadOf x))).take = x.sign
 ·have h1 : (mHearJoinAck e x).1 = setSub e (mSubAt e (mRoadOf x)) (fun s => { s with state := 3 }) := by unfold mHearJoinAck; rw [if_pos hc]
  obtain ⟨_, _, h2, h3, _⟩ := hc
  obtain ⟨k, hk, hl⟩ := subAt_nat h2
  have h3 : (gS e.subs k).state = 2 := by rw [hk] at h3; simpa [gSub, gS] using h3
  rw [h1, hk]
  have hs : mSubAt (setSub e (k : Int) (fun s => { s with state := 3 })) (mRoadOf x) = (k : Int) := by
   rw [subAt_set (e := e) (n := k) (s := { gS e.subs k with state := 3 }) (by simp [setSub, gSub, gS]) hl rfl (by rw [h3]; decide) (by simp), hk]
  have hg : (gSub (setSub e (k : Int) (fun s => { s with state := 3 })) (k : Int)).state = 3 := by
   simp [gSub, setSub, List.getD, hl]
  unfold mHearJoinAck
  rw [hs, if_neg (fun hc => by rw [hg] at hc; exact absurd hc.2.2.2.1 (by decide))]
  exact .refl _
 ·have h1 : mHearJoinAck e x = (e, []) := by unfold mHearJoinAck; rw [if_neg hc]
  rw [h1, h1]; exact .refl _
theorem addr_at {l : List DAddr} (h : AOk l) {n : Int} {j : Nat} (hj : j < l.length) (hn : (l.getD j (ETy.zero .addr)).id = n) : mAddrAt l n = (j : Int) := by
 have hp := (pw_iff (ETy.zero .addr)).1 h.2.2
 exact (findL_is (fun a : DAddr => a.id == n) (ETy.zero .addr) l j hj).2 ⟨by show ((l.getD j (ETy.zero .addr)).id == n) = true; rw [hn]; exact beq_self_eq_true n, fun k hk => by
  have := (hp k j hk hj).1
  simp only [beq_eq_false_iff_ne, ne_eq]
  omega⟩
theorem set_getD {α : Type} (l : List α) (k : Nat) (d : α) (h : k < l.length) {a : α} (ha : l.getD k d = a) : l.set k a = l := by
 rw [← ha]
 apply List.ext_getElem?
 intro i
 rw [List.getElem?_set]
 split
 ·rename_i hi; subst hi; simp [List.getD, h]
 ·rfl
theorem putL_in (l : List DAddr) (a : DAddr) : ∃ j, j < (mPutL l a).length ∧ (mPutL l a).getD j (ETy.zero .addr) = a := by
 have hm : a ∈ mPutL l a := by
  unfold mPutL
  split
  ·rename_i h
   have := mAddrAt_bd l a.id
   refine List.mem_iff_getElem.2 ⟨(mAddrAt l a.id).toNat, by rw [List.length_set]; omega, by simp⟩
  ·simp
 obtain ⟨j, hj, hja⟩ := List.mem_iff_getElem.1 hm
 exact ⟨j, hj, by simp [List.getD, hj, hja]⟩
theorem put_addr_twice (l : List DAddr) (a : DAddr) (h : (mPutAddr l a).2 = true) : (mPutAddr (mPutAddr l a).1 a).1 = (mPutAddr l a).1 := by
 unfold mPutAddr at h
 split at h
 ·rename_i hok
  have h1 : (mPutAddr l a).1 = mPutL l a := by unfold mPutAddr; rw [if_pos hok]
  rw [h1]
  obtain ⟨j, hj, hja⟩ := putL_in l a
  have hA := (addrsOk_iff _).1 hok
  have hat := addr_at hA hj (n := a.id) (by rw [hja])
  have hL : mPutL (mPutL l a) a = mPutL l a := by
   conv => lhs; rw [mPutL]
   rw [hat, if_pos (by omega), Int.toNat_natCast]
   exact set_getD _ _ _ hj hja
  unfold mPutAddr
  rw [hL, if_pos hok]
 ·cases h
theorem haddr_twice (e : DEnd) (x : DLetter) : Tw (mHearAddr e x).1 (mHearAddr (mHearAddr e x).1 x).1 := by
 by_cases hc : (mPutAddr e.far ⟨x.id, x.addr, x.spare, true⟩).2 = true ∧ (mHearAddr e x).1 = { e with far := (mPutAddr e.far ⟨x.id, x.addr, x.spare, true⟩).1 }
 ·obtain ⟨h1, h2⟩ := hc
  rw [h2]
  have ht := put_addr_twice _ _ h1
  unfold mHearAddr
  split
  ·exact ⟨rfl, ht.symm, rfl, rfl, rfl, rfl⟩
  ·exact .refl _
 ·have h1 : mHearAddr e x = (e, []) := by
   unfold mHearAddr at hc ⊢
   split at hc
   ·rename_i h; exact absurd ⟨h.2.2.2.2.2.2, rfl⟩ hc
   ·rename_i h; rw [if_neg h]
  rw [h1, h1]; exact .refl _
theorem echo_twice {e : DEnd} (he : EOk e) (x : DLetter) : Tw (mHearEcho e x).1 (mHearEcho (mHearEcho e x).1 x).1 := by
 by_cases hc : 0 ≤ mAddrAt e.own x.id ∧ (mHearEcho e x).1 = { e with own := e.own.set (mAddrAt e.own x.id).toNat { e.own.getD (mAddrAt e.own x.id).toNat (ETy.zero .addr) with told := true } }
 ·obtain ⟨h1, h2⟩ := hc
  rw [h2]
  have hb := mAddrAt_bd e.own x.id
  obtain ⟨k, hk, hkl⟩ := findL_mem (fun a : DAddr => a.id == x.id) e.own h1
  have hk : mAddrAt e.own x.id = (k : Int) := hk
  have hid := ((findL_is (fun a : DAddr => a.id == x.id) (ETy.zero .addr) e.own k hkl).1 hk).1
  rw [hk, Int.toNat_natCast]
  have hA := AOk_told he.own k
  generalize hL : e.own.set k { e.own.getD k (ETy.zero .addr) with told := true } = L at hA
  have hg : L.getD k (ETy.zero .addr) = { e.own.getD k (ETy.zero .addr) with told := true } := by rw [← hL]; simp [List.getD, hkl]
  have hLl : k < L.length := by rw [← hL, List.length_set]; exact hkl
  have hat := addr_at hA hLl (n := x.id) (by rw [hg]; simpa using hid)
  unfold mHearEcho
  split
  ·refine ⟨rfl, rfl, ?_, rfl, rfl, rfl⟩
   show L = L.set (mAddrAt L x.id).toNat { L.getD (mAddrAt L x.id).toNat (ETy.zero .addr) with told := true }
   rw [hat, Int.toNat_natCast, hg]
   exact (set_getD _ _ _ hLl hg).symm
  ·exact .refl _
 ·have h1 : mHearEcho e x = (e, []) := by
   unfold mHearEcho at hc ⊢
   split at hc
   ·rename_i h; exact absurd ⟨h.2.2.2.1, rfl⟩ hc
   ·rename_i h; rw [if_neg h]
  rw [h1, h1]; exact .refl _
theorem gone_no {o : DEnd} {x : DLetter} (h : mAddrAt o.far x.id < 0) : mHearGone o x = (o, []) := by
 unfold mHearGone
 exact if_neg fun hc => by omega
theorem reset_no {o : DEnd} {x : DLetter} (h : mSubAt o (mRoadOf x) < 0) : mHearReset o x = (o, []) := by
 unfold mHearReset
 refine if_neg fun hc => ?_
 have := hc.2.2
 unfold mSignedOn at this
 split at this <;> omega
theorem gone_twice {e : DEnd} (he : EOk e) (x : DLetter) : Tw (mHearGone e x).1 (mHearGone (mHearGone e x).1 x).1 := by
 have h : (mHearGone e x).1 = e ∨ mAddrAt (mHearGone e x).1.far x.id < 0 := by
  unfold mHearGone; split
  ·exact .inr (addrAt_neg.2 (dropAddr_no he.far x.id))
  ·exact .inl rfl
 rcases h with h | h
 ·rw [h, h]; exact .refl _
 ·rw [gone_no h]; exact .refl _
theorem data_twice {e : DEnd} (hG : e.G) (x : DLetter) : Tw (mHearData e x).1 (mHearData (mHearData e x).1 x).1 := by
 by_cases hc : (mHearData e x).1 = { e with inn := mPutPiece e.inn x.pos x.text }
 ·rw [hc]
  have ht := put_twice hG.2 (G_E hG).inn x.pos x.text
  unfold mHearData
  repeat' split
  ·exact .refl _
  ·exact ⟨rfl, rfl, rfl, ht.symm, rfl, rfl⟩
  ·exact .refl _
 ·have h1 : (mHearData e x).1 = e := by
   unfold mHearData at hc ⊢
   split at hc
   ·split at hc
    ·rename_i h h'; rw [if_pos h, if_pos h']
    ·exact absurd rfl hc
   ·rename_i h; rw [if_neg h]
  rw [h1, h1]; exact .refl _
theorem came_same (o : DOut) (u : Int) : mCame (mCame o u) u = mCame o u := by
 by_cases hc : mOutOk o = true ∧ o.base < u ∧ u ≤ o.base + o.text.length
 ·have h1 : (mCame o u).base = u := by unfold mCame; rw [if_pos hc]
  generalize mCame o u = q at h1
  unfold mCame
  rw [if_neg (fun h => by omega)]
 ·have h1 : mCame o u = o := by unfold mCame; rw [if_neg hc]
  rw [h1, h1]
theorem came_twice (e : DEnd) (x : DLetter) : Tw (mHearCame e x).1 (mHearCame (mHearCame e x).1 x).1 := by
 by_cases hc : (mHearCame e x).1 = { e with out := mCame e.out x.pos }
 ·rw [hc]
  unfold mHearCame
  split
  ·exact ⟨rfl, rfl, rfl, rfl, (came_same _ _).symm, rfl⟩
  ·exact .refl _
 ·have h1 : (mHearCame e x).1 = e := by
   unfold mHearCame at hc ⊢
   split at hc
   ·exact absurd rfl hc
   ·rename_i h; rw [if_neg h]
  rw [h1, h1]; exact .refl _
theorem reset_twice {e : DEnd} (he : EOk e) (x : DLetter) : Tw (mHearReset e x).1 (mHearReset (mHearReset e x).1 x).1 := by
 have h : (mHearReset e x).1 = e ∨ mSubAt (mHearReset e x).1 (mRoadOf x) < 0 := by
  unfold mHearReset; split
  ·rename_i hc
   refine .inr (subAt_neg.2 ?_)
   have hs := hc.2.2
   have hk : mSignedOn e x = mSubAt e (mRoadOf x) := by
    unfold mSignedOn at hs ⊢
    split
    ·rename_i h; rw [if_pos h] at hs; omega
    ·rfl
   have h0 := hs
   rw [hk] at h0
   have hg := goneAt_free he.subs (mRoadOf x)
   rw [mGoneAt, if_pos h0] at hg
   rw [hk]
   exact hg
  ·exact .inl rfl
 rcases h with h | h
 ·rw [h, h]; exact .refl _
 ·rw [reset_no h]; exact .refl _
theorem twice_of {f : DEnd → DLetter → DEnd × List DLetter} {e : DEnd} {x : DLetter} (hf : ∀ o, (mHear o x).1 = o ∨ (mHear o x).1 = (f o x).1) (h : Tw (f e x).1 (f (f e x).1 x).1) : Tw (mHear e x).1 (mHear (mHear e x).1 x).1 := by
 rcases hf e with h1 | h1
 ·rw [h1, h1]; exact .refl _
 ·rw [h1]
  rcases hf (f e x).1 with h2 | h2
  ·rw [h2]; exact .refl _
  ·rw [h2]; exact h
theorem hear_as {k : Int} {f : DEnd → DLetter → DEnd × List DLetter} {x : DLetter} (hx : x.kind = k) (hk : ∀ o : DEnd,
  (if k = 1 then mHearHello o x else if k = 2 then mHearBack o x else if k = 4 then mHearJoin o x else if k = 5 then mHearJoinBack o x
  else if k = 6 then mHearJoinDone o x else if k = 7 then mHearJoinAck o x else if k = 8 then mHearAddr o x else if k = 9 then mHearEcho o x
  else if k = 10 then mHearGone o x else if k = 11 then mHearData o x else if k = 12 then mHearCame o x else if k = 13 then mHearReset o x else (o, [])) = f o x) (o : DEnd) :
  (mHear o x).1 = o ∨ (mHear o x).1 = (f o x).1 := by
 by_cases hc : mEndOk o = true ∧ mLetterOk x = true ∧ mOwns o x.dst = true
 ·refine .inr ?_
  unfold mHear
  rw [if_pos hc, hx, hk o]
 ·refine .inl ?_
  unfold mHear
  rw [if_neg hc]
theorem twice_law {e : DEnd} (hU : e.U) (x : DLetter) : Tw (mHear e x).1 (mHear (mHear e x).1 x).1 := by
 by_cases ho : mEndOk e = true
 ·have hG := U_G hU ho
  have he := G_E hG
  by_cases h1 : x.kind = 1; · exact twice_of (hear_as (f := mHearHello) h1 fun o => rfl) (hello_twice e x)
  by_cases h2 : x.kind = 2; · exact twice_of (hear_as (f := mHearBack) h2 fun o => rfl) (back_twice e x)
  by_cases h4 : x.kind = 4; · exact twice_of (hear_as (f := mHearJoin) h4 fun o => rfl) (join_tw _ x)
  by_cases h5 : x.kind = 5; · exact twice_of (hear_as (f := mHearJoinBack) h5 fun o => rfl) (joinBack_tw _ x)
  by_cases h6 : x.kind = 6; · exact twice_of (hear_as (f := mHearJoinDone) h6 fun o => rfl) (done_twice he x)
  by_cases h7 : x.kind = 7; · exact twice_of (hear_as (f := mHearJoinAck) h7 fun o => rfl) (ack_twice e x)
  by_cases h8 : x.kind = 8; · exact twice_of (hear_as (f := mHearAddr) h8 fun o => rfl) (haddr_twice e x)
  by_cases h9 : x.kind = 9; · exact twice_of (hear_as (f := mHearEcho) h9 fun o => rfl) (echo_twice he x)
  by_cases h10 : x.kind = 10; · exact twice_of (hear_as (f := mHearGone) h10 fun o => rfl) (gone_twice he x)
  by_cases h11 : x.kind = 11; · exact twice_of (hear_as (f := mHearData) h11 fun o => rfl) (data_twice hG x)
  by_cases h12 : x.kind = 12; · exact twice_of (hear_as (f := mHearCame) h12 fun o => rfl) (came_twice e x)
  by_cases h13 : x.kind = 13; · exact twice_of (hear_as (f := mHearReset) h13 fun o => rfl) (reset_twice he x)
  have hn : ∀ o, mHear o x = (o, []) := fun o => by
   unfold mHear
   rw [if_neg h1, if_neg h2, if_neg h4, if_neg h5, if_neg h6, if_neg h7, if_neg h8, if_neg h9, if_neg h10, if_neg h11, if_neg h12, if_neg h13]
   exact ite_self _
  rw [hn, hn]; exact .refl _
 ·have hn : mHear e x = (e, []) := by unfold mHear; rw [if_neg (fun h => ho h.1)]
  rw [hn, hn]; exact .refl _
theorem hear_S {e : DEnd} (hU : e.U) (x : DLetter) : (mHear e x).1.inn.S := by
 have hS := F_S hU.inn
 by_cases h : x.kind = 11
 ·rcases hear_as (f := mHearData) (x := x) h (fun o => rfl) e with h1 | h1
  ·rw [h1]; exact hS
  ·rw [h1]
   unfold mHearData
   repeat' split
   ·exact hS
   ·rename_i hc _
    have hG := U_G hU hc.1
    exact O_S ⟨piecesOk_put _ _ (G_E hG).inn, K_put _ _ hG.2 (G_E hG).inn⟩
   ·exact hS
 ·rw [hear_inn x h]; exact hS
end Go.Eng
