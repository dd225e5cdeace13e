/- Plain models of what the functions compute. -/
import Derived.Test.YtnpeomhpbakgnaaM9
set_option linter.unusedVariables false
set_option linter.unusedSimpArgs false
namespace Go.Eng

theorem sub_frm (a b c d : Int) (e : Bool) (f g h i j : Int) : ETy.sub.frm (a, b, c, d, e, f, g, h, i, j, ()) = (⟨⟨a, b, c⟩, d, e, f, g, h, i, j⟩ : DSub) := rfl
theorem addr_frm (a b : Int) (c d : Bool) : ETy.addr.frm (a, b, c, d, ()) = (⟨a, b, c, d⟩ : DAddr) := rfl
theorem half_frm (a b c d e f g h : Int) : ETy.half.frm (a, b, c, d, e, f, g, h, ()) = (⟨⟨a, b, c⟩, d, e, f, g, h⟩ : DHalf) := rfl
theorem int_frm (a : Int) : ETy.int.frm (a, ()) = (a : Int) := rfl
theorem road_frm (a b c : Int) : ETy.road.frm (a, b, c, ()) = (⟨a, b, c⟩ : DRoad) := rfl
theorem piece_frm (a : Int) (t : List UInt8) : ETy.piece.frm (a, t, ()) = (⟨a, t⟩ : DPiece) := rfl
theorem tag_frm (a b c d e : Int) : ETy.tag.frm (a, b, c, d, e, ()) = (⟨a, b, c, d, e⟩ : DTag) := rfl
theorem letter_frm (a b c d e f g h i j k l m n o p : Int) (q : Bool) (r : Int) (s : List UInt8) : ETy.letter.frm (a, b, c, d, e, f, g, h, i, j, k, l, m, n, o, p, q, r, s, ()) = (⟨a, b, c, d, e, f, g, h, i, ⟨j, k, l, m, n⟩, o, p, q, r, s⟩ : DLetter) := rfl
abbrev tg0 : DTag := ⟨0, 0, 0, 0, 0⟩
def ltr (kind key token nonce give sign : Int) (tag : DTag) (id addr : Int) (spare : Bool) (pos : Int) (text : List UInt8) : DLetter := ⟨kind, 0, 0, 0, key, token, nonce, give, sign, tag, id, addr, spare, pos, text⟩
def mRoom (e : DEnd) : Bool := mIn e.draw 1 999999996
def mTagBack (m t a b : Int) : DTag := ⟨1, m, t, a, b⟩
def mTagDone (m t a b : Int) : DTag := ⟨2, m, t, a, b⟩
def mMet (a : Int) : List DAddr := [⟨0, a, false, true⟩]
def setSub (e : DEnd) (k : Int) (f : DSub → DSub) : DEnd := { e with subs := e.subs.set k.toNat (f (gSub e k)) }
def gHalf (e : DEnd) (k : Int) : DHalf := e.halfs.getD k.toNat (ETy.zero .half)

def mOpenRoad (e : DEnd) (far : Int) : DRoad := ⟨(e.own.getD 0 (ETy.zero .addr)).addr, far, 0⟩
def mOpen (e : DEnd) (far : Int) : DEnd × List DLetter :=
  if mEndOk e = true ∧ e.state = 0 ∧ e.own.length ≠ 0 ∧ mIn far 1 65535 = true ∧ e.subs.length < 8 ∧ mRoom e = true ∧ mSubAt e (mOpenRoad e far) < 0 then
    ({ e with state := 1, key := e.draw, draw := e.draw + 4, subs := e.subs ++ [⟨mOpenRoad e far, 1, false, 0, 0, 0, e.draw + 2, 0⟩] },
      [mBetween (mOpenRoad e far) (ltr 1 e.draw 0 0 (e.draw + 2) 0 tg0 0 0 false 0 [])])
  else (e, [])
def mHearHello (e : DEnd) (x : DLetter) : DEnd × List DLetter :=
  if mEndOk e = true ∧ mLetterOk x = true ∧ e.state = 0 ∧ mOwns e x.dst = true ∧ mIn x.src 1 65535 = true ∧ mSubAt e (mRoadOf x) < 0 ∧ e.subs.length < 8 ∧ mRoom e = true then
    ({ e with state := 2, key := e.draw, peer := x.key, far := mMet x.src, draw := e.draw + 4, subs := e.subs ++ [⟨mRoadOf x, 3, false, 0, 0, x.give, e.draw + 2, 0⟩] },
      [mBetween (mRoadOf x) (ltr 2 e.draw 0 0 (e.draw + 2) 0 tg0 0 0 false 0 [])])
  else (e, [])
def mHearBack (e : DEnd) (x : DLetter) : DEnd × List DLetter :=
  if mEndOk e = true ∧ mLetterOk x = true ∧ e.state = 1 ∧ 0 ≤ mSubAt e (mRoadOf x) ∧ (gSub e (mSubAt e (mRoadOf x))).state = 1 ∧ mIn x.src 1 65535 = true then
    ({ setSub e (mSubAt e (mRoadOf x)) (fun s => { s with state := 3, give := x.give }) with state := 2, peer := x.key, far := mMet x.src }, [mBetween (mRoadOf x) (ltr 3 0 0 0 0 0 tg0 0 0 false 0 [])])
  else (e, [])
def mJoinLetter (e : DEnd) (s : DSub) : DLetter := mBetween s.road (ltr 4 0 (mTokenFor (w64 (3 - e.side))) s.mine s.take 0 tg0 0 0 s.spare 0 [])
def mDoneLetter (e : DEnd) (s : DSub) : DLetter := mBetween s.road (ltr 6 0 0 0 0 0 (mTagDone e.key e.peer s.mine s.theirs) 0 0 false 0 [])
def mFarHas (e : DEnd) (a : Int) : Bool := anyL (fun x : DAddr => x.addr == a) e.far
/-- The last place below n whose address it is. -/
def dnL (a : Int) (l : List DAddr) : Nat → Int
  | 0 => -1
  | n + 1 => if (gA l n).addr = a then (n : Int) else dnL a l n
def mFarAt (e : DEnd) (a : Int) : Int := dnL a e.far e.far.length
theorem dnL_bd (a : Int) (l : List DAddr) : ∀ n, dnL a l n = -1 ∨ (0 ≤ dnL a l n ∧ dnL a l n < n)
  | 0 => .inl rfl
  | n + 1 => by
    rw [dnL]
    split
    · right; omega
    · rcases dnL_bd a l n with h | h
      · exact .inl h
      · right; omega
theorem anyL_iff {α : Type} (p : α → Bool) : ∀ l, anyL p l = true ↔ ∃ x ∈ l, p x = true
  | [] => by simp [anyL]
  | x :: l => by
    rw [anyL]
    have := anyL_iff p l
    split <;> rename_i h <;> simp_all
theorem dnL_iff (a : Int) (l : List DAddr) : ∀ n, n ≤ l.length → (0 ≤ dnL a l n ↔ ∃ j, j < n ∧ (gA l j).addr = a)
  | 0, _ => by simp [dnL]
  | n + 1, h => by
    rw [dnL]
    split
    · rename_i h1
      exact ⟨fun _ => ⟨n, by omega, h1⟩, fun _ => by omega⟩
    · rename_i h1
      rw [dnL_iff a l n (by omega)]
      constructor
      · rintro ⟨j, hj, ha⟩; exact ⟨j, by omega, ha⟩
      · rintro ⟨j, hj, ha⟩
        rcases Nat.lt_or_ge j n with h2 | h2
        · exact ⟨j, h2, ha⟩
        · have : j = n := by omega
          subst this; exact absurd ha h1
theorem farAt_has (e : DEnd) (a : Int) : mFarHas e a = decide (0 ≤ mFarAt e a) := by
  rw [Bool.eq_iff_iff, decide_eq_true_iff, mFarHas, anyL_iff, mFarAt, dnL_iff a e.far _ (Nat.le_refl _)]
  constructor
  · rintro ⟨x, hx, ha⟩
    obtain ⟨j, hj, rfl⟩ := List.getElem_of_mem hx
    exact ⟨j, hj, by simpa [gA, List.getD, hj] using ha⟩
  · rintro ⟨j, hj, ha⟩
    exact ⟨e.far[j], List.getElem_mem hj, by simpa [gA, List.getD, hj] using ha⟩
def mJoin (e : DEnd) (r : DRoad) (sp : Bool) : DEnd × List DLetter :=
  if mEndOk e = true ∧ e.state = 2 ∧ mRoadNum r = true ∧ mSubAt e r < 0 ∧ mOwns e r.own = true ∧ mFarHas e r.far = true ∧ e.subs.length < 8 ∧ mRoom e = true then
    ({ e with draw := e.draw + 4, subs := e.subs ++ [⟨r, 1, sp, e.draw, 0, 0, e.draw + 2, 0⟩] }, [mJoinLetter e ⟨r, 1, sp, e.draw, 0, 0, e.draw + 2, 0⟩])
  else (e, [])
def mTakeOne (b : DBucket) : DBucket × Bool := if mBucketOk b = true ∧ b.hav ≠ 0 then ({ b with hav := b.hav - 1 }, true) else (b, false)
def mPutHalfL (l : List DHalf) (h : DHalf) : List DHalf := if 0 ≤ mHalfAt l h.road then l.set (mHalfAt l h.road).toNat h else l ++ [h]
def mPutHalf (l : List DHalf) (h : DHalf) : List DHalf × Bool := if mHalfsOk (mPutHalfL l h) = true then (mPutHalfL l h, true) else (l, false)
def mDropHalf (l : List DHalf) (r : DRoad) : List DHalf := if mHalfAt l r < 0 then l else l.take (mHalfAt l r).toNat ++ l.drop ((mHalfAt l r).toNat + 1)
def mJoinHalf (e : DEnd) (x : DLetter) : DHalf :=
  if 0 ≤ mHalfAt e.halfs (mRoadOf x) ∧ (gHalf e (mHalfAt e.halfs (mRoadOf x))).theirs = x.nonce ∧ (gHalf e (mHalfAt e.halfs (mRoadOf x))).give = x.give then
    { gHalf e (mHalfAt e.halfs (mRoadOf x)) with til := e.now + 6 }
  else ⟨mRoadOf x, x.nonce, e.draw, x.give, e.draw + 2, e.now + 6⟩
def mJoinDraw (e : DEnd) (x : DLetter) : Int :=
  if 0 ≤ mHalfAt e.halfs (mRoadOf x) ∧ (gHalf e (mHalfAt e.halfs (mRoadOf x))).theirs = x.nonce ∧ (gHalf e (mHalfAt e.halfs (mRoadOf x))).give = x.give then e.draw else e.draw + 4
def mHearJoin (e : DEnd) (x : DLetter) : DEnd × List DLetter :=
  if (mEndOk e = true ∧ mLetterOk x = true ∧ e.state = 2 ∧ x.token = mTokenFor e.side ∧ mOwns e x.dst = true ∧ e.subs.length < 8 ∧ (0 ≤ mHalfAt e.halfs (mRoadOf x) ∨ e.halfs.length < 4) ∧ mRoom e = true ∧ e.now ≤ 999999994) ∧ (mTakeOne e.bucket).2 = true then
    ({ e with bucket := (mTakeOne e.bucket).1, draw := mJoinDraw e x, halfs := (mPutHalf e.halfs (mJoinHalf e x)).1 },
      [mBetween (mRoadOf x) (ltr 5 0 0 (mJoinHalf e x).mine (mJoinHalf e x).take 0 (mTagBack e.key e.peer (mJoinHalf e x).mine (mJoinHalf e x).theirs) 0 0 false 0 [])])
  else (e, [])
def mHearJoinBack (e : DEnd) (x : DLetter) : DEnd × List DLetter :=
  if mEndOk e = true ∧ mLetterOk x = true ∧ e.state = 2 ∧ 0 ≤ mSubAt e (mRoadOf x) ∧ (gSub e (mSubAt e (mRoadOf x))).state = 1 ∧ x.tag = mTagBack e.peer e.key x.nonce (gSub e (mSubAt e (mRoadOf x))).mine then
    (setSub e (mSubAt e (mRoadOf x)) (fun s => { s with state := 2, theirs := x.nonce, give := x.give, tries := 0 }),
      [mDoneLetter e { gSub e (mSubAt e (mRoadOf x)) with state := 2, theirs := x.nonce, give := x.give, tries := 0 }])
  else (e, [])
def mAck (r : DRoad) (give : Int) : DLetter := mBetween r (ltr 7 0 0 0 0 give tg0 0 0 false 0 [])
def mGoneAt (l : List DSub) (k : Int) : List DSub := if 0 ≤ k then l.set k.toNat { l.getD k.toNat (ETy.zero .sub) with state := 4 } else l
def mHearJoinDone (e : DEnd) (x : DLetter) : DEnd × List DLetter :=
  if mEndOk e = true ∧ mLetterOk x = true ∧ e.state = 2 then
    if 0 ≤ mHalfAt e.halfs (mRoadOf x) ∧ e.subs.length < 8 ∧ x.tag = mTagDone e.peer e.key (gHalf e (mHalfAt e.halfs (mRoadOf x))).theirs (gHalf e (mHalfAt e.halfs (mRoadOf x))).mine then
      ({ e with subs := mGoneAt e.subs (mSubAt e (mRoadOf x)) ++ [⟨mRoadOf x, 3, false, (gHalf e (mHalfAt e.halfs (mRoadOf x))).mine, (gHalf e (mHalfAt e.halfs (mRoadOf x))).theirs, (gHalf e (mHalfAt e.halfs (mRoadOf x))).give, (gHalf e (mHalfAt e.halfs (mRoadOf x))).take, 0⟩], halfs := mDropHalf e.halfs (mRoadOf x) },
        [mAck (mRoadOf x) (gHalf e (mHalfAt e.halfs (mRoadOf x))).give])
    else if 0 ≤ mSubAt e (mRoadOf x) ∧ (gSub e (mSubAt e (mRoadOf x))).state = 3 ∧ x.tag = mTagDone e.peer e.key (gSub e (mSubAt e (mRoadOf x))).theirs (gSub e (mSubAt e (mRoadOf x))).mine then
      (e, [mAck (mRoadOf x) (gSub e (mSubAt e (mRoadOf x))).give])
    else (e, [])
  else (e, [])
def mHearJoinAck (e : DEnd) (x : DLetter) : DEnd × List DLetter :=
  if mEndOk e = true ∧ mLetterOk x = true ∧ 0 ≤ mSubAt e (mRoadOf x) ∧ (gSub e (mSubAt e (mRoadOf x))).state = 2 ∧ (gSub e (mSubAt e (mRoadOf x))).take = x.sign then
    (setSub e (mSubAt e (mRoadOf x)) (fun s => { s with state := 3 }), [])
  else (e, [])
def mL20On (e : DEnd) (x : DLetter) : Int := if mEndOk e = true ∧ mLetterOk x = true then mSignedOn e x else -1
def mHearAddr (e : DEnd) (x : DLetter) : DEnd × List DLetter :=
  if mEndOk e = true ∧ mLetterOk x = true ∧ 0 ≤ mSignedOn e x ∧ x.tag = mTagAddr e.peer e.key x.id x.addr ∧ mHas e.over x.id = false ∧ ¬(0 ≤ mAddrAt e.far x.id ∧ (e.far.getD (mAddrAt e.far x.id).toNat (ETy.zero .addr)).addr ≠ x.addr) ∧ (mPutAddr e.far ⟨x.id, x.addr, x.spare, true⟩).2 = true then
    ({ e with far := (mPutAddr e.far ⟨x.id, x.addr, x.spare, true⟩).1 }, [mBetween (mRoadOf x) (ltr 9 0 0 0 0 (gSub e (mSignedOn e x)).give tg0 x.id x.addr false 0 [])])
  else (e, [])
def mHearEcho (e : DEnd) (x : DLetter) : DEnd × List DLetter :=
  if mEndOk e = true ∧ mLetterOk x = true ∧ 0 ≤ mSignedOn e x ∧ 0 ≤ mAddrAt e.own x.id ∧ (e.own.getD (mAddrAt e.own x.id).toNat (ETy.zero .addr)).addr = x.addr then
    ({ e with own := e.own.set (mAddrAt e.own x.id).toNat { e.own.getD (mAddrAt e.own x.id).toNat (ETy.zero .addr) with told := true } }, [])
  else (e, [])
def mDropAddr (l : List DAddr) (id : Int) : List DAddr × Bool := if mAddrAt l id < 0 then (l, false) else (l.take (mAddrAt l id).toNat ++ l.drop ((mAddrAt l id).toNat + 1), true)
def plN (n : Int) : List Int → Nat → Nat
  | [], i => i
  | x :: l, i => if x < n then plN n l (i + 1) else i
def mPut (l : List Int) (n : Int) : List Int :=
  if plN n l 0 < l.length ∧ l.getD (plN n l 0) (ETy.zero .int) = n then l else l.take (plN n l 0) ++ [n] ++ l.drop (plN n l 0)
def goneIf (p : DSub → Bool) (l : List DSub) : List DSub := l.map fun s => if p s = true then { s with state := 4 } else s
def mDropLetter (id : Int) (s : DSub) : DLetter := mBetween s.road (ltr 10 0 0 0 0 s.give tg0 id 0 false 0 [])
def mDropEnd (e : DEnd) (id : Int) : DEnd :=
  { e with own := (mDropAddr e.own id).1, done := mPut e.done id, subs := goneIf (fun s => s.road.own == (e.own.getD (mAddrAt e.own id).toNat (ETy.zero .addr)).addr) e.subs }
def mDropOwn (e : DEnd) (id : Int) : DEnd × List DLetter :=
  if mEndOk e = true ∧ e.state = 2 ∧ 0 ≤ mAddrAt e.own id then
    (mDropEnd e id, (mOnOf (mDropEnd e id)).map fun k => mDropLetter id (gSub (mDropEnd e id) k))
  else (e, [])
def mHearGone (e : DEnd) (x : DLetter) : DEnd × List DLetter :=
  if mEndOk e = true ∧ mLetterOk x = true ∧ 0 ≤ mSignedOn e x ∧ 0 ≤ mAddrAt e.far x.id then
    ({ e with far := (mDropAddr e.far x.id).1, over := mPut e.over x.id, subs := goneIf (fun s => s.road.far == (e.far.getD (mAddrAt e.far x.id).toNat (ETy.zero .addr)).addr) e.subs }, [])
  else (e, [])
def mCame (o : DOut) (u : Int) : DOut :=
  if mOutOk o = true ∧ o.base < u ∧ u ≤ o.base + o.text.length then { o with text := o.text.drop (u - o.base).toNat, base := u, sent := if o.sent < u then u else o.sent } else o
def mHearCame (e : DEnd) (x : DLetter) : DEnd × List DLetter :=
  if mEndOk e = true ∧ mLetterOk x = true ∧ 0 ≤ mSignedOn e x then ({ e with out := mCame e.out x.pos }, []) else (e, [])
def mReset (e : DEnd) (k : Int) : DEnd × List DLetter :=
  if mEndOk e = true ∧ 0 ≤ k ∧ k < (e.subs.length : Int) ∧ (gSub e k).state = 3 then
    (setSub e k (fun s => { s with state := 4 }), [mBetween (gSub e k).road (ltr 13 0 0 0 0 (gSub e k).give tg0 0 0 false 0 [])])
  else (e, [])
def mHearReset (e : DEnd) (x : DLetter) : DEnd × List DLetter :=
  if mEndOk e = true ∧ mLetterOk x = true ∧ 0 ≤ mSignedOn e x then (setSub e (mSignedOn e x) (fun s => { s with state := 4 }), []) else (e, [])
def mNextPiece (o : DOut) : DPiece × Bool :=
  if mOutOk o = true ∧ o.sent ≠ o.base + o.text.length then (⟨o.sent, (o.text.drop (o.sent - o.base).toNat).take 20⟩, true) else (⟨0, []⟩, false)
def mWasSent (o : DOut) : DOut := { o with sent := o.sent + ((mNextPiece o).1.text.length : Int) }
def mPush (e : DEnd) : DEnd × List DLetter :=
  if (mNextPiece e.out).2 = true ∧ 0 ≤ mNextSub e then
    ({ e with out := mWasSent e.out, pick := if e.pick ≥ 1000000000 then 0 else e.pick + 1 },
      [mBetween (gSub e (mNextSub e)).road (ltr 11 0 0 0 0 (gSub e (mNextSub e)).give tg0 0 0 false (mNextPiece e.out).1.pos (mNextPiece e.out).1.text)])
  else (e, [])
theorem room_bd {e : DEnd} (h : mRoom e = true) : 1 ≤ e.draw ∧ e.draw ≤ 999999996 ∧ w64 (e.draw + 2) = e.draw + 2 ∧ w64 (e.draw + 4) = e.draw + 4 ∧ w64 (e.draw + 2 + 2) = e.draw + 4 := by
  have := mIn_iff.1 h
  refine ⟨this.1, this.2, ?_, ?_, ?_⟩ <;> (rw [w64_id (by omega) (by omega)]; try omega)
theorem mSignedOn_bd (e : DEnd) (x : DLetter) : mSignedOn e x = -1 ∨ (0 ≤ mSignedOn e x ∧ mSignedOn e x < e.subs.length) := by
  have := mSubAt_bd e (mRoadOf x)
  unfold mSignedOn
  split <;> omega
end Go.Eng
