/- Plain models of what the functions compute; part 2. No program in sight. -/
import Derived.Test.YtnpeomhpbakgnaaGreatMod1
set_option linter.unusedVariables false
set_option linter.unusedSimpArgs false
namespace Go.Eng

def mMeetO (a b : DEnd) : DEnd × List DLetter := mOpen a (gA b.own 0).addr
def mMeetH (a b : DEnd) : DEnd × List DLetter := match (mMeetO a b).2 with
  | [] => (b, [])
  | l :: _ => mHearHello b l
def mMeetX (a b : DEnd) : DEnd := match (mMeetH a b).2 with
  | [] => (mMeetO a b).1
  | m :: _ => (mHearBack (mMeetO a b).1 m).1
def mMeetOk (x y : DEnd) : Bool := decide (x.state = 2) && decide (y.state = 2) && decide (x.peer = y.key) && decide (y.peer = x.key)
def mMeet (a b : DEnd) : DEnd × DEnd × Bool := if b.own.length = 0 then (a, b, false) else (mMeetX a b, (mMeetH a b).1, mMeetOk (mMeetX a b) (mMeetH a b).1)
theorem mOpen_len1 (e : DEnd) (f : Int) : (mOpen e f).2.length ≤ 1 := by
  unfold mOpen
  split <;> simp
theorem mHearHello_len1 (e : DEnd) (x : DLetter) : (mHearHello e x).2.length ≤ 1 := by
  unfold mHearHello
  split <;> simp
theorem mMeetH_len (a b : DEnd) : (mMeetH a b).2.length ≤ 1 := by
  unfold mMeetH
  split
  · simp
  · exact mHearHello_len1 _ _
theorem mMeetO_B {a b : DEnd} (h : a.B) : (mMeetO a b).1.B := mOpen_B _ h
theorem mMeetH_B {a b : DEnd} (h : b.B) : (mMeetH a b).1.B := by
  unfold mMeetH
  split
  · exact h
  · exact mHearHello_B _ h
theorem mMeetX_B {a b : DEnd} (h : a.B) : (mMeetX a b).B := by
  unfold mMeetX
  split
  · exact mMeetO_B h
  · exact mHearBack_B _ (mMeetO_B h)
theorem mMeet_B1 {a b : DEnd} (h : a.B) : (mMeet a b).1.B := by
  unfold mMeet
  split
  · exact h
  · exact mMeetX_B h
theorem mMeet_B2 {a b : DEnd} (h : b.B) : (mMeet a b).2.1.B := by
  unfold mMeet
  split
  · exact h
  · exact mMeetH_B h
theorem meetH_of {a b : DEnd} {l : DLetter} {i : Nat} (h : (mMeetO a b).2[i]? = some l) : i = 0 ∧ mMeetH a b = mHearHello b l ∧ (mMeetO a b).2.length = 1 := by
  have hl := mOpen_len1 a (gA b.own 0).addr
  have hi := (List.getElem?_eq_some_iff.1 h).1
  have hi : i < (mMeetO a b).2.length := hi
  have hl : (mMeetO a b).2.length ≤ 1 := hl
  obtain rfl : i = 0 := by omega
  refine ⟨rfl, ?_, by omega⟩
  unfold mMeetH
  revert h
  cases (mMeetO a b).2 with
  | nil => intro h; simp at h
  | cons y t => intro h; simp at h; subst h; rfl
theorem meetX_of {a b : DEnd} {m : DLetter} {i : Nat} (h : (mMeetH a b).2[i]? = some m) : i = 0 ∧ mMeetX a b = (mHearBack (mMeetO a b).1 m).1 ∧ (mMeetH a b).2.length = 1 := by
  have hi : i < (mMeetH a b).2.length := (List.getElem?_eq_some_iff.1 h).1
  have hl := mMeetH_len a b
  obtain rfl : i = 0 := by omega
  refine ⟨rfl, ?_, by omega⟩
  unfold mMeetX
  revert h
  cases (mMeetH a b).2 with
  | nil => intro h; simp at h
  | cons y t => intro h; simp at h; subst h; rfl
theorem meetH_nil {a b : DEnd} (h : (mMeetO a b).2.length = 0) : mMeetH a b = (b, []) := by
  unfold mMeetH
  rw [List.length_eq_zero_iff.1 h]
theorem meetX_nil {a b : DEnd} (h : (mMeetH a b).2.length = 0) : mMeetX a b = (mMeetO a b).1 := by
  unfold mMeetX
  rw [List.length_eq_zero_iff.1 h]
def mWorldNew (p : DPolicy) : DWorld × Bool :=
  if (mEndNew 1 11 p).2 = true then
    (⟨(mMeet (mEndNew 1 11 p).1 (mEndNew 2 21 p).1).1, (mMeet (mEndNew 1 11 p).1 (mEndNew 2 21 p).1).2.1, [], [], [], [], [], [], ⟨[5, 7], []⟩, [], [], []⟩, true)
  else (⟨end0, end0, [], [], [], [], [], [], ⟨[], []⟩, [], [], []⟩, false)
theorem mEndNew_two (p : DPolicy) : (mEndNew 2 21 p).2 = (mEndNew 1 11 p).2 := by
  have h1 : mAddrsOk [⟨0, 11, false, true⟩] = true := by decide
  have h2 : mAddrsOk [⟨0, 21, false, true⟩] = true := by decide
  unfold mEndNew
  rw [h1, h2, show mIn 1 1 2 = true from rfl, show mIn 2 1 2 = true from rfl]
  by_cases h : mPolicyOk p = true <;> simp [h]
theorem mWorldNew_B (p : DPolicy) : (mWorldNew p).1.B := by
  unfold mWorldNew
  split
  · refine ⟨mMeet_B1 (mEndNew_B _ _ _), mMeet_B2 (mEndNew_B _ _ _), ?_, ?_, ?_, ?_, ?_, ?_, ?_⟩ <;> simp
  · refine ⟨?_, ?_, ?_, ?_, ?_, ?_, ?_, ?_, ?_⟩ <;> simp [DEnd.B, end0]
theorem KB_of_B2 {x y : DEnd} (hx : x.B) (hy : y.B) : KB (1 + (nEnd x : Int)) (nEnd y) := by
  have := endN_le hx
  have := endN_le hy
  unfold KB
  omega
theorem lt0_4 (n m : Nat) : (1 + (n : Int) + (m : Int) < 0) = False := by simp; omega
theorem mkWorld_re (w : DWorld) (k : Int) : ({ a := { side := w.a.side, state := w.a.state, key := w.a.key, peer := w.a.peer, policy := w.a.policy, own := ((mkWorld w k).a).own, far := ((mkWorld w k).a).far, subs := ((mkWorld w k).a).subs, halfs := ((mkWorld w k).a).halfs, bucket := w.a.bucket, out := w.a.out, inn := { read := w.a.inn.read, ready := w.a.inn.ready, list := ((mkWorld w k).a).inn.list }, done := ((mkWorld w k).a).done, over := ((mkWorld w k).a).over, draw := w.a.draw, now := w.a.now, pick := w.a.pick }, b := { side := w.b.side, state := w.b.state, key := w.b.key, peer := w.b.peer, policy := w.b.policy, own := ((mkWorld w k).b).own, far := ((mkWorld w k).b).far, subs := ((mkWorld w k).b).subs, halfs := ((mkWorld w k).b).halfs, bucket := w.b.bucket, out := w.b.out, inn := { read := w.b.inn.read, ready := w.b.inn.ready, list := ((mkWorld w k).b).inn.list }, done := ((mkWorld w k).b).done, over := ((mkWorld w k).b).over, draw := w.b.draw, now := w.b.now, pick := w.b.pick }, bag := (mkWorld w k).bag, past := (mkWorld w k).past, wroteA := w.wroteA, wroteB := w.wroteB, readA := w.readA, readB := w.readB, known := { keys := (mkWorld w k).known.keys, tags := (mkWorld w k).known.tags }, nums := (mkWorld w k).nums, answersA := (mkWorld w k).answersA, answersB := (mkWorld w k).answersB } : DWorld) = mkWorld w k := rfl
end Go.Eng

namespace Go.Eng

def fYoung (now : Int) (h : DHalf) (_ : Nat) : Option DHalf := if h.til > now then some h else none
def mYounger (l : List DHalf) (now : Int) : List DHalf := colL (fYoung now) l 0
def mBrought (n l h : Int) : Int := if h < l ∨ n < l then l else if n > h then h else n
def tickG (s : DSub) : DSub :=
  if s.state ≠ 1 ∧ s.state ≠ 2 then s else if s.state = 2 ∧ s.tries + 1 ≥ 9 then { s with tries := s.tries + 1, state := 4 } else { s with tries := s.tries + 1 }
def tickF (e : DEnd) (s : DSub) (_ : Nat) : Option DLetter :=
  if s.state ≠ 1 ∧ s.state ≠ 2 then none else if s.state = 2 ∧ s.tries + 1 ≥ 9 then none else if (s.tries + 1).tmod 3 ≠ 0 then none
  else if s.state = 1 then some (mJoinLetter e s) else some (mDoneLetter e s)
def mTired (e : DEnd) : Bool := anyL (fun s : DSub => decide (s.tries ≥ 1000000000)) e.subs
def mTick0 (e : DEnd) : DEnd := { e with now := e.now + 1, bucket := mFilled e.bucket, halfs := mYounger e.halfs (e.now + 1), out := mAnew e.out }
def mTick1 (e : DEnd) : DEnd := if e.state = 2 then { mTick0 e with subs := e.subs.map tickG } else mTick0 e
def mTickL (e : DEnd) : List DLetter := if e.state = 2 then colL (tickF e) e.subs 0 else []
def mTickEnd (e : DEnd) (l : List DLetter) : DEnd × List DLetter := ((pushN 3 e).1, l ++ mTellAddrs e ++ (pushN 3 e).2)
def mTick (e : DEnd) : DEnd × List DLetter :=
  if mEndOk e = true ∧ e.now < 1000000000 ∧ mTired e = false then mTickEnd (mTick1 e) (mTickL e) else (e, [])
theorem mTick0_B {e : DEnd} (h : e.B) : (mTick0 e).B := by
  obtain ⟨h1, h2, h3, h4, h5, h6, h7⟩ := h
  exact ⟨h1, h2, h3, Nat.le_trans (colL_le _ _ _) h4, h5, h6, h7⟩
theorem mTick1_B {e : DEnd} (h : e.B) : (mTick1 e).B := by
  unfold mTick1
  split
  · obtain ⟨h1, h2, h3, h4, h5, h6, h7⟩ := mTick0_B h
    exact ⟨h1, h2, by show (e.subs.map tickG).length ≤ _; rw [List.length_map]; exact h3, h4, h5, h6, h7⟩
  · exact mTick0_B h
theorem mTick_B {e : DEnd} (h : e.B) : (mTick e).1.B := by
  unfold mTick
  split
  · exact pushN_B (mTick1_B h) 3
  · exact h
theorem mTick_len {e : DEnd} (h : e.B) (h2 : e.own.length ≤ 1048576) (h3 : e.subs.length ≤ 1048576) : (mTick e).2.length ≤ 1073741824 := by
  unfold mTick
  split
  · have h4 := pushN_len (mTick1 e) 3
    have h5 : (mTickL e).length ≤ e.subs.length := by
      unfold mTickL
      split
      · exact colL_le _ _ _
      · simp
    have h6 : (mTellAddrs (mTick1 e)).length ≤ e.own.length := by
      unfold mTellAddrs
      split
      · refine Nat.le_trans (colL_le _ _ _) ?_
        unfold mTick1
        split <;> exact Nat.le_refl _
      · simp
    simp only [mTickEnd, List.length_append]
    omega
  · simp
theorem tired_no {e : DEnd} (h : mTired e = false) (i : Nat) (s : DSub) (hs : e.subs[i]? = some s) : s.tries < 1000000000 := by
  have := mt (anyL_iff (fun s : DSub => decide (s.tries ≥ 1000000000)) e.subs).2 (by rw [mTired] at h; simp [h])
  have hm := List.mem_of_getElem? hs
  by_cases hc : s.tries ≥ 1000000000
  · exact absurd ⟨s, hm, by simpa using hc⟩ this
  · omega
theorem sub_nums {e : DEnd} (h : mEndOk e = true) (i : Nat) (s : DSub) (hs : e.subs[i]? = some s) : 0 ≤ s.tries ∧ s.tries ≤ 1000000000 := by
  have h2 := (allI_iff _ _ _).1 (endOk_split h).2.2.2 i (by omega) (by have := (List.getElem?_eq_some_iff.1 hs).1; omega)
  have hg : gS e.subs i = s := by simp [gS, List.getD, hs]
  simp only [pSubOk, hg, Bool.and_eq_true, mNum_iff] at h2
  omega
theorem join_tries (e : DEnd) (s : DSub) (t : Int) : mJoinLetter e { s with tries := t } = mJoinLetter e s := rfl
theorem done_tries (e : DEnd) (s : DSub) (t : Int) : mDoneLetter e { s with tries := t } = mDoneLetter e s := rfl
theorem now_w1 {e : DEnd} (h : mEndOk e = true) : w64 (e.now + 1) = e.now + 1 := by
  have := endOk_nums h
  exact w64_id (by omega) (by omega)
theorem tell_small {e : DEnd} (h : mEndOk e = true) : (mTellAddrs (mTick1 e)).length ≤ 6 := by
  have ha := mAddrsOk_len (endOk_parts h).1
  unfold mTellAddrs
  split
  · refine Nat.le_trans (colL_le _ _ _) ?_
    unfold mTick1
    split <;> exact ha
  · simp
end Go.Eng

namespace Go.Eng

def meshIn (a : DAddr) : List DAddr → List DRoad → List DRoad
  | [], acc => acc
  | b :: l, acc => meshIn a l (if acc.length < 8 then acc ++ [⟨a.addr, b.addr, 0⟩] else acc)
def meshOut (far : List DAddr) : List DAddr → List DRoad → List DRoad
  | [], acc => acc
  | a :: l, acc => meshOut far l (meshIn a far acc)
theorem meshIn_full (a : DAddr) : ∀ (l : List DAddr) (acc : List DRoad), ¬ acc.length < 8 → meshIn a l acc = acc
  | [], _, _ => rfl
  | b :: l, acc, h => by rw [meshIn, if_neg h]; exact meshIn_full a l acc h
theorem meshIn_len (a : DAddr) : ∀ (l : List DAddr) (acc : List DRoad), acc.length ≤ 8 → (meshIn a l acc).length ≤ 8
  | [], _, h => h
  | b :: l, acc, h => by
    rw [meshIn]
    apply meshIn_len a l
    split
    · simp; omega
    · exact h
theorem meshOut_len (far : List DAddr) : ∀ (l : List DAddr) (acc : List DRoad), acc.length ≤ 8 → (meshOut far l acc).length ≤ 8
  | [], _, h => h
  | a :: l, acc, h => meshOut_len far l _ (meshIn_len a far acc h)
def manyR (a b : DAddr) : Nat → List DRoad
  | 0 => []
  | n + 1 => manyR a b n ++ [⟨a.addr, b.addr, (n : Int)⟩]
theorem manyR_len (a b : DAddr) : ∀ n, (manyR a b n).length = n
  | 0 => rfl
  | n + 1 => by simp [manyR, manyR_len a b n]
def mMany (p : DPolicy) : Nat := if p.kind = 2 then p.many.toNat else 1
def mWanted (p : DPolicy) (own far : List DAddr) : List DRoad :=
  if mPolicyOk p = true ∧ mIn own.length 1 6 = true ∧ mIn far.length 1 6 = true then
    if p.kind = 1 then meshOut far own [] else manyR (gA own 0) (gA far 0) (mMany p)
  else []
theorem policy_many {p : DPolicy} (h : mPolicyOk p = true) : (mMany p : Int) = (if p.many > 1 then p.many else 1) ∧ (p.kind = 2 → (mMany p : Int) = p.many) ∧ (p.kind ≠ 2 → p.many = 0 ∧ mMany p = 1) ∧ mMany p ≤ 8 ∧ 1 ≤ mMany p := by
  unfold mMany
  simp only [mPolicyOk] at h
  split at h
  · rename_i h2
    have := mIn_iff.1 h
    simp only [h2, if_true]
    refine ⟨?_, ?_, ?_, ?_, ?_⟩
    · split <;> omega
    · intro _; omega
    · intro hh; exact absurd rfl hh
    · omega
    · omega
  · rename_i h2
    simp only [Bool.and_eq_true, beq_iff_eq] at h
    simp only [h2, if_false, h.2]
    refine ⟨by simp, fun hh => absurd hh (by simp), fun _ => ⟨trivial, trivial⟩, by omega, by omega⟩
theorem mWanted_len (p : DPolicy) (own far : List DAddr) : (mWanted p own far).length ≤ 8 := by
  unfold mWanted
  split
  · rename_i h
    split
    · exact meshOut_len _ _ _ (by simp)
    · rw [manyR_len]; exact (policy_many h.1).2.2.2.1
  · simp
def mHasRoad (l : List DRoad) (r : DRoad) : Bool := anyL (fun x : DRoad => decide (x = r)) l
def fMiss (have_ : List DRoad) (r : DRoad) (_ : Nat) : Option DRoad := if mHasRoad have_ r = true then none else some r
def mMissing (w h : List DRoad) : List DRoad := if w.length ≤ 64 ∧ h.length ≤ 64 then colL (fMiss h) w 0 else []
/-- Of the last address that fits, whether it is spare. -/
def spL (a : Int) : List DAddr → Bool → Bool
  | [], s => s
  | x :: l, s => spL a l (if x.addr = a then x.spare else s)
def mSpare (e : DEnd) (a : Int) : Bool := spL a e.far false
theorem spL_append (a : Int) : ∀ (l m : List DAddr) (s : Bool), spL a (l ++ m) s = spL a m (spL a l s)
  | [], _, _ => rfl
  | x :: l, m, s => by simp only [List.cons_append, spL]; exact spL_append a l m _
theorem spare_eq (e : DEnd) (a : Int) : mSpare e a = (decide (0 ≤ mFarAt e a) && (gA e.far (mFarAt e a).toNat).spare) := by
  have : ∀ n, n ≤ e.far.length → spL a (e.far.take n) false = (decide (0 ≤ dnL a e.far n) && (gA e.far (dnL a e.far n).toNat).spare) := by
    intro n
    induction n with
    | zero => intro _; simp [spL, dnL]
    | succ n ih =>
      intro hn
      have hg : e.far[n]? = some (gA e.far n) := by
        rw [List.getElem?_eq_getElem (by omega)]; simp [gA, List.getD, (by omega : n < e.far.length)]
      rw [List.take_add_one, hg, spL_append, ih (by omega)]
      simp only [Option.toList, spL, dnL]
      split
      · simp
      · rfl
  have h := this e.far.length (Nat.le_refl _)
  rw [List.take_length] at h
  exact h
def mgL (e : DEnd) : List DRoad → DEnd → List DLetter → DEnd × List DLetter
  | [], o, acc => (o, acc)
  | r :: l, o, acc => mgL e l (mJoin o r (mSpare e r.far)).1 (acc ++ (mJoin o r (mSpare e r.far)).2)
def mMissL (e : DEnd) : List DRoad := mMissing (mWanted e.policy e.own e.far) (mHaveOf e)
def mManage (e : DEnd) : DEnd × List DLetter := if mEndOk e = true ∧ e.side = 1 then mgL e (mMissL e) e [] else (e, [])
theorem mJoin_len1 (e : DEnd) (r : DRoad) (p : Bool) : (mJoin e r p).2.length ≤ 1 := by
  unfold mJoin
  split <;> simp
theorem mgL_B (e : DEnd) : ∀ (l : List DRoad) (o : DEnd) (acc : List DLetter), o.B → (mgL e l o acc).1.B
  | [], _, _, h => h
  | r :: l, o, acc, h => mgL_B e l _ _ (mJoin_B r _ h)
theorem mgL_len (e : DEnd) : ∀ (l : List DRoad) (o : DEnd) (acc : List DLetter), (mgL e l o acc).2.length ≤ acc.length + l.length
  | [], _, _ => by simp [mgL]
  | r :: l, o, acc => by
    rw [mgL]
    have := mgL_len e l (mJoin o r (mSpare e r.far)).1 (acc ++ (mJoin o r (mSpare e r.far)).2)
    have := mJoin_len1 o r (mSpare e r.far)
    rw [List.length_append] at *
    simp only [List.length_cons]
    omega
theorem mMissL_len (e : DEnd) : (mMissL e).length ≤ 8 := by
  unfold mMissL mMissing
  split
  · exact Nat.le_trans (colL_le _ _ _) (mWanted_len _ _ _)
  · simp
theorem mManage_B {e : DEnd} (h : e.B) : (mManage e).1.B := by
  unfold mManage
  split
  · exact mgL_B _ _ _ _ h
  · exact h
theorem mManage_len (e : DEnd) : (mManage e).2.length ≤ 1073741824 := by
  unfold mManage
  split
  · have := mgL_len e (mMissL e) e []
    have := mMissL_len e
    simp at *; omega
  · simp
end Go.Eng

namespace Go.Eng

/-- Two pieces that overlap or touch; bytes of the first one stay. -/
def mMerge (a b : DPiece) : DPiece :=
  if b.pos < a.pos then ⟨b.pos, b.text.take (a.pos - b.pos).toNat ++ a.text ++ b.text.drop ((a.pos - b.pos).toNat + a.text.length)⟩
  else ⟨a.pos, a.text ++ b.text.drop (a.pos + a.text.length - b.pos).toNat⟩
def PB (a : DPiece) : Prop := 0 ≤ a.pos ∧ a.pos ≤ 4000000000 ∧ a.text.length ≤ 2305843009213693952
theorem mMerge_bd {a b : DPiece} (ha : PB a) (hb : PB b) : 0 ≤ (mMerge a b).pos ∧ (mMerge a b).pos ≤ a.pos ∧ (mMerge a b).text.length ≤ a.text.length + b.text.length := by
  obtain ⟨a1, a2, a3⟩ := ha
  obtain ⟨b1, b2, b3⟩ := hb
  unfold mMerge
  split
  · refine ⟨b1, by simp only []; omega, ?_⟩
    simp only [List.length_append, List.length_take, List.length_drop]
    omega
  · refine ⟨a1, Int.le_refl _, ?_⟩
    simp only [List.length_append, List.length_drop]
    omega
/-- The pieces behind those that were looked at, with one more laid among them. -/
def ppF : List DPiece → List DPiece → DPiece → Bool → List DPiece × DPiece × Bool
  | [], out, x, laid => (out, x, laid)
  | y :: l, out, x, laid =>
    if w64 (y.pos + (y.text.length : Int)) < x.pos then ppF l (out ++ [y]) x laid
    else if w64 (x.pos + (x.text.length : Int)) < y.pos then
      (if laid = true then ppF l (out ++ [y]) x true else ppF l (out ++ [x] ++ [y]) x true)
    else ppF l out (mMerge y x) laid
def ppEnd (s : List DPiece × DPiece × Bool) : List DPiece := if s.2.2 = true then s.1 else s.1 ++ [s.2.1]
def ppX (p : DPieces) (pos : Int) (text : List UInt8) : DPiece :=
  if pos < mNextOf p then ⟨mNextOf p, text.drop (mNextOf p - pos).toNat⟩ else ⟨pos, text⟩
def ppOut (p : DPieces) (pos : Int) (text : List UInt8) : DPieces :=
  if ((ppEnd (ppF p.list [] (ppX p pos text) false)).getD 0 (ETy.zero .piece)).pos = mNextOf p then
    ⟨p.read, p.ready ++ ((ppEnd (ppF p.list [] (ppX p pos text) false)).getD 0 (ETy.zero .piece)).text, (ppEnd (ppF p.list [] (ppX p pos text) false)).drop 1⟩
  else ⟨p.read, p.ready, ppEnd (ppF p.list [] (ppX p pos text) false)⟩
def mPutPiece (p : DPieces) (pos : Int) (text : List UInt8) : DPieces :=
  if mPiecesOk p = true ∧ mNum pos = true ∧ mIn text.length 1 200 = true ∧ mNextOf p - pos < (text.length : Int) then
    if mPiecesOk (ppOut p pos text) = true then ppOut p pos text else p
  else p
def DPieces.S (p : DPieces) : Prop := p.ready.length ≤ 1073741824 ∧ p.list.length ≤ 1073741824 ∧ ∀ x ∈ p.list, x.text.length ≤ 1073741824
theorem next_id {p : DPieces} (h : mPiecesOk p = true) (hs : p.ready.length ≤ 1073741824) : mNextOf p = p.read + p.ready.length ∧ 0 ≤ mNextOf p ∧ mNextOf p ≤ 2073741824 := by
  have := piecesOk_bd h
  unfold mNextOf
  rw [w64_id (by omega) (by omega)]
  omega
theorem pieces_pos {p : DPieces} (h : mPiecesOk p = true) (hs : p.S) : ∀ x ∈ p.list, 0 ≤ x.pos ∧ x.pos ≤ 2000000000 := by
  have hn := next_id h hs.1
  have ho : ordL p.list (mNextOf p) = true := by
    simp only [mPiecesOk, Bool.and_eq_true] at h
    exact h.1.2
  have gen : ∀ (l : List DPiece) (e : Int), 0 ≤ e → ordL l e = true → (∀ x ∈ l, x.text.length ≤ 1073741824) → ∀ x ∈ l, 0 ≤ x.pos ∧ x.pos ≤ 2000000000 := by
    intro l
    induction l with
    | nil => intro e _ _ _ x hx; simp at hx
    | cons y l ih =>
      intro e he ho ht x hx
      rw [ordL] at ho
      split at ho
      · rename_i hp
        simp only [pOrd, Bool.and_eq_true, Bool.not_eq_true', decide_eq_false_iff_not] at hp
        have hy := ht y (by simp)
        rcases List.mem_cons.1 hx with rfl | hx
        · omega
        · refine ih _ ?_ ho (fun z hz => ht z (by simp [hz])) x hx
          rw [w64_id (by omega) (by omega)]
          omega
      · cases ho
  exact gen p.list _ hn.2.1 ho hs.2.2
theorem ppX_bd {p : DPieces} {pos : Int} {text : List UInt8} (h : mPiecesOk p = true) (hs : p.S) (hp : 0 ≤ pos ∧ pos ≤ 1000000000) (ht : text.length ≤ 200) : 0 ≤ (ppX p pos text).pos ∧ (ppX p pos text).pos ≤ 2073741824 ∧ (ppX p pos text).text.length ≤ 200 := by
  have hn := next_id h hs.1
  unfold ppX
  split
  · refine ⟨hn.2.1, hn.2.2, ?_⟩
    simp only [List.length_drop]; omega
  · exact ⟨hp.1, by simp only []; omega, ht⟩
def TB (i : Nat) (l : List DPiece) : Prop := ∀ y ∈ l, y.text.length ≤ 200 + i * 1073741824
theorem TB_app {n m : Nat} {l : List DPiece} {x : DPiece} (h : TB n l) (hx : x.text.length ≤ 200 + m * 1073741824) (hn : n ≤ m) : TB m (l ++ [x]) := by
  intro y hy
  rcases List.mem_append.1 hy with h' | h'
  · exact Nat.le_trans (h y h') (Nat.add_le_add_left (Nat.mul_le_mul_right _ hn) _)
  · rw [List.mem_singleton.1 h']; exact hx
theorem TB_mono {n m : Nat} {l : List DPiece} (h : TB n l) (hn : n ≤ m) : TB m l := fun y hy => Nat.le_trans (h y hy) (Nat.add_le_add_left (Nat.mul_le_mul_right _ hn) _)
theorem TB_nil (n : Nat) : TB n [] := fun y hy => by simp at hy
theorem TB_get0 {B : Nat} {l : List DPiece} (h : ∀ y ∈ l, y.text.length ≤ B) : (l.getD 0 (ETy.zero .piece)).text.length ≤ B := by
  cases l with
  | nil => exact Nat.zero_le _
  | cons a l => exact h a (by simp)
theorem TB_getD {n : Nat} {l : List DPiece} (h : TB n l) : (l.getD 0 (ETy.zero .piece)).text.length ≤ 200 + n * 1073741824 := TB_get0 h
theorem bytes_nil : (ByteArray.mk #[]).data.toList = [] := rfl
theorem mNums1 (x : Int) : mNums [x] = mNum x := by unfold mNums allL; simp [allL]
theorem drop_nil_beq (n : Nat) (l : List UInt8) : (l.drop n == []) = decide (l.length ≤ n) := by
  by_cases h : l.length ≤ n
  · rw [List.drop_eq_nil_iff.2 h]; simp [h]
  · have : l.drop n ≠ [] := fun hh => h (List.drop_eq_nil_iff.1 hh)
    simp [h]
theorem ppF_len : ∀ (l out : List DPiece) (x : DPiece) (b : Bool), (ppF l out x b).1.length ≤ out.length + 2 * l.length
  | [], out, x, b => by simp [ppF]
  | y :: l, out, x, b => by
    rw [ppF]
    split
    · have := ppF_len l (out ++ [y]) x b; simp only [List.length_append, List.length_cons, List.length_nil] at *; omega
    · split
      · split
        · have := ppF_len l (out ++ [y]) x true; simp only [List.length_append, List.length_cons, List.length_nil] at *; omega
        · have := ppF_len l (out ++ [x] ++ [y]) x true; simp only [List.length_append, List.length_cons, List.length_nil] at *; omega
      · have := ppF_len l out (mMerge y x) b; simp only [List.length_cons] at *; omega
theorem ppF_pos : ∀ (l out : List DPiece) (x : DPiece) (b : Bool), (b = true → 0 < out.length) → 0 < (ppEnd (ppF l out x b)).length
  | [], out, x, b, h => by
    cases b with
    | true => exact h rfl
    | false => simp [ppF, ppEnd]
  | y :: l, out, x, b, h => by
    rw [ppF]
    split
    · exact ppF_pos l _ x b fun _ => by simp
    · split
      · split
        · exact ppF_pos l _ x true fun _ => by simp
        · exact ppF_pos l _ x true fun _ => by simp
      · exact ppF_pos l _ _ b h
end Go.Eng

namespace Go.Eng

theorem mPutPiece_len {p : DPieces} {pos : Int} {text : List UInt8} (h : p.list.length ≤ 1073741824) : (mPutPiece p pos text).list.length ≤ 1073741824 := by
  unfold mPutPiece
  split
  · split
    · rename_i hk
      have := (piecesOk_bd hk).2
      omega
    · exact h
  · exact h
def mHearData (e : DEnd) (x : DLetter) : DEnd × List DLetter :=
  if mEndOk e = true ∧ mLetterOk x = true ∧ 0 ≤ mSignedOn e x then
    if 1000000000 < mNextOf (mPutPiece e.inn x.pos x.text) then (e, [])
    else ({ e with inn := mPutPiece e.inn x.pos x.text }, [mBetween (mRoadOf x) (ltr 12 0 0 0 0 (gSub e (mSignedOn e x)).give tg0 0 0 false (mNextOf (mPutPiece e.inn x.pos x.text)) [])])
  else (e, [])
def mHear (e : DEnd) (x : DLetter) : DEnd × List DLetter :=
  if mEndOk e = true ∧ mLetterOk x = true ∧ mOwns e x.dst = true then
    if x.kind = 1 then mHearHello e x else if x.kind = 2 then mHearBack e x else if x.kind = 4 then mHearJoin e x else if x.kind = 5 then mHearJoinBack e x
    else if x.kind = 6 then mHearJoinDone e x else if x.kind = 7 then mHearJoinAck e x else if x.kind = 8 then mHearAddr e x else if x.kind = 9 then mHearEcho e x
    else if x.kind = 10 then mHearGone e x else if x.kind = 11 then mHearData e x else if x.kind = 12 then mHearCame e x else if x.kind = 13 then mHearReset e x else (e, [])
  else (e, [])
theorem mHearData_B {e : DEnd} (x : DLetter) (h : e.B) : (mHearData e x).1.B := by
  obtain ⟨h1, h2, h3, h4, h5, h6, h7⟩ := id h
  unfold mHearData
  repeat' split
  · exact h
  · exact ⟨h1, h2, h3, h4, mPutPiece_len h5, h6, h7⟩
  · exact h
theorem mHearData_len (e : DEnd) (x : DLetter) : (mHearData e x).2.length ≤ 1073741824 := by
  unfold mHearData
  repeat' split
  all_goals simp
theorem iteP {α : Type} {P : α → Prop} {c : Prop} [Decidable c] {a b : α} (ha : P a) (hb : P b) : P (if c then a else b) := by
  split
  · exact ha
  · exact hb
theorem mHear_B {e : DEnd} (x : DLetter) (h : e.B) : (mHear e x).1.B :=
  iteP (P := fun z : DEnd × List DLetter => z.1.B) (iteP (P := fun z : DEnd × List DLetter => z.1.B) (mHearHello_B x h) (iteP (P := fun z : DEnd × List DLetter => z.1.B) (mHearBack_B x h) (iteP (P := fun z : DEnd × List DLetter => z.1.B) (mHearJoin_B x h) (iteP (P := fun z : DEnd × List DLetter => z.1.B) (mHearJoinBack_B x h) (iteP (P := fun z : DEnd × List DLetter => z.1.B) (mHearJoinDone_B x h) (iteP (P := fun z : DEnd × List DLetter => z.1.B) (mHearJoinAck_B x h) (iteP (P := fun z : DEnd × List DLetter => z.1.B) (mHearAddr_B x h) (iteP (P := fun z : DEnd × List DLetter => z.1.B) (mHearEcho_B x h) (iteP (P := fun z : DEnd × List DLetter => z.1.B) (mHearGone_B x h) (iteP (P := fun z : DEnd × List DLetter => z.1.B) (mHearData_B x h) (iteP (P := fun z : DEnd × List DLetter => z.1.B) (mHearCame_B x h) (iteP (P := fun z : DEnd × List DLetter => z.1.B) (mHearReset_B x h) (h))))))))))))) (h)
theorem mHear_len (e : DEnd) (x : DLetter) : (mHear e x).2.length ≤ 1073741824 :=
  iteP (P := fun z : DEnd × List DLetter => z.2.length ≤ 1073741824) (iteP (P := fun z : DEnd × List DLetter => z.2.length ≤ 1073741824) (mHearHello_len e x) (iteP (P := fun z : DEnd × List DLetter => z.2.length ≤ 1073741824) (mHearBack_len e x) (iteP (P := fun z : DEnd × List DLetter => z.2.length ≤ 1073741824) (mHearJoin_len e x) (iteP (P := fun z : DEnd × List DLetter => z.2.length ≤ 1073741824) (mHearJoinBack_len e x) (iteP (P := fun z : DEnd × List DLetter => z.2.length ≤ 1073741824) (mHearJoinDone_len e x) (iteP (P := fun z : DEnd × List DLetter => z.2.length ≤ 1073741824) (mHearJoinAck_len e x) (iteP (P := fun z : DEnd × List DLetter => z.2.length ≤ 1073741824) (mHearAddr_len e x) (iteP (P := fun z : DEnd × List DLetter => z.2.length ≤ 1073741824) (mHearEcho_len e x) (iteP (P := fun z : DEnd × List DLetter => z.2.length ≤ 1073741824) (mHearGone_len e x) (iteP (P := fun z : DEnd × List DLetter => z.2.length ≤ 1073741824) (mHearData_len e x) (iteP (P := fun z : DEnd × List DLetter => z.2.length ≤ 1073741824) (mHearCame_len e x) (iteP (P := fun z : DEnd × List DLetter => z.2.length ≤ 1073741824) (mHearReset_len e x) (Nat.zero_le _))))))))))))) (Nat.zero_le _)
theorem szL_each {α : Type} {f : α → Int → Int} (g : α → Nat) (hf : ∀ x q, 0 ≤ f x q → (g x : Int) ≤ q ∧ f x q ≤ q) : ∀ (l : List α) (q : Int), 0 ≤ szL f l q → ∀ x ∈ l, (g x : Int) ≤ q
  | [], _, _, x, hx => by simp at hx
  | y :: l, q, h, x, hx => by
    rw [szL] at h
    obtain ⟨h1, h2⟩ := sq_ge h
    have hy := hf y q h1
    rcases List.mem_cons.1 hx with rfl | hx
    · exact hy.1
    · have := szL_each g hf l _ h2 x hx
      omega
theorem endS_of {e : DEnd} (h : ¬ szEnd e 1048576 < 0) : e.inn.S := by
  have hb := szEnd_B (Int.le_refl _) h
  have h : 0 ≤ szEnd e 1048576 := by omega
  unfold szEnd at h
  obtain ⟨a1, h⟩ := sq_ge h
  obtain ⟨a2, h⟩ := sq_ge h
  obtain ⟨a3, h⟩ := sq_ge h
  obtain ⟨a4, h⟩ := sq_ge h
  obtain ⟨a5, h⟩ := sq_ge h
  obtain ⟨a6, h⟩ := sq_ge h
  have b1 := szN_ge a1
  have b2 := szN_ge a2
  have b3 := szN_ge a3
  have b4 := szN_ge a4
  have b5 := szN_ge a5
  have b5' : szOut e.out _ ≤ _ := b5.2
  unfold szPieces at a6
  obtain ⟨c1, a6⟩ := sq_ge a6
  obtain ⟨c2, a6⟩ := sq_ge a6
  have d1 := szN_ge c1
  unfold szS at c2
  obtain ⟨c2, c3⟩ := sq_ge c2
  have d2 := szN_ge c2
  refine ⟨by omega, by omega, fun x hx => ?_⟩
  have := szL_each (f := szPiece) (fun x => x.text.length) (fun x q h => szN_ge h) e.inn.list _ c3 x hx
  have : (x.text.length : Int) ≤ 1048576 := by omega
  omega
end Go.Eng

namespace Go.Eng

def mLearn (k : DKnown) (t : DTag) : DKnown := if mCanMake k t = false ∧ k.tags.length < 300 then { k with tags := k.tags ++ [t] } else k
def mHears (l : List Int) (n : Int) : List Int := if 0 < n ∧ (l.length : Int) < 300 ∧ mHas l n = false then l ++ [n] else l
def mHearsW (w : DWorld) (n : Int) : DWorld := if 0 < n ∧ (w.nums.length : Int) < 300 ∧ mHas w.nums n = false then { w with nums := w.nums ++ [n] } else w
theorem mHearsW_eq (w : DWorld) (n : Int) : mHearsW w n = { w with nums := mHears w.nums n } := by
  unfold mHearsW mHears
  split <;> rfl
theorem mHearsW_pos {w : DWorld} {n : Int} (h : 0 < n ∧ mHas w.nums n = false ∧ (w.nums.length : Int) < 300) : mHearsW w n = { w with nums := w.nums ++ [n] } := by
  unfold mHearsW
  rw [if_pos ⟨h.1, h.2.2, h.2.1⟩]
theorem mHearsW_neg {w : DWorld} {n : Int} (h : ¬ (0 < n ∧ mHas w.nums n = false ∧ (w.nums.length : Int) < 300)) : mHearsW w n = w := by
  unfold mHearsW
  rw [if_neg (fun hc => h ⟨hc.1, hc.2.2, hc.2.1⟩)]
def mNum3 (x : DLetter) : List Int := [x.nonce, x.give, x.sign]
def hearL : List Int → DWorld → DWorld
  | [], w => w
  | n :: l, w => hearL l (mHearsW w n)
def mPost0 (s : Int) (w : DWorld) (x : DLetter) : DWorld :=
  { w with
    past := if (w.past.length : Int) < 150 then w.past ++ [x] else w.past
    answersA := if x.kind = 5 ∧ s = 1 ∧ (w.answersA.length : Int) < 300 then w.answersA ++ [w.a.now] else w.answersA
    answersB := if x.kind = 5 ∧ s = 2 ∧ (w.answersB.length : Int) < 300 then w.answersB ++ [w.b.now] else w.answersB }
def mPost1 (s : Int) (w : DWorld) (x : DLetter) : DWorld :=
  if mSideAt x.dst = 0 then mHearsW (mHearsW (mHearsW { mPost0 s w x with known := mLearn w.known x.tag } x.nonce) x.give) x.sign
  else { mPost0 s w x with bag := if (w.bag.length : Int) < 40 then w.bag ++ [x] else w.bag }
def mPostL (s : Int) : List DLetter → DWorld → DWorld
  | [], w => w
  | x :: l, w => mPostL s l (mPost1 s w x)
def mPosted (w : DWorld) (s : Int) (l : List DLetter) : DWorld := if s = 1 ∨ s = 2 then mPostL s l w else w
theorem mHears_len {l : List Int} {n : Int} (h : l.length ≤ 1073741824) : (mHears l n).length ≤ 1073741824 := by
  unfold mHears
  split
  · rw [List.length_append]; simp only [List.length_cons, List.length_nil]; omega
  · exact h
theorem mLearn_B {k : DKnown} (t : DTag) (h : k.B) : (mLearn k t).B := by
  obtain ⟨h1, h2⟩ := h
  unfold mLearn
  split
  · refine ⟨h1, ?_⟩
    simp only [List.length_append, List.length_cons, List.length_nil]; omega
  · exact ⟨h1, h2⟩
theorem mHearsW_B {w : DWorld} (n : Int) (h : w.B) : (mHearsW w n).B := by
  obtain ⟨h1, h2, h3, h4, h5, h6, h7, h8, h9⟩ := h
  rw [mHearsW_eq]
  exact ⟨h1, h2, h3, h4, h5, h6, mHears_len h7, h8, h9⟩
theorem app_len {α : Type} {l : List α} {x : α} {c : Prop} [Decidable c] (h : l.length ≤ 1073741824) (hc : c → (l.length : Int) < 1073741824) : (if c then l ++ [x] else l).length ≤ 1073741824 := by
  split
  · rename_i hh
    have := hc hh
    simp only [List.length_append, List.length_cons, List.length_nil]; omega
  · exact h
theorem mPost0_B {w : DWorld} (s : Int) (x : DLetter) (h : w.B) : (mPost0 s w x).B := by
  obtain ⟨h1, h2, h3, h4, h5, h6, h7, h8, h9⟩ := h
  simp only [DWorld.B, mPost0]
  refine ⟨h1, h2, h3, app_len h4 (fun h => by omega), h5, h6, h7, app_len h8 (fun h => by have := h.2.2; omega), app_len h9 (fun h => by have := h.2.2; omega)⟩
theorem mPost1_B {w : DWorld} (s : Int) (x : DLetter) (h : w.B) : (mPost1 s w x).B := by
  have h0 := mPost0_B s x h
  obtain ⟨g1, g2, g3, g4, g5, g6, g7, g8, g9⟩ := id h0
  have hk := mLearn_B x.tag (k := w.known) ⟨h.2.2.2.2.1, h.2.2.2.2.2.1⟩
  have h3 := h.2.2.1
  unfold mPost1
  split
  · refine mHearsW_B _ (mHearsW_B _ (mHearsW_B _ ?_))
    simp only [DWorld.B]
    exact ⟨g1, g2, g3, g4, hk.1, hk.2, g7, g8, g9⟩
  · simp only [DWorld.B]
    exact ⟨g1, g2, app_len h3 (fun h => by omega), g4, g5, g6, g7, g8, g9⟩
theorem mPostL_B (s : Int) : ∀ (l : List DLetter) {w : DWorld}, w.B → (mPostL s l w).B
  | [], _, h => h
  | x :: l, _, h => mPostL_B s l (mPost1_B s x h)
theorem mPosted_B {w : DWorld} (s : Int) (l : List DLetter) (h : w.B) : (mPosted w s l).B := by
  unfold mPosted
  split
  · exact mPostL_B s l h
  · exact h
theorem lettersRow_W {l : List DLetter} (h : wfC (aRow .letter).cts ((aRow .letter).to l)) : l.length ≤ 9223372036854775807 ∧ ∀ x ∈ l, x.text.length ≤ 9223372036854775807 := by
  simp only [wfC, wfL, LT.leaf, maxLen] at h
  obtain ⟨⟨h1, h2⟩, _⟩ := h
  exact ⟨by omega, letters_W h2⟩
theorem lettersB_of {l : List DLetter} {q : Int} (hq : q ≤ 1048576) (h : ¬ szS szLetter l q < 0) : l.length ≤ 1073741824 := by
  have h : 0 ≤ szS szLetter l q := by omega
  unfold szS at h
  obtain ⟨h1, _⟩ := sq_ge h
  have := szN_ge h1
  omega
theorem KB_letters2 {w : DWorld} (hw : w.B) {l : List DLetter} (hl : l.length ≤ 1073741824) : KB (1 + (nWorld w : Int)) (19 * l.length) := by
  obtain ⟨h1, h2, h3, h4, h5, h6, h7, h8, h9⟩ := hw
  have := endN_le h1
  have := endN_le h2
  unfold nWorld nKnown KB
  omega
end Go.Eng

namespace Go.Eng

structure DCur where
  b : List Int
  i : Int
  h : Int
abbrev aCur : ATy := ⟨DCur, true, [.row .u8, ci, ci], fun c => (c.b, c.i, c.h, ()), fun (a, b, c, _) => ⟨a, b, c⟩, fun _ => rfl⟩
structure DIH where
  i : Int
  h : Int
abbrev aIH : ATy := ⟨DIH, true, [ci, ci], fun c => (c.i, c.h, ()), fun (a, b, _) => ⟨a, b⟩, fun _ => rfl⟩
theorem dPieces_iff (x y : DPieces) : x = y ↔ x.read = y.read ∧ x.ready = y.ready ∧ x.list = y.list := by
  rcases x with ⟨⟩; rcases y with ⟨⟩; simp
theorem dCur_eta (x : DCur) : (⟨x.b, x.i, x.h⟩ : DCur) = x := rfl
theorem dCur_fold {b : List Int} {x : DCur} (h : x.b = b) : (⟨b, x.i, x.h⟩ : DCur) = x := by subst h; rfl
theorem andI_255 (a : Int) : 0 ≤ andI a 255 ∧ andI a 255 ≤ 255 := by
  unfold andI
  have h : (BitVec.ofInt 64 a &&& BitVec.ofInt 64 255).toNat ≤ 255 := by
    rw [BitVec.toNat_and]
    have : (BitVec.ofInt 64 255).toNat = 255 := by decide
    rw [this]
    exact Nat.and_le_right
  rw [w64_id (by omega) (by omega)]
  omega
def curH (h x : Int) : Int := andI (w64 (w64 (w64 (h * 131) + w64 x) + 7)) 1073741823
def newL : List Int → Nat → Int → Int
  | [], _, h => h
  | _ :: _, 0, h => h
  | x :: l, k + 1, h => newL l k (curH h x)
def mNew (b : List Int) : DIH := ⟨0, newL b 4000 (w64 (94701 + b.length))⟩
def mCur (b : List Int) : DCur := ⟨b, 0, (mNew b).h⟩
def DCur.B (c : DCur) : Prop := 0 ≤ c.i ∧ c.i ≤ 1073741824 ∧ c.b.length ≤ 1073741824
theorem mCur_B {b : List Int} (h : b.length ≤ 1073741824) : (mCur b).B := ⟨Int.le_refl _, by show (0 : Int) ≤ _; decide, h⟩
def mByteH (c : DCur) : Int := w64 (w64 (c.h * 6364136223846793005) + 1442695040888963407)
def mByteX (h : Int) : Int := andI (xorI (shrI h 33) (shrI h 45)) 255
def mByte (c : DCur) : Int := if c.i < c.b.length then andI (w64 (mByteX (mByteH c) + w64 (c.b.getD c.i.toNat 0))) 255 else mByteX (mByteH c)
def mByteC (c : DCur) : DCur := ⟨c.b, if c.i < c.b.length then w64 (c.i + 1) else c.i, mByteH c⟩
theorem mByte_bd (c : DCur) : 0 ≤ mByte c ∧ mByte c ≤ 255 := by
  unfold mByte
  split
  · exact andI_255 _
  · exact andI_255 _
theorem mByteC_B {c : DCur} (h : c.B) : (mByteC c).B := by
  obtain ⟨h1, h2, h3⟩ := h
  unfold mByteC DCur.B
  refine ⟨?_, ?_, h3⟩ <;> simp only []
  · split
    · rw [w64_id (by omega) (by omega)]; omega
    · exact h1
  · split
    · rw [w64_id (by omega) (by omega)]; omega
    · exact h2
theorem mByteC_b (c : DCur) : (mByteC c).b = c.b := by
  rw [mByteC]
attribute [irreducible] mByteC
def mBelow4 (a b c d : Int) : Int := w64 (w64 (w64 (w64 (a * 16777216) + w64 (b * 65536)) + w64 (c * 256)) + d)
theorem mBelow4_bd {a b c d : Int} (ha : 0 ≤ a ∧ a ≤ 255) (hb : 0 ≤ b ∧ b ≤ 255) (hc : 0 ≤ c ∧ c ≤ 255) (hd : 0 ≤ d ∧ d ≤ 255) : 0 ≤ mBelow4 a b c d := by
  unfold mBelow4
  simp (disch := omega) only [w64_id]
  omega
def mBelow (c : DCur) (n : Int) : Int :=
  if n ≤ 0 then 0 else if n ≤ 256 then (mByte c).tmod n
  else (mBelow4 (mByte c) (mByte (mByteC c)) (mByte (mByteC (mByteC c))) (mByte (mByteC (mByteC (mByteC c))))).tmod n
def mBelowC (c : DCur) (n : Int) : DCur :=
  if n ≤ 0 then c else if n ≤ 256 then mByteC c else mByteC (mByteC (mByteC (mByteC c)))
theorem mBelow_bd {c : DCur} {n : Int} (h : 0 < n) : 0 ≤ mBelow c n ∧ mBelow c n < n := by
  unfold mBelow
  rw [if_neg (by omega)]
  split
  · exact ⟨Int.tmod_nonneg _ (mByte_bd c).1, Int.tmod_lt_of_pos _ h⟩
  · exact ⟨Int.tmod_nonneg _ (mBelow4_bd (mByte_bd _) (mByte_bd _) (mByte_bd _) (mByte_bd _)), Int.tmod_lt_of_pos _ h⟩
theorem mBelowC_B {c : DCur} (n : Int) (h : c.B) : (mBelowC c n).B := by
  unfold mBelowC
  split
  · exact h
  · split
    · exact mByteC_B h
    · exact mByteC_B (mByteC_B (mByteC_B (mByteC_B h)))
theorem mBelowC_b (c : DCur) (n : Int) : (mBelowC c n).b = c.b := by
  unfold mBelowC
  split
  · rfl
  · split <;> simp only [mByteC_b]
def mPickInt (c : DCur) (l : List Int) : Int := l.getD (mBelow c l.length).toNat 0
def mPickIntC (c : DCur) (l : List Int) : DCur := mBelowC c l.length
theorem mPickIntC_b (c : DCur) (l : List Int) : (mPickIntC c l).b = c.b := mBelowC_b c _
def mOnce (c : DCur) (n : Int) : Bool := mBelow c n == 0
def mDPol (c : DCur) : DPolicy := if mBelow c 3 = 0 then ⟨1, 0⟩ else if mBelow c 3 = 1 then ⟨2, w64 (1 + mBelow (mBelowC c 3) 4)⟩ else ⟨3, 0⟩
def mDPolC (c : DCur) : DCur := if mBelow c 3 = 0 then mBelowC c 3 else if mBelow c 3 = 1 then mBelowC (mBelowC c 3) 4 else mBelowC c 3
theorem mDPolC_B {c : DCur} (h : c.B) : (mDPolC c).B := by
  have := mBelowC_B 3 h
  have := mBelowC_B 4 this
  unfold mDPolC
  repeat' split
  all_goals assumption
theorem mDPolC_b (c : DCur) : (mDPolC c).b = c.b := by
  unfold mDPolC
  repeat' split
  all_goals simp only [mBelowC_b]
def lAny : List Int := [0, 8, 9, -1]
def mDAny1 (c : DCur) : DPolicy := if mBelow (mDPolC c) 6 = 0 then { mDPol c with many := mPickInt (mBelowC (mDPolC c) 6) lAny } else mDPol c
def mDAny1C (c : DCur) : DCur := if mBelow (mDPolC c) 6 = 0 then mPickIntC (mBelowC (mDPolC c) 6) lAny else mBelowC (mDPolC c) 6
theorem mDAny1C_B {c : DCur} (h : c.B) : (mDAny1C c).B := by
  unfold mDAny1C
  split
  · exact mBelowC_B _ (mBelowC_B _ (mDPolC_B h))
  · exact mBelowC_B _ (mDPolC_B h)
def mDAny (c : DCur) : DPolicy := if mBelow (mDAny1C c) 12 = 0 then { mDAny1 c with kind := mBelow (mBelowC (mDAny1C c) 12) 5 } else mDAny1 c
def mDAnyC (c : DCur) : DCur := if mBelow (mDAny1C c) 12 = 0 then mBelowC (mBelowC (mDAny1C c) 12) 5 else mBelowC (mDAny1C c) 12
theorem mDAnyC_B {c : DCur} (h : c.B) : (mDAnyC c).B := by
  unfold mDAnyC
  split
  · exact mBelowC_B _ (mBelowC_B _ (mDAny1C_B h))
  · exact mBelowC_B _ (mDAny1C_B h)
theorem mDAny1C_b (c : DCur) : (mDAny1C c).b = c.b := by
  unfold mDAny1C mPickIntC
  repeat' split
  all_goals simp only [mBelowC_b, mDPolC_b]
theorem mDAnyC_b (c : DCur) : (mDAnyC c).b = c.b := by
  unfold mDAnyC
  repeat' split
  all_goals simp only [mBelowC_b, mDAny1C_b]
def lSides : List Int := [1, 2, 1, 2, 0, 3]
def lAddrs : List Int := [11, 21, 1, 65535, 0, 65536]
theorem mCur_b (b : List Int) : (mCur b).b = b := rfl
theorem mCur_fold (b : List Int) : (⟨b, (mNew b).i, (mNew b).h⟩ : DCur) = mCur b := rfl
def mDNewC (b : List Int) : DCur := mPickIntC (mPickIntC (mCur b) lSides) lAddrs
def mDNewS (b : List Int) : Int := mPickInt (mCur b) lSides
def mDNewA (b : List Int) : Int := mPickInt (mPickIntC (mCur b) lSides) lAddrs
def mDNewP (b : List Int) : DPolicy := mDAny (mDNewC b)
theorem mDNewC_B {b : List Int} (h : b.length ≤ 1073741824) : (mDNewC b).B := mBelowC_B _ (mBelowC_B _ (mCur_B h))
end Go.Eng

namespace Go.Eng
theorem bytesRow_W {l : List Int} (h : wfC (aRow .u8).cts ((aRow .u8).to l)) : l.length ≤ 9223372036854775807 := by
  simp only [wfC, wfL, LT.leaf, maxLen] at h
  obtain ⟨⟨h1, h2⟩, _⟩ := h
  omega
theorem endNew_ok {s a : Int} {p : DPolicy} (h : (mEndNew s a p).2 = true) :
    mEndOk (mEndNew s a p).1 = true ∧ mOwns (mEndNew s a p).1 a = true ∧ (mDrawn (mEndNew s a p).1).2 = w64 (1000 + s) ∧
    (mDrawn (mDrawn (mEndNew s a p).1).1).2 = w64 (w64 (1000 + s) + 2) ∧ (mDrawn (mDrawn (mEndNew s a p).1).1).1.draw = w64 (w64 (w64 (1000 + s) + 2) + 2) ∧
    mOnOf (mEndNew s a p).1 = [] ∧ mHaveOf (mEndNew s a p).1 = [] ∧ mTokenFor s = w64 (100 + s) := by
  unfold mEndNew at h ⊢
  split at h
  · rename_i hc
    obtain ⟨h1, h2, h3⟩ := hc
    rw [if_pos ⟨h1, h2, h3⟩]
    have hs := mIn_iff.1 h1
    have e1 : w64 (1000 + s) = 1000 + s := w64_id (by omega) (by omega)
    have e2 : w64 (1000 + s + 2) = 1000 + s + 2 := w64_id (by omega) (by omega)
    have e3 : w64 (1000 + s + 2 + 2) = 1000 + s + 4 := by rw [w64_id (by omega) (by omega)]; omega
    have d1 : mIn (1000 + s) 1 999999998 = true := mIn_iff.2 (by omega)
    have d2 : mIn (1000 + s + 2) 1 999999998 = true := mIn_iff.2 (by omega)
    have n1 : mNum (1000 + s) = true := mNum_iff.2 (by omega)
    simp only [e1]
    refine ⟨?_, ?_, ?_, ?_, ?_, rfl, rfl, ?_⟩
    · simp only [mEndOk, mEndOk0, mEndOk1, h1, h2, h3, n1, Bool.true_and, Bool.and_true]
      rfl
    · simp [mOwns, anyL]
    · simp only [mDrawn, d1, if_true]
    · simp only [mDrawn, d1, e2, d2, if_true]
    · simp only [mDrawn, d1, e2, d2, if_true, e3]
    · simp only [mTokenFor, h1, if_true]
  · exact absurd h (by simp)
end Go.Eng

namespace Go.Eng
def dAddr (c : DCur) : DAddr := ⟨mBelow c 7, w64 (11 + mBelow (mBelowC c 7) 9), mOnce (mBelowC (mBelowC c 7) 9) 4, mOnce (mBelowC (mBelowC (mBelowC c 7) 9) 4) 2⟩
def dAddrC (c : DCur) : DCur := mBelowC (mBelowC (mBelowC (mBelowC c 7) 9) 4) 2
theorem dAddrC_B {c : DCur} (h : c.B) : (dAddrC c).B := mBelowC_B _ (mBelowC_B _ (mBelowC_B _ (mBelowC_B _ h)))
theorem dAddrC_b (c : DCur) : (dAddrC c).b = c.b := by simp only [dAddrC, mBelowC_b]
def dRoad (c : DCur) : DRoad := ⟨w64 (11 + mBelow c 3), w64 (21 + mBelow (mBelowC c 3) 3), mBelow (mBelowC (mBelowC c 3) 3) 3⟩
def dRoadC (c : DCur) : DCur := mBelowC (mBelowC (mBelowC c 3) 3) 3
theorem dRoadC_B {c : DCur} (h : c.B) : (dRoadC c).B := mBelowC_B _ (mBelowC_B _ (mBelowC_B _ h))
theorem dRoadC_b (c : DCur) : (dRoadC c).b = c.b := by simp only [dRoadC, mBelowC_b]
def dHalf5 (c : DCur) (r : DRoad) : DHalf := ⟨r, mBelow c 9, w64 (1000 + mBelow (mBelowC c 9) 9), w64 (1000 + mBelow (mBelowC (mBelowC c 9) 9) 9), mBelow (mBelowC (mBelowC (mBelowC c 9) 9) 9) 9, mBelow (mBelowC (mBelowC (mBelowC (mBelowC c 9) 9) 9) 9) 9⟩
def dHalf5C (c : DCur) : DCur := mBelowC (mBelowC (mBelowC (mBelowC (mBelowC c 9) 9) 9) 9) 9
theorem dHalf5C_B {c : DCur} (h : c.B) : (dHalf5C c).B := mBelowC_B _ (mBelowC_B _ (mBelowC_B _ (mBelowC_B _ (mBelowC_B _ h))))
theorem dHalf5C_b (c : DCur) : (dHalf5C c).b = c.b := by simp only [dHalf5C, mBelowC_b]
def dHalf (c : DCur) : DHalf := dHalf5 (dRoadC c) (dRoad c)
def dHalfC (c : DCur) : DCur := dHalf5C (dRoadC c)
theorem dHalfC_B {c : DCur} (h : c.B) : (dHalfC c).B := dHalf5C_B (dRoadC_B h)
theorem dHalfC_b (c : DCur) : (dHalfC c).b = c.b := by simp only [dHalfC, dHalf5C_b, dRoadC_b]
def dTag (c : DCur) : DTag := ⟨mBelow c 4, w64 (1 + mBelow (mBelowC c 4) 3), w64 (1 + mBelow (mBelowC (mBelowC c 4) 3) 3), mBelow (mBelowC (mBelowC (mBelowC c 4) 3) 3) 4, mBelow (mBelowC (mBelowC (mBelowC (mBelowC c 4) 3) 3) 4) 4⟩
def dTagC (c : DCur) : DCur := mBelowC (mBelowC (mBelowC (mBelowC (mBelowC c 4) 3) 3) 4) 4
theorem dTagC_B {c : DCur} (h : c.B) : (dTagC c).B := mBelowC_B _ (mBelowC_B _ (mBelowC_B _ (mBelowC_B _ (mBelowC_B _ h))))
theorem dTagC_b (c : DCur) : (dTagC c).b = c.b := by simp only [dTagC, mBelowC_b]
def mBack (r : DRoad) : DRoad := ⟨r.far, r.own, r.port⟩
/-- A list drawn: as long as the place is below the number that is drawn anew. -/
def dList {α : Type} (n : Int) (f : DCur → List α → List α) (fc : DCur → DCur) : Nat → Nat → DCur → List α → List α × DCur
  | 0, _, c, out => (out, c)
  | k + 1, i, c, out => if (i : Int) < mBelow c n then dList n f fc k (i + 1) (fc (mBelowC c n)) (f (mBelowC c n) out) else (out, mBelowC c n)
def dAddrs (c : DCur) : List DAddr × DCur := dList 8 (fun c l => (mPutAddr l (dAddr c)).1) dAddrC 9 0 c []
def dHalfs (c : DCur) : List DHalf × DCur := dList 6 (fun c l => (mPutHalf l (dHalf c)).1) dHalfC 7 0 c []
theorem dList_B {α : Type} {n : Int} {f : DCur → List α → List α} {fc : DCur → DCur} (hf : ∀ c : DCur, c.B → (fc c).B) : ∀ (k i : Nat) (c : DCur) (l : List α), c.B → (dList n f fc k i c l).2.B
  | 0, _, _, _, h => h
  | k + 1, i, c, l, h => by
    rw [dList]
    split
    · exact dList_B hf k _ _ _ (hf _ (mBelowC_B _ h))
    · exact mBelowC_B _ h
theorem dList_b {α : Type} {n : Int} {f : DCur → List α → List α} {fc : DCur → DCur} (hf : ∀ c : DCur, (fc c).b = c.b) : ∀ (k i : Nat) (c : DCur) (l : List α), (dList n f fc k i c l).2.b = c.b
  | 0, _, _, _ => rfl
  | k + 1, i, c, l => by
    rw [dList]
    split
    · rw [dList_b hf k, hf, mBelowC_b]
    · exact mBelowC_b _ _
theorem dAddrs_B {c : DCur} (h : c.B) : (dAddrs c).2.B := dList_B (fun _ h => dAddrC_B h) _ _ _ _ h
theorem dAddrs_b (c : DCur) : (dAddrs c).2.b = c.b := dList_b (fun _ => dAddrC_b _) _ _ _ _
theorem dHalfs_B {c : DCur} (h : c.B) : (dHalfs c).2.B := dList_B (fun _ h => dHalfC_B h) _ _ _ _ h
theorem dHalfs_b (c : DCur) : (dHalfs c).2.b = c.b := dList_b (fun _ => dHalfC_b _) _ _ _ _
theorem dList_len {α : Type} {n : Int} {f : DCur → List α → List α} {fc : DCur → DCur} (hf : ∀ (c : DCur) (l : List α), (f c l).length ≤ l.length + 1) : ∀ (k i : Nat) (c : DCur) (l : List α), (dList n f fc k i c l).1.length ≤ l.length + k
  | 0, _, _, _ => Nat.le_refl _
  | k + 1, i, c, l => by
    rw [dList]
    split
    · have h1 := dList_len (n := n) (fc := fc) hf k (i + 1) (fc (mBelowC c n)) (f (mBelowC c n) l)
      have h2 := hf (mBelowC c n) l
      omega
    · exact Nat.le_add_right _ _
theorem dAddrs_len (c : DCur) : (dAddrs c).1.length ≤ 9 := by
  have := dList_len (n := 8) (f := fun c l => (mPutAddr l (dAddr c)).1) (fc := dAddrC) (fun c l => mPutAddr_len l _) 9 0 c []
  exact Nat.le_trans this (by decide)
theorem dHalfs_len (c : DCur) : (dHalfs c).1.length ≤ 7 := by
  have := dList_len (n := 6) (f := fun c l => (mPutHalf l (dHalf c)).1) (fc := dHalfC) (fun c l => mPutHalf_len l _) 7 0 c []
  exact Nat.le_trans this (by decide)
def lIds : List Int := [-1, 256, 255]
def lOdd : List Int := [0, 65536, 500]
def dAddrs2 (l : List DAddr) (c : DCur) : List DAddr × DCur :=
  if mBelow c 12 = 0 then (l ++ [dAddr (mBelowC c 12)], dAddrC (mBelowC c 12))
  else if mBelow c 12 = 1 then (l ++ [⟨mPickInt (mBelowC c 12) lIds, mPickInt (mPickIntC (mBelowC c 12) lIds) lOdd, false, false⟩], mPickIntC (mPickIntC (mBelowC c 12) lIds) lOdd)
  else (l, mBelowC c 12)
def dAddrsAny (c : DCur) : List DAddr × DCur := dAddrs2 (dAddrs c).1 (dAddrs c).2
theorem dAddrs2_B (l : List DAddr) {c : DCur} (h : c.B) : (dAddrs2 l c).2.B := by
  unfold dAddrs2
  split
  · exact dAddrC_B (mBelowC_B _ h)
  · split
    · exact mBelowC_B _ (mBelowC_B _ (mBelowC_B _ h))
    · exact mBelowC_B _ h
theorem dAddrs2_b (l : List DAddr) (c : DCur) : (dAddrs2 l c).2.b = c.b := by
  unfold dAddrs2
  split
  · simp only [dAddrC_b, mBelowC_b]
  · split
    · simp only [mPickIntC_b, mBelowC_b]
    · simp only [mBelowC_b]
theorem dAddrsAny_B {c : DCur} (h : c.B) : (dAddrsAny c).2.B := dAddrs2_B _ (dAddrs_B h)
theorem dAddrsAny_b (c : DCur) : (dAddrsAny c).2.b = c.b := by rw [dAddrsAny, dAddrs2_b, dAddrs_b]
theorem dAddrsAny_len (c : DCur) : (dAddrsAny c).1.length ≤ 10 := by
  have := dAddrs_len c
  unfold dAddrsAny dAddrs2
  repeat' split
  all_goals simp
  all_goals omega
/-- Bytes drawn, one by one. -/
def dBytes : Nat → DCur → List Int → List Int × DCur
  | 0, c, l => (l, c)
  | k + 1, c, l => dBytes k (mByteC c) (l ++ [IntKind.u8.wrap (mByte c)])
theorem dBytes_B : ∀ (k : Nat) (c : DCur) (l : List Int), c.B → (dBytes k c l).2.B
  | 0, _, _, h => h
  | k + 1, c, l, h => dBytes_B k _ _ (mByteC_B h)
theorem dBytes_b : ∀ (k : Nat) (c : DCur) (l : List Int), (dBytes k c l).2.b = c.b
  | 0, _, _ => rfl
  | k + 1, c, l => by rw [dBytes, dBytes_b k, mByteC_b]
theorem dBytes_len : ∀ (k : Nat) (c : DCur) (l : List Int), (dBytes k c l).1.length = l.length + k
  | 0, _, _ => rfl
  | k + 1, c, l => by rw [dBytes, dBytes_len k]; simp; omega
def dTextN (n : Int) : Nat := (if n > 5000 then 5000 else n).toNat
def dText (c : DCur) (n : Int) : List UInt8 := (dBytes (dTextN n) c []).1.map fun n => UInt8.ofNat n.toNat
def dTextC (c : DCur) (n : Int) : DCur := (dBytes (dTextN n) c []).2
theorem dText_len (c : DCur) (n : Int) : (dText c n).length ≤ 5000 := by
  rw [dText, List.length_map, dBytes_len]
  unfold dTextN
  simp only [List.length_nil]
  split <;> omega
theorem dTextC_B {c : DCur} (n : Int) (h : c.B) : (dTextC c n).B := dBytes_B _ _ _ h
theorem dTextC_b (c : DCur) (n : Int) : (dTextC c n).b = c.b := dBytes_b _ _ _
end Go.Eng

namespace Go.Eng
theorem mHearData_len1 (e : DEnd) (x : DLetter) : (mHearData e x).2.length ≤ 1 := by
  unfold mHearData
  repeat' split
  all_goals simp
theorem mHearBack_len1 (e : DEnd) (x : DLetter) : (mHearBack e x).2.length ≤ 1 := by
  unfold mHearBack
  repeat' split
  all_goals simp
theorem mHearJoin_len1 (e : DEnd) (x : DLetter) : (mHearJoin e x).2.length ≤ 1 := by
  unfold mHearJoin
  repeat' split
  all_goals simp
theorem mHearJoinBack_len1 (e : DEnd) (x : DLetter) : (mHearJoinBack e x).2.length ≤ 1 := by
  unfold mHearJoinBack
  repeat' split
  all_goals simp
theorem mHearJoinDone_len1 (e : DEnd) (x : DLetter) : (mHearJoinDone e x).2.length ≤ 1 := by
  unfold mHearJoinDone
  repeat' split
  all_goals simp
theorem mHearJoinAck_len1 (e : DEnd) (x : DLetter) : (mHearJoinAck e x).2.length ≤ 1 := by
  unfold mHearJoinAck
  repeat' split
  all_goals simp
theorem mHearAddr_len1 (e : DEnd) (x : DLetter) : (mHearAddr e x).2.length ≤ 1 := by
  unfold mHearAddr
  repeat' split
  all_goals simp
theorem mHearEcho_len1 (e : DEnd) (x : DLetter) : (mHearEcho e x).2.length ≤ 1 := by
  unfold mHearEcho
  repeat' split
  all_goals simp
theorem mHearGone_len1 (e : DEnd) (x : DLetter) : (mHearGone e x).2.length ≤ 1 := by
  unfold mHearGone
  repeat' split
  all_goals simp
theorem mHearCame_len1 (e : DEnd) (x : DLetter) : (mHearCame e x).2.length ≤ 1 := by
  unfold mHearCame
  repeat' split
  all_goals simp
theorem mHearReset_len1 (e : DEnd) (x : DLetter) : (mHearReset e x).2.length ≤ 1 := by
  unfold mHearReset
  repeat' split
  all_goals simp
theorem mHear_len1 (e : DEnd) (x : DLetter) : (mHear e x).2.length ≤ 1 :=
  iteP (P := fun z : DEnd × List DLetter => z.2.length ≤ 1) (iteP (P := fun z : DEnd × List DLetter => z.2.length ≤ 1) (mHearHello_len1 e x) (iteP (P := fun z : DEnd × List DLetter => z.2.length ≤ 1) (mHearBack_len1 e x) (iteP (P := fun z : DEnd × List DLetter => z.2.length ≤ 1) (mHearJoin_len1 e x) (iteP (P := fun z : DEnd × List DLetter => z.2.length ≤ 1) (mHearJoinBack_len1 e x) (iteP (P := fun z : DEnd × List DLetter => z.2.length ≤ 1) (mHearJoinDone_len1 e x) (iteP (P := fun z : DEnd × List DLetter => z.2.length ≤ 1) (mHearJoinAck_len1 e x) (iteP (P := fun z : DEnd × List DLetter => z.2.length ≤ 1) (mHearAddr_len1 e x) (iteP (P := fun z : DEnd × List DLetter => z.2.length ≤ 1) (mHearEcho_len1 e x) (iteP (P := fun z : DEnd × List DLetter => z.2.length ≤ 1) (mHearGone_len1 e x) (iteP (P := fun z : DEnd × List DLetter => z.2.length ≤ 1) (mHearData_len1 e x) (iteP (P := fun z : DEnd × List DLetter => z.2.length ≤ 1) (mHearCame_len1 e x) (iteP (P := fun z : DEnd × List DLetter => z.2.length ≤ 1) (mHearReset_len1 e x) (Nat.zero_le _))))))))))))) (Nat.zero_le _)
/-- The letters of one turn: each is lost or heard. -/
def talkL (ev : Bool) : List DLetter → DCur → DEnd → DEnd → List DLetter → DCur × DEnd × DEnd × List DLetter
  | [], c, x, y, back => (c, x, y, back)
  | l :: r, c, x, y, back =>
    if mOnce c 8 = true then talkL ev r (mBelowC c 8) x y back
    else if ev = true then talkL ev r (mBelowC c 8) x (mHear y l).1 (back ++ (mHear y l).2)
    else talkL ev r (mBelowC c 8) (mHear x l).1 y (back ++ (mHear x l).2)
def talkT : Nat → Nat → DCur → DEnd → DEnd → List DLetter → DCur × DEnd × DEnd
  | 0, _, c, x, y, _ => (c, x, y)
  | k + 1, t, c, x, y, ls =>
    if ls.length = 0 then (c, x, y)
    else talkT k (t + 1) (talkL (t % 2 == 0) ls c x y []).1 (talkL (t % 2 == 0) ls c x y []).2.1 (talkL (t % 2 == 0) ls c x y []).2.2.1 (talkL (t % 2 == 0) ls c x y []).2.2.2
def mTalk (c : DCur) (x y : DEnd) (ls : List DLetter) : DCur × DEnd × DEnd := talkT 5 0 c x y ls
theorem talkL_len (ev : Bool) : ∀ (ls : List DLetter) (c : DCur) (x y : DEnd) (back : List DLetter), (talkL ev ls c x y back).2.2.2.length ≤ back.length + ls.length
  | [], _, _, _, _ => Nat.le_refl _
  | l :: r, c, x, y, back => by
    have h1 := mHear_len1 y l
    have h2 := mHear_len1 x l
    rw [talkL]
    repeat' split
    · have := talkL_len ev r (mBelowC c 8) x y back
      simp only [List.length_cons]; omega
    · have := talkL_len ev r (mBelowC c 8) x (mHear y l).1 (back ++ (mHear y l).2)
      simp only [List.length_cons, List.length_append] at *; omega
    · have := talkL_len ev r (mBelowC c 8) (mHear x l).1 y (back ++ (mHear x l).2)
      simp only [List.length_cons, List.length_append] at *; omega
theorem mWasSent_no {o : DOut} (h : (mNextPiece o).2 = false) : mWasSent o = o := by
  unfold mWasSent
  have : (mNextPiece o).1.text.length = 0 := by
    unfold mNextPiece at h ⊢
    split
    · rename_i hc; rw [if_pos hc] at h; cases h
    · rfl
  rw [this]
  simp
end Go.Eng

namespace Go.Eng

theorem pw_iff {α : Type} {R : α → α → Prop} {l : List α} (d : α) : l.Pairwise R ↔ ∀ i j, i < j → j < l.length → R (l.getD i d) (l.getD j d) := by
  rw [List.pairwise_iff_getElem]
  constructor
  · intro h i j hij hj
    have := h i j (by omega) hj hij
    simpa [List.getD, hj, (by omega : i < l.length)] using this
  · intro h i j hi hj hij
    have := h i j hij hj
    simpa [List.getD, hj, hi] using this
theorem mem_iff_getD {α : Type} {P : α → Prop} {l : List α} (d : α) : (∀ x ∈ l, P x) ↔ ∀ i, i < l.length → P (l.getD i d) := by
  constructor
  · intro h i hi
    have : l.getD i d = l[i] := by simp [List.getD, hi]
    rw [this]; exact h _ (List.getElem_mem hi)
  · intro h x hx
    obtain ⟨i, hi, rfl⟩ := List.getElem_of_mem hx
    have := h i hi
    simpa [List.getD, hi] using this
theorem allI0_iff (p : Nat → Bool) (n : Nat) : allI p n 0 = true ↔ ∀ j, j < n → p j = true := by
  rw [allI_iff]
  exact ⟨fun h j hj => h j (Nat.zero_le _) (by omega), fun h j _ hj => h j (by omega)⟩
theorem findL_none {α : Type} (p : α → Bool) : ∀ (l : List α) (i : Nat), findL p l i < 0 ↔ ∀ x ∈ l, p x = false
  | [], i => by simp [findL]
  | x :: l, i => by
    rw [findL]
    have := findL_none p l (i + 1)
    split <;> rename_i h
    · constructor
      · intro h'; omega
      · intro h'; have := h' x (by simp); rw [h] at this; cases this
    · rw [this]; simp [h]
/-- The first that fits. -/
theorem findL_first {α : Type} (p : α → Bool) (d : α) : ∀ (l : List α) (i j : Nat), findL p l i = ((i + j : Nat) : Int) → j < l.length → p (l.getD j d) = true ∧ ∀ k, k < j → p (l.getD k d) = false
  | [], _, _, _, hj => by simp at hj
  | x :: l, i, j, h, hj => by
    rw [findL] at h
    split at h
    · rename_i hp
      obtain rfl : j = 0 := by omega
      exact ⟨by simpa using hp, fun k hk => by omega⟩
    · rename_i hp
      obtain ⟨k, rfl⟩ : ∃ k, j = k + 1 := by
        cases j with
        | zero =>
          rcases findL_bd p l (i + 1) with h1 | h1
          · omega
          · omega
        | succ k => exact ⟨k, rfl⟩
      have ih := findL_first p d l (i + 1) k (by omega) (by simpa using hj)
      refine ⟨by simpa using ih.1, fun m hm => ?_⟩
      cases m with
      | zero => simpa using hp
      | succ m => simpa using ih.2 m (by omega)
theorem findL_mem {α : Type} (p : α → Bool) (l : List α) (h : 0 ≤ findL p l 0) : ∃ j : Nat, findL p l 0 = (j : Int) ∧ j < l.length := by
  rcases findL_bd p l 0 with h1 | h1
  · omega
  · exact ⟨(findL p l 0).toNat, by omega, by omega⟩
theorem findL_is {α : Type} (p : α → Bool) (d : α) (l : List α) (j : Nat) (hj : j < l.length) : findL p l 0 = (j : Int) ↔ p (l.getD j d) = true ∧ ∀ k, k < j → p (l.getD k d) = false := by
  constructor
  · intro h; exact findL_first p d l 0 j (by rw [h]; simp) hj
  · rintro ⟨h1, h2⟩
    have := findL_at p l 0 j l[j] (List.getElem?_eq_getElem hj) (by simpa [List.getD, hj] using h1) fun k b hk hb => by
      obtain ⟨hk', rfl⟩ := List.getElem?_eq_some_iff.1 hb
      have := h2 k hk
      simpa [List.getD, hk'] using this
    simpa using this

/-! addresses -/
def AOk (l : List DAddr) : Prop := l.length ≤ 6 ∧ (∀ a ∈ l, (0 ≤ a.id ∧ a.id ≤ 255) ∧ (1 ≤ a.addr ∧ a.addr ≤ 65535)) ∧ l.Pairwise (fun a b => a.id < b.id ∧ a.addr ≠ b.addr)
theorem addrsOk_iff (l : List DAddr) : mAddrsOk l = true ↔ AOk l := by
  unfold AOk
  rw [pw_iff (ETy.zero .addr), mem_iff_getD (ETy.zero .addr)]
  constructor
  · intro h
    have hr := addrs_rise h
    simp only [mAddrsOk, Bool.and_eq_true, decide_eq_true_eq] at h
    have h1 := (allI0_iff _ _).1 h.2
    refine ⟨h.1, fun i hi => ?_, fun i j hij hj => ?_⟩
    · have := h1 i hi
      simp only [pAddr, pAddr0, Bool.and_eq_true, mIn_iff] at this
      exact ⟨this.1.1.1, this.1.1.2⟩
    · refine ⟨?_, ?_⟩
      · have := hr (j - i - 1) i (by omega)
        rw [show i + (j - i - 1) + 1 = j by omega] at this
        exact this
      · have := h1 j hj
        simp only [pAddr, Bool.and_eq_true] at this
        have := (allI0_iff _ _).1 this.2 i hij
        simp only [pDiff, Bool.not_eq_true', beq_eq_false_iff_ne] at this
        exact fun h => this h.symm
  · rintro ⟨h1, h2, h3⟩
    simp only [mAddrsOk, Bool.and_eq_true, decide_eq_true_eq]
    refine ⟨h1, (allI0_iff _ _).2 fun i hi => ?_⟩
    have h2 := h2 i hi
    simp only [pAddr, pAddr0, Bool.and_eq_true, mIn_iff, Bool.not_eq_true', Bool.and_eq_false_imp, decide_eq_true_eq, decide_eq_false_iff_not]
    refine ⟨⟨⟨h2.1, h2.2⟩, fun h0 => ?_⟩, (allI0_iff _ _).2 fun j hj => ?_⟩
    · have := (h3 (i - 1) i (by omega) hi).1
      exact Int.not_le.2 this
    · have := (h3 j i hj hi).2
      simp only [pDiff, Bool.not_eq_true', beq_eq_false_iff_ne]
      exact fun h => this h.symm
theorem addrAt_neg {l : List DAddr} {n : Int} : mAddrAt l n < 0 ↔ ∀ a ∈ l, a.id ≠ n := by
  rw [mAddrAt, findL_none]; simp
theorem AOk_sub {l m : List DAddr} (h : AOk l) (hs : m.Sublist l) : AOk m :=
  ⟨Nat.le_trans hs.length_le h.1, fun a ha => h.2.1 a (hs.subset ha), h.2.2.sublist hs⟩
theorem take_drop_sub {α : Type} (l : List α) (k : Nat) : (l.take k ++ l.drop (k + 1)).Sublist l := by
  rw [← List.eraseIdx_eq_take_drop_succ]; exact List.eraseIdx_sublist l k
theorem dropAddr_sub (l : List DAddr) (n : Int) : (mDropAddr l n).1.Sublist l := by
  unfold mDropAddr
  split
  · exact List.Sublist.refl _
  · exact take_drop_sub _ _
theorem AOk_told {l : List DAddr} (h : AOk l) (k : Nat) : AOk (l.set k { l.getD k (ETy.zero .addr) with told := true }) := by
  obtain ⟨h1, h2, h3⟩ := h
  rw [mem_iff_getD (ETy.zero .addr)] at h2
  rw [pw_iff (ETy.zero .addr)] at h3
  have hg : ∀ i, i < l.length → ((l.set k { l.getD k (ETy.zero .addr) with told := true }).getD i (ETy.zero .addr)).id = (l.getD i (ETy.zero .addr)).id ∧ ((l.set k { l.getD k (ETy.zero .addr) with told := true }).getD i (ETy.zero .addr)).addr = (l.getD i (ETy.zero .addr)).addr := by
    intro i hi
    by_cases hk : k = i
    · subst hk; simp [List.getD, hi]
    · simp [List.getD, List.getElem?_set, hk]
  refine ⟨by simpa using h1, (mem_iff_getD (ETy.zero .addr)).2 fun i hi => ?_, (pw_iff (ETy.zero .addr)).2 fun i j hij hj => ?_⟩
  · have hi : i < l.length := by simpa using hi
    rw [(hg i hi).1, (hg i hi).2]; exact h2 i hi
  · have hj : j < l.length := by simpa using hj
    rw [(hg i (by omega)).1, (hg i (by omega)).2, (hg j hj).1, (hg j hj).2]; exact h3 i j hij hj
/-! halves -/
def HOk (l : List DHalf) : Prop := l.length ≤ 4 ∧ (∀ h ∈ l, mRoadNum h.road = true ∧ mNum h.theirs = true ∧ mNum h.mine = true ∧ mNum h.give = true ∧ mNum h.take = true ∧ mNum h.til = true) ∧ l.Pairwise (fun a b => a.road ≠ b.road)
theorem halfsOk_iff (l : List DHalf) : mHalfsOk l = true ↔ HOk l := by
  unfold HOk
  rw [pw_iff (ETy.zero .half), mem_iff_getD (ETy.zero .half)]
  simp only [mHalfsOk, Bool.and_eq_true, decide_eq_true_eq]
  refine and_congr_right fun _ => ?_
  rw [allI0_iff]
  constructor
  · intro h
    refine ⟨fun i hi => ?_, fun i j hij hj => ?_⟩
    · have := h i hi
      simp only [pHalf, Bool.and_eq_true, decide_eq_true_eq] at this
      exact ⟨this.1.1.1.1.1.2, this.1.1.1.1.2, this.1.1.1.2, this.1.1.2, this.1.2, this.2⟩
    · have := h j hj
      simp only [pHalf, Bool.and_eq_true, decide_eq_true_eq] at this
      have := ((findL_is (fun h : DHalf => decide (h.road = (gH l j).road)) (ETy.zero .half) l j hj).1 this.1.1.1.1.1.1).2 i hij
      simpa using this
  · rintro ⟨h1, h2⟩ i hi
    have h1 := h1 i hi
    simp only [pHalf, Bool.and_eq_true, decide_eq_true_eq]
    refine ⟨⟨⟨⟨⟨⟨?_, h1.1⟩, h1.2.1⟩, h1.2.2.1⟩, h1.2.2.2.1⟩, h1.2.2.2.2.1⟩, h1.2.2.2.2.2⟩
    refine (findL_is _ (ETy.zero .half) l i hi).2 ⟨by simp, fun k hk => ?_⟩
    have := h2 k i hk hi
    simpa using this
theorem HOk_sub {l m : List DHalf} (h : HOk l) (hs : m.Sublist l) : HOk m :=
  ⟨Nat.le_trans hs.length_le h.1, fun a ha => h.2.1 a (hs.subset ha), h.2.2.sublist hs⟩
theorem dropHalf_sub (l : List DHalf) (r : DRoad) : (mDropHalf l r).Sublist l := by
  unfold mDropHalf
  split
  · exact List.Sublist.refl _
  · exact take_drop_sub _ _
theorem colL_sub {α : Type} (f : α → Nat → Option α) (hf : ∀ x i y, f x i = some y → y = x) : ∀ (l : List α) (i : Nat), (colL f l i).Sublist l
  | [], _ => List.Sublist.refl _
  | x :: l, i => by
    rw [colL]
    split
    · rename_i y hy; rw [hf x i y hy]; exact (colL_sub f hf l (i + 1)).cons_cons x
    · exact (colL_sub f hf l (i + 1)).cons x
theorem younger_sub (l : List DHalf) (n : Int) : (mYounger l n).Sublist l := by
  refine colL_sub _ (fun x i y h => ?_) l 0
  unfold fYoung at h
  split at h
  · exact (Option.some.inj h).symm
  · cases h
theorem halfAt_neg {l : List DHalf} {r : DRoad} : mHalfAt l r < 0 ↔ ∀ a ∈ l, a.road ≠ r := by
  rw [mHalfAt, findL_none]; simp
/-! ids that are over -/
def GOk (l : List Int) (t : List DAddr) : Prop := (∀ n ∈ l, (0 ≤ n ∧ n ≤ 255) ∧ ∀ a ∈ t, a.id ≠ n) ∧ l.Pairwise (· < ·)
theorem goneOk_iff (l : List Int) (t : List DAddr) : mGone l t = true ↔ GOk l t := by
  unfold GOk
  rw [pw_iff (ETy.zero .int), mem_iff_getD (ETy.zero .int), mGone, allI0_iff]
  constructor
  · intro h
    refine ⟨fun i hi => ?_, fun i j hij hj => ?_⟩
    · have := h i hi
      simp only [pGone, pId, Bool.and_eq_true, mIn_iff, Bool.not_eq_true', decide_eq_false_iff_not] at this
      exact ⟨this.2.1, addrAt_neg.1 (Int.not_le.1 this.2.2)⟩
    · have hs : ∀ d i, i + d + 1 < l.length → l.getD i (ETy.zero .int) < l.getD (i + d + 1) (ETy.zero .int) := by
        have h1 : ∀ i, i + 1 < l.length → l.getD i (ETy.zero .int) < l.getD (i + 1) (ETy.zero .int) := fun i hi => by
          have := h (i + 1) hi
          simp only [pGone, pRise, Bool.and_eq_true, Bool.or_eq_true, decide_eq_true_eq, Bool.not_eq_true', decide_eq_false_iff_not, Nat.add_sub_cancel] at this
          rcases this.1 with h0 | h0
          · omega
          · exact Int.not_le.1 h0
        intro d
        induction d with
        | zero => intro i hi; exact h1 i hi
        | succ d ih => intro i hi; exact Int.lt_trans (ih i (by omega)) (h1 (i + d + 1) (by omega))
      have := hs (j - i - 1) i (by omega)
      rw [show i + (j - i - 1) + 1 = j by omega] at this
      exact this
  · rintro ⟨h1, h2⟩ i hi
    simp only [pGone, pId, pRise, Bool.and_eq_true, mIn_iff, Bool.or_eq_true, decide_eq_true_eq, Bool.not_eq_true', decide_eq_false_iff_not]
    refine ⟨?_, (h1 i hi).1, Int.not_le.2 (addrAt_neg.2 (h1 i hi).2)⟩
    by_cases h0 : i = 0
    · exact .inl h0
    · exact .inr (Int.not_le.2 (h2 (i - 1) i (by omega) hi))
/-! paths -/
def SNum (s : DSub) : Prop := (1 ≤ s.state ∧ s.state ≤ 4) ∧ mRoadNum s.road = true ∧ mNum s.mine = true ∧ mNum s.theirs = true ∧ mNum s.give = true ∧ mNum s.take = true ∧ mNum s.tries = true
def SR (a b : DSub) : Prop := a.state ≠ 4 → b.state ≠ 4 → a.road ≠ b.road
def SOk (l : List DSub) : Prop := l.length ≤ 8 ∧ (∀ s ∈ l, SNum s) ∧ l.Pairwise SR
theorem subAt_neg {e : DEnd} {r : DRoad} : mSubAt e r < 0 ↔ ∀ s ∈ e.subs, s.state ≠ 4 → s.road ≠ r := by
  rw [mSubAt, findL_none]
  simp [pSub]
theorem subsOk_iff (e : DEnd) : (e.subs.length ≤ 8 ∧ allI (pSubOk e) e.subs.length 0 = true) ↔ SOk e.subs := by
  unfold SOk
  rw [pw_iff (ETy.zero .sub), mem_iff_getD (ETy.zero .sub)]
  refine and_congr_right fun _ => ?_
  rw [allI0_iff]
  constructor
  · intro h
    refine ⟨fun i hi => ?_, fun i j hij hj => ?_⟩
    · have := h i hi
      simp only [pSubOk, Bool.and_eq_true, mIn_iff] at this
      unfold SNum
      exact ⟨this.1.1.1.1.1.1.1, this.1.1.1.1.1.1.2, this.1.1.1.1.1.2, this.1.1.1.1.2, this.1.1.1.2, this.1.1.2, this.1.2⟩
    · intro h1 h2 h3
      have := h j hj
      simp only [pSubOk, Bool.and_eq_true, Bool.or_eq_true, decide_eq_true_eq] at this
      rcases this.2 with h4 | h4
      · exact h2 h4
      · have := ((findL_is (pSub (gS e.subs j).road) (ETy.zero .sub) e.subs j hj).1 h4).2 i hij
        simp only [pSub, Bool.and_eq_false_imp, bne_iff_ne, decide_eq_false_iff_not] at this
        exact this h1 h3
  · rintro ⟨h1, h2⟩ i hi
    have h1 := h1 i hi
    unfold SNum at h1
    simp only [pSubOk, Bool.and_eq_true, Bool.or_eq_true, decide_eq_true_eq, mIn_iff]
    refine ⟨⟨⟨⟨⟨⟨⟨h1.1, h1.2.1⟩, h1.2.2.1⟩, h1.2.2.2.1⟩, h1.2.2.2.2.1⟩, h1.2.2.2.2.2.1⟩, h1.2.2.2.2.2.2⟩, ?_⟩
    by_cases h4 : (gS e.subs i).state = 4
    · exact .inl h4
    · right
      refine (findL_is _ (ETy.zero .sub) e.subs i hi).2 ⟨by simp only [pSub, Bool.and_eq_true, bne_iff_ne, decide_eq_true_eq]; exact ⟨h4, trivial⟩, fun k hk => ?_⟩
      simp only [pSub, Bool.and_eq_false_imp, bne_iff_ne, decide_eq_false_iff_not]
      intro h5
      exact h2 k i hk hi h5 h4
theorem SOk_set {l : List DSub} (h : SOk l) (k : Nat) {s : DSub} (hr : s.road = (l.getD k (ETy.zero .sub)).road) (hn : k < l.length → SNum s) (h4 : (l.getD k (ETy.zero .sub)).state = 4 → s.state = 4) : SOk (l.set k s) := by
  obtain ⟨h1, h2, h3⟩ := h
  rw [mem_iff_getD (ETy.zero .sub)] at h2
  rw [pw_iff (ETy.zero .sub)] at h3
  have hg : ∀ i, i < l.length → (l.set k s).getD i (ETy.zero .sub) = if k = i then s else l.getD i (ETy.zero .sub) := by
    intro i hi
    by_cases hk : k = i
    · subst hk; simp [List.getD, hi]
    · simp [List.getD, List.getElem?_set, hk]
  refine ⟨by simpa using h1, (mem_iff_getD (ETy.zero .sub)).2 fun i hi => ?_, (pw_iff (ETy.zero .sub)).2 fun i j hij hj => ?_⟩
  · have hi : i < l.length := by simpa using hi
    rw [hg i hi]
    split
    · exact hn (by omega)
    · exact h2 i hi
  · have hj : j < l.length := by simpa using hj
    have := h3 i j hij hj
    rw [hg i (by omega), hg j hj]
    unfold SR at *
    split <;> split
    · omega
    · rename_i hk _; subst hk; rw [hr]; grind
    · rename_i hk; subst hk; rw [hr]; grind
    · exact this
theorem SOk_app {l : List DSub} (h : SOk l) {s : DSub} (hl : l.length < 8) (hn : SNum s) (hs : ∀ t ∈ l, t.state ≠ 4 → t.road ≠ s.road) : SOk (l ++ [s]) := by
  obtain ⟨h1, h2, h3⟩ := h
  refine ⟨by simp; omega, fun t ht => ?_, List.pairwise_append.2 ⟨h3, by simp, fun a ha b hb => ?_⟩⟩
  · rcases List.mem_append.1 ht with ht | ht
    · exact h2 t ht
    · rw [List.mem_singleton.1 ht]; exact hn
  · rw [List.mem_singleton.1 hb]
    exact fun h4 _ => hs a ha h4
theorem SOk_map {l : List DSub} (h : SOk l) (g : DSub → DSub) (hr : ∀ s, (g s).road = s.road) (hn : ∀ s ∈ l, SNum s → SNum (g s)) (h4 : ∀ s, s.state = 4 → (g s).state = 4) : SOk (l.map g) := by
  obtain ⟨h1, h2, h3⟩ := h
  refine ⟨by simpa using h1, fun t ht => ?_, List.pairwise_map.2 (h3.imp fun {a b} hab => ?_)⟩
  · obtain ⟨s, hs, rfl⟩ := List.mem_map.1 ht
    exact hn s hs (h2 s hs)
  · unfold SR at *
    rw [hr, hr]
    exact fun ha hb => hab (fun h => ha (h4 _ h)) (fun h => hb (h4 _ h))
theorem SOk_goneIf {l : List DSub} (h : SOk l) (p : DSub → Bool) : SOk (goneIf p l) := by
  rw [goneIf_eq]
  refine SOk_map h _ (fun s => ?_) (fun s _ hs => ?_) (fun s h4 => ?_)
  · unfold goneG; split <;> rfl
  · unfold goneG
    split
    · obtain ⟨_, h2⟩ := hs; exact ⟨by simp, h2⟩
    · exact hs
  · unfold goneG; split
    · rfl
    · exact h4
/-! whole ends -/
structure EOk (e : DEnd) : Prop where
  side : 1 ≤ e.side ∧ e.side ≤ 2
  state : 0 ≤ e.state ∧ e.state ≤ 2
  pol : mPolicyOk e.policy = true
  own : AOk e.own
  far : AOk e.far
  halfs : HOk e.halfs
  bucket : mBucketOk e.bucket = true
  out : mOutOk e.out = true
  inn : mPiecesOk e.inn = true
  done : GOk e.done e.own
  over : GOk e.over e.far
  key : mNum e.key = true
  peer : mNum e.peer = true
  draw : mNum e.draw = true
  now : mNum e.now = true
  pick : mNum e.pick = true
  subs : SOk e.subs
theorem endOk_iff (e : DEnd) : mEndOk e = true ↔ EOk e := by
  have hs := subsOk_iff e
  have h1 := addrsOk_iff e.own
  have h2 := addrsOk_iff e.far
  have h3 := halfsOk_iff e.halfs
  have h4 := goneOk_iff e.done e.own
  have h5 := goneOk_iff e.over e.far
  constructor
  · intro h
    obtain ⟨g1, g2, g3, g4⟩ := endOk_split h
    simp only [mEndOk0, mEndOk1, Bool.and_eq_true, mIn_iff] at g1 g2
    obtain ⟨⟨⟨⟨⟨⟨⟨⟨a1, a2⟩, a3⟩, a4⟩, a5⟩, a6⟩, a7⟩, a8⟩, a9⟩ := g1
    obtain ⟨⟨⟨⟨⟨⟨b1, b2⟩, b3⟩, b4⟩, b5⟩, b6⟩, b7⟩ := g2
    exact ⟨a1, a2, a3, h1.1 a4, h2.1 a5, h3.1 a6, a7, a8, a9, h4.1 b1, h5.1 b2, b3, b4, b5, b6, b7, hs.1 ⟨g3, g4⟩⟩
  · rintro ⟨a1, a2, a3, a4, a5, a6, a7, a8, a9, b1, b2, b3, b4, b5, b6, b7, g⟩
    have g := hs.2 g
    simp only [mEndOk, mEndOk0, mEndOk1, Bool.and_eq_true, decide_eq_true_eq, mIn_iff]
    exact ⟨⟨⟨⟨⟨⟨⟨⟨⟨⟨⟨a1, a2⟩, a3⟩, h1.2 a4⟩, h2.2 a5⟩, h3.2 a6⟩, a7⟩, a8⟩, a9⟩, ⟨⟨⟨⟨⟨⟨h4.2 b1, h5.2 b2⟩, b3⟩, b4⟩, b5⟩, b6⟩, b7⟩⟩, g.1⟩, g.2⟩
end Go.Eng
