/- Plain models of what the functions compute. -/
import Derived.Test.YtnpeomhpbakgnaaM15
set_option linter.unusedVariables false
set_option linter.unusedSimpArgs false
namespace Go.Eng

def mMeetO (a b : DEnd) : DEnd × List DLetter := mOpen a (gA b.own 0).addr
def mMeetH (a b : DEnd) : DEnd × List DLetter := match (mMeetO a b).2 with
  | [] => (b, [])
  | l :: _ => mHearHello b l
def mMeetX (a b : DEnd) : DEnd := match (mMeetH a b).2 with
  | [] => (mMeetO a b).1
  | m :: _ => (mHearBack (mMeetO a b).1 m).1
def mMeetOk (x y : DEnd) : Bool := decide (x.state = 2) && decide (y.state = 2) && decide (x.peer = y.key) && decide (y.peer = x.key)
def mMeet (a b : DEnd) : DEnd × DEnd × Bool := if b.own.length = 0 then (a, b, false) else (mMeetX a b, (mMeetH a b).1, mMeetOk (mMeetX a b) (mMeetH a b).1)
theorem mOpen_len1 (e : DEnd) (f : Int) : (mOpen e f).2.length ≤ 1 := by
  unfold mOpen
  split <;> simp
theorem mHearHello_len1 (e : DEnd) (x : DLetter) : (mHearHello e x).2.length ≤ 1 := by
  unfold mHearHello
  split <;> simp
theorem mMeetH_len (a b : DEnd) : (mMeetH a b).2.length ≤ 1 := by
  unfold mMeetH
  split
  · simp
  · exact mHearHello_len1 _ _
theorem mMeetO_B {a b : DEnd} (h : a.B) : (mMeetO a b).1.B := mOpen_B _ h
theorem mMeetH_B {a b : DEnd} (h : b.B) : (mMeetH a b).1.B := by
  unfold mMeetH
  split
  · exact h
  · exact mHearHello_B _ h
theorem mMeetX_B {a b : DEnd} (h : a.B) : (mMeetX a b).B := by
  unfold mMeetX
  split
  · exact mMeetO_B h
  · exact mHearBack_B _ (mMeetO_B h)
theorem mMeet_B1 {a b : DEnd} (h : a.B) : (mMeet a b).1.B := by
  unfold mMeet
  split
  · exact h
  · exact mMeetX_B h
theorem mMeet_B2 {a b : DEnd} (h : b.B) : (mMeet a b).2.1.B := by
  unfold mMeet
  split
  · exact h
  · exact mMeetH_B h
theorem meetH_of {a b : DEnd} {l : DLetter} {i : Nat} (h : (mMeetO a b).2[i]? = some l) : i = 0 ∧ mMeetH a b = mHearHello b l ∧ (mMeetO a b).2.length = 1 := by
  have hl := mOpen_len1 a (gA b.own 0).addr
  have hi := (List.getElem?_eq_some_iff.1 h).1
  have hi : i < (mMeetO a b).2.length := hi
  have hl : (mMeetO a b).2.length ≤ 1 := hl
  obtain rfl : i = 0 := by omega
  refine ⟨rfl, ?_, by omega⟩
  unfold mMeetH
  revert h
  cases (mMeetO a b).2 with
  | nil => intro h; simp at h
  | cons y t => intro h; simp at h; subst h; rfl
theorem meetX_of {a b : DEnd} {m : DLetter} {i : Nat} (h : (mMeetH a b).2[i]? = some m) : i = 0 ∧ mMeetX a b = (mHearBack (mMeetO a b).1 m).1 ∧ (mMeetH a b).2.length = 1 := by
  have hi : i < (mMeetH a b).2.length := (List.getElem?_eq_some_iff.1 h).1
  have hl := mMeetH_len a b
  obtain rfl : i = 0 := by omega
  refine ⟨rfl, ?_, by omega⟩
  unfold mMeetX
  revert h
  cases (mMeetH a b).2 with
  | nil => intro h; simp at h
  | cons y t => intro h; simp at h; subst h; rfl
theorem meetH_nil {a b : DEnd} (h : (mMeetO a b).2.length = 0) : mMeetH a b = (b, []) := by
  unfold mMeetH
  rw [List.length_eq_zero_iff.1 h]
theorem meetX_nil {a b : DEnd} (h : (mMeetH a b).2.length = 0) : mMeetX a b = (mMeetO a b).1 := by
  unfold mMeetX
  rw [List.length_eq_zero_iff.1 h]
def mWorldNew (p : DPolicy) : DWorld × Bool :=
  if (mEndNew 1 11 p).2 = true then
    (⟨(mMeet (mEndNew 1 11 p).1 (mEndNew 2 21 p).1).1, (mMeet (mEndNew 1 11 p).1 (mEndNew 2 21 p).1).2.1, [], [], [], [], [], [], ⟨[5, 7], []⟩, [], [], []⟩, true)
  else (⟨end0, end0, [], [], [], [], [], [], ⟨[], []⟩, [], [], []⟩, false)
theorem mEndNew_two (p : DPolicy) : (mEndNew 2 21 p).2 = (mEndNew 1 11 p).2 := by
  have h1 : mAddrsOk [⟨0, 11, false, true⟩] = true := by decide
  have h2 : mAddrsOk [⟨0, 21, false, true⟩] = true := by decide
  unfold mEndNew
  rw [h1, h2, show mIn 1 1 2 = true from rfl, show mIn 2 1 2 = true from rfl]
  by_cases h : mPolicyOk p = true <;> simp [h]
theorem mWorldNew_B (p : DPolicy) : (mWorldNew p).1.B := by
  unfold mWorldNew
  split
  · refine ⟨mMeet_B1 (mEndNew_B _ _ _), mMeet_B2 (mEndNew_B _ _ _), ?_, ?_, ?_, ?_, ?_, ?_, ?_⟩ <;> simp
  · refine ⟨?_, ?_, ?_, ?_, ?_, ?_, ?_, ?_, ?_⟩ <;> simp [DEnd.B, end0]
theorem KB_of_B2 {x y : DEnd} (hx : x.B) (hy : y.B) : KB (1 + (nEnd x : Int)) (nEnd y) := by
  have := endN_le hx
  have := endN_le hy
  unfold KB
  omega
theorem lt0_4 (n m : Nat) : (1 + (n : Int) + (m : Int) < 0) = False := by simp; omega
theorem mkWorld_re (w : DWorld) (k : Int) : ({ a := { side := w.a.side, state := w.a.state, key := w.a.key, peer := w.a.peer, policy := w.a.policy, own := ((mkWorld w k).a).own, far := ((mkWorld w k).a).far, subs := ((mkWorld w k).a).subs, halfs := ((mkWorld w k).a).halfs, bucket := w.a.bucket, out := w.a.out, inn := { read := w.a.inn.read, ready := w.a.inn.ready, list := ((mkWorld w k).a).inn.list }, done := ((mkWorld w k).a).done, over := ((mkWorld w k).a).over, draw := w.a.draw, now := w.a.now, pick := w.a.pick }, b := { side := w.b.side, state := w.b.state, key := w.b.key, peer := w.b.peer, policy := w.b.policy, own := ((mkWorld w k).b).own, far := ((mkWorld w k).b).far, subs := ((mkWorld w k).b).subs, halfs := ((mkWorld w k).b).halfs, bucket := w.b.bucket, out := w.b.out, inn := { read := w.b.inn.read, ready := w.b.inn.ready, list := ((mkWorld w k).b).inn.list }, done := ((mkWorld w k).b).done, over := ((mkWorld w k).b).over, draw := w.b.draw, now := w.b.now, pick := w.b.pick }, bag := (mkWorld w k).bag, past := (mkWorld w k).past, wroteA := w.wroteA, wroteB := w.wroteB, readA := w.readA, readB := w.readB, known := { keys := (mkWorld w k).known.keys, tags := (mkWorld w k).known.tags }, nums := (mkWorld w k).nums, answersA := (mkWorld w k).answersA, answersB := (mkWorld w k).answersB } : DWorld) = mkWorld w k := rfl
end Go.Eng
