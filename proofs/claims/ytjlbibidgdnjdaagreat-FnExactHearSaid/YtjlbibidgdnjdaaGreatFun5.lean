/- Contracts of functions of the program, each shown over the text. -/
import Derived.Test.YtjlbibidgdnjdaaGreatFun4
set_option linter.unusedVariables false
set_option linter.unusedSimpArgs false
set_option maxRecDepth 100000
namespace Go.Proofs.YtjlbibidgdnjdaaGreat
open Go.Eng
set_option maxHeartbeats 1000000 in
theorem h_spec_LetterOk : Ctr.holds E 101 (.reads [aLetter] [aBool] (fun _ => True) fun ((x : DLetter), _) => (mLetterOk x, ())) := by
  refine fn_ok (Γ := [(136, .reads [aInt, aInt, aInt] [aBool] (fun _ => True) fun ((n : Int), (l : Int), (h : Int), _) => (mIn n l h, ())), (241, .reads [aInt] [aBool] (fun _ => True) fun ((n : Int), _) => (mNum n, ()))]) prgOk (gcons h_spec_l01In (gcons h_spec_l14Num gnil)) Tryz.func101 rfl rfl rfl rfl ?_
  rintro ty ⟨(y : DLetter), _⟩ hp
  have hll : (lNums y).length = 16 := rfl
  refine ⟨[(5, { X := Nat, inv := fun i => i ≤ (lNums y).length ∧ allL mNum ((lNums y).drop i) = mNums (lNums y), mu := fun i => (lNums y).length - i, vk := [4], ov := fun i => [.a (.c (.leaf (.int (i : Int))))], bk := [], ob := fun i => [], rk := [], orr := fun i => [] })], ?_⟩
  repeat' ((conv => whnf); first | refine toOb2 ?_ | refine toY ?_ | refine And.intro (fun _ => ?_) (fun _ => ?_) | refine And.intro (toOb2 ?_) ?_ | refine And.intro (?_ : drawOk _ _ _ = true) ?_ | (refine And.intro ⟨?_, ?_⟩ ?_; fail) | intro _)
  (all_goals first | (refine Ob2.mk ?_; (try simp only [allP, side, Ctr.reads, dTag_eta, dRoad_eta, dLetter_eta, dAddr_eta, dSub_eta, dHalf_eta, dPiece_eta, dPolicy_eta, dBucket_eta, dOut_eta, dPieces_eta, dEnd_eta, dKnown_eta, dWorld_eta] at *); (try simp only [Bool.cond_true_left, Bool.cond_false_right, Bool.or_eq_false_iff, Bool.or_eq_true, Bool.and_eq_true, Bool.and_eq_false_imp, Bool.not_eq_true', Bool.not_eq_false', Bool.not_eq_eq_eq_not, Bool.not_true, Bool.not_false, imp_self, implies_true, and_self, and_true, true_and] at *); first | done | trivial | assumption | omega | grind [mLetterOk]) | (show drawOk _ _ _ = true; exact rfl) | skip)
  conv => whnf
  refine And.intro ⟨(0 : Nat), Ob.mk ?_, ?_⟩ (fun (i : Nat) hi => ?_)
  · exact And.intro (Nat.zero_le _) rfl
  · conv => whnf
    refine Ob.mk ?_
    all_goals (try simp only [allP, side, Ctr.reads, dTag_eta, dRoad_eta, dLetter_eta, dAddr_eta, dSub_eta, dHalf_eta, dPiece_eta, dPolicy_eta, dBucket_eta, dOut_eta, dPieces_eta, dEnd_eta, dKnown_eta, dWorld_eta]); all_goals repeat' (first | with_reducible exact rfl | exact trivial | with_reducible assumption | refine And.intro ?_ ?_ | exact (rfl : (_ : SV) = _) | exact (rfl : (_ : List SC) = _) | (show drawOk _ _ _ = true; exact rfl) | (show ((0 : Nat) : Int) = 0; exact rfl))
  obtain ⟨hi, hm⟩ := hi
  have hi : i ≤ (lNums y).length := hi
  have hm : allL mNum ((lNums y).drop i) = mNums (lNums y) := hm
  rcases Nat.lt_or_ge i (lNums y).length with hlt | hge
  · obtain ⟨x, hx, hxi, hd⟩ := at_step (lNums y) i (ETy.zero .int) hlt
    rw [hd, allL] at hm
    have hw := w64_succ hlt ((by omega))
    have hlit : ([ETy.int.frm (y.src, ()), ETy.int.frm (y.dst, ()), ETy.int.frm (y.port, ()), ETy.int.frm (y.key, ()), ETy.int.frm (y.token, ()), ETy.int.frm (y.nonce, ()), ETy.int.frm (y.give, ()), ETy.int.frm (y.sign, ()), ETy.int.frm (y.id, ()), ETy.int.frm (y.addr, ()), ETy.int.frm (y.pos, ()), ETy.int.frm (y.tag.kind, ()), ETy.int.frm (y.tag.one, ()), ETy.int.frm (y.tag.two, ()), ETy.int.frm (y.tag.a, ()), ETy.int.frm (y.tag.b, ())] : List ETy.int.T) = lNums y := rfl
    repeat' ((conv => whnf); first | refine toOb2 ?_ | refine And.intro (fun _ => ?_) (fun _ => ?_) | refine And.intro ?_ ?_ | refine toEx2 ?_ | refine toY ?_ | intro _)
    all_goals try (exfalso; exact Nat.lt_irrefl _ (Nat.lt_of_lt_of_le hlt (ge_of_dec (by assumption))))
    all_goals first | refine Ob2.mk ?_ | refine Ex2.of (i + 1) ?_ ?_ | skip
    all_goals try ((conv => whnf); refine Ob.mk ?_)
    all_goals (try simp only [allP, side, Ctr.reads, dTag_eta, dRoad_eta, dLetter_eta, dAddr_eta, dSub_eta, dHalf_eta, dPiece_eta, dPolicy_eta, dBucket_eta, dOut_eta, dPieces_eta, dEnd_eta, dKnown_eta, dWorld_eta]); all_goals repeat' (first | with_reducible exact rfl | exact trivial | with_reducible assumption | refine And.intro ?_ ?_ | exact (rfl : (_ : SV) = _) | exact (rfl : (_ : List SC) = _) | (show drawOk _ _ _ = true; exact rfl) | (show ((0 : Nat) : Int) = 0; exact rfl))
    all_goals (try simp only [hx, hlit, Ctr.reads, dTag_eta, dRoad_eta, dLetter_eta, dAddr_eta, dSub_eta, dHalf_eta, dPiece_eta, dPolicy_eta, dBucket_eta, dOut_eta, dPieces_eta, dEnd_eta, dKnown_eta, dWorld_eta] at *)
    all_goals (try simp only [Bool.cond_true_left, Bool.cond_false_right, Bool.or_eq_false_iff, Bool.or_eq_true, Bool.and_eq_true, Bool.and_eq_false_imp, Bool.not_eq_true', Bool.not_eq_false', Bool.not_eq_eq_eq_not, Bool.not_true, Bool.not_false] at *)
    all_goals first | done | grind [mNum, mLetterOk]
  · have hl : i = (lNums y).length := by omega
    subst hl
    rw [List.drop_length, allL] at hm
    repeat' ((conv => whnf); first | refine toOb2 ?_ | refine And.intro (fun _ => ?_) (fun _ => ?_) | refine And.intro ?_ ?_ | refine toEx2 ?_ | refine toY ?_ | intro _)
    all_goals try (exfalso; exact Nat.lt_irrefl _ (Nat.lt_of_lt_of_le (lt_of_dec (by assumption)) hge))
    all_goals first | refine Ob2.mk ?_ | refine Ex2.of ((lNums y).length + 1) ?_ ?_ | skip
    all_goals try ((conv => whnf); refine Ob.mk ?_)
    all_goals (try simp only [allP, side, Ctr.reads, dTag_eta, dRoad_eta, dLetter_eta, dAddr_eta, dSub_eta, dHalf_eta, dPiece_eta, dPolicy_eta, dBucket_eta, dOut_eta, dPieces_eta, dEnd_eta, dKnown_eta, dWorld_eta]); all_goals repeat' (first | with_reducible exact rfl | exact trivial | with_reducible assumption | refine And.intro ?_ ?_ | exact (rfl : (_ : SV) = _) | exact (rfl : (_ : List SC) = _) | (show drawOk _ _ _ = true; exact rfl) | (show ((0 : Nat) : Int) = 0; exact rfl))
    all_goals (try simp only [hlit, Ctr.reads, dTag_eta, dRoad_eta, dLetter_eta, dAddr_eta, dSub_eta, dHalf_eta, dPiece_eta, dPolicy_eta, dBucket_eta, dOut_eta, dPieces_eta, dEnd_eta, dKnown_eta, dWorld_eta] at *)
    have hlit : ([ETy.int.frm (y.src, ()), ETy.int.frm (y.dst, ()), ETy.int.frm (y.port, ()), ETy.int.frm (y.key, ()), ETy.int.frm (y.token, ()), ETy.int.frm (y.nonce, ()), ETy.int.frm (y.give, ()), ETy.int.frm (y.sign, ()), ETy.int.frm (y.id, ()), ETy.int.frm (y.addr, ()), ETy.int.frm (y.pos, ()), ETy.int.frm (y.tag.kind, ()), ETy.int.frm (y.tag.one, ()), ETy.int.frm (y.tag.two, ()), ETy.int.frm (y.tag.a, ()), ETy.int.frm (y.tag.b, ())] : List ETy.int.T) = lNums y := rfl
    all_goals (try simp only [hlit, Ctr.reads, dTag_eta, dRoad_eta, dLetter_eta, dAddr_eta, dSub_eta, dHalf_eta, dPiece_eta, dPolicy_eta, dBucket_eta, dOut_eta, dPieces_eta, dEnd_eta, dKnown_eta, dWorld_eta] at *)
    all_goals (try simp only [Bool.cond_true_left, Bool.cond_false_right, Bool.or_eq_false_iff, Bool.or_eq_true, Bool.and_eq_true, Bool.and_eq_false_imp, Bool.not_eq_true', Bool.not_eq_false', Bool.not_eq_eq_eq_not, Bool.not_true, Bool.not_false] at *)
    all_goals first | done | grind [mNum, mLetterOk]
set_option maxHeartbeats 1000000 in
theorem h_spec_l20On : Ctr.holds E 149 (.reads [aEnd, aLetter] [aInt] (fun ((e : DEnd), (x : DLetter), _) => e.B) fun ((e : DEnd), (x : DLetter), _) => (mL20On e x, ())) := by
  refine fn_ok (Γ := [(100, .reads [aEnd] [aBool] (fun ((e : DEnd), _) => e.B) fun ((e : DEnd), _) => (mEndOk e, ())), (101, .reads [aLetter] [aBool] (fun _ => True) fun ((x : DLetter), _) => (mLetterOk x, ())), (268, .reads [aEnd, aLetter] [aInt] (fun ((e : DEnd), _) => e.B) fun ((e : DEnd), (x : DLetter), _) => (mSignedOn e x, ()))]) prgOk (gcons h_spec_EndOk (gcons h_spec_LetterOk (gcons h_spec_SignedOn gnil))) Tryz.func149 rfl rfl rfl rfl ?_
  rintro ty ⟨(e : DEnd), (x : DLetter), _⟩ (hp : e.B)
  obtain ⟨hb1, hb2, hb3, hb4, hb5, hb6, hb7⟩ := id hp
  refine ⟨[], ?_⟩
  repeat' ((conv => whnf); first | refine toOb2 ?_ | refine And.intro (fun _ => ?_) (fun _ => ?_) | refine And.intro ?_ ?_ | refine toEx2 ?_ | refine toY ?_ | intro _)
  all_goals first | refine Ob2.mk ?_ | (show drawOk _ _ _ = true; exact rfl)
  all_goals (try simp only [allP, side, Ctr.reads, dTag_eta, dRoad_eta, dLetter_eta, dAddr_eta, dSub_eta, dHalf_eta, dPiece_eta, dPolicy_eta, dBucket_eta, dOut_eta, dPieces_eta, dEnd_eta, dKnown_eta, dWorld_eta]); all_goals repeat' (first | with_reducible exact rfl | exact trivial | with_reducible assumption | refine And.intro ?_ ?_ | exact (rfl : (_ : SV) = _) | exact (rfl : (_ : List SC) = _) | (show drawOk _ _ _ = true; exact rfl) | (show ((0 : Nat) : Int) = 0; exact rfl))
  all_goals (try simp only [Ctr.reads, dTag_eta, dRoad_eta, dLetter_eta, dAddr_eta, dSub_eta, dHalf_eta, dPiece_eta, dPolicy_eta, dBucket_eta, dOut_eta, dPieces_eta, dEnd_eta, dKnown_eta, dWorld_eta] at *)
  all_goals (try simp only [Bool.cond_true_left, Bool.cond_false_right, Bool.or_eq_false_iff, Bool.or_eq_true, Bool.and_eq_true, Bool.and_eq_false_imp, Bool.not_eq_true', Bool.not_eq_false', Bool.not_eq_eq_eq_not, Bool.not_true, Bool.not_false] at *)
  all_goals first | done | with_reducible assumption | with_reducible rfl | omega | grind [mL20On]
set_option maxHeartbeats 1000000 in
theorem h_impl_LetterOk : Ctr.holds E 113 (.reads [aLetter] [aBool] (fun _ => True) fun ((x : DLetter), _) => (mLetterOk x, ())) := by
  refine fn_ok (Γ := [(138, .reads [aInt, aInt, aInt] [aBool] (fun _ => True) fun ((n : Int), (l : Int), (h : Int), _) => (mIn n l h, ())), (255, .reads [aRow .int] [aBool] (fun ((l : List Int), _) => l.length ≤ 1073741824) fun ((l : List Int), _) => (mNums l, ()))]) prgOk (gcons h_impl_within (gcons h_impl_isNumber gnil)) Tryz.func113 rfl rfl rfl rfl ?_
  rintro ty ⟨(x : DLetter), _⟩ hp
  refine ⟨[], ?_⟩
  repeat' ((conv => whnf); first | refine toOb2 ?_ | refine And.intro (fun _ => ?_) (fun _ => ?_) | refine And.intro ?_ ?_ | refine toEx2 ?_ | refine toY ?_ | intro _)
  all_goals first | refine Ob2.mk ?_ | (show drawOk _ _ _ = true; exact rfl)
  all_goals (try simp only [allP, side, Ctr.reads, dTag_eta, dRoad_eta, dLetter_eta, dAddr_eta, dSub_eta, dHalf_eta, dPiece_eta, dPolicy_eta, dBucket_eta, dOut_eta, dPieces_eta, dEnd_eta, dKnown_eta, dWorld_eta]); all_goals repeat' (first | with_reducible exact rfl | exact trivial | with_reducible assumption | refine And.intro ?_ ?_ | exact (rfl : (_ : SV) = _) | exact (rfl : (_ : List SC) = _) | (show drawOk _ _ _ = true; exact rfl) | (show ((0 : Nat) : Int) = 0; exact rfl))
  all_goals (try simp only [List.length_cons, List.length_nil, Ctr.reads, dTag_eta, dRoad_eta, dLetter_eta, dAddr_eta, dSub_eta, dHalf_eta, dPiece_eta, dPolicy_eta, dBucket_eta, dOut_eta, dPieces_eta, dEnd_eta, dKnown_eta, dWorld_eta] at *)
  all_goals (try simp only [Bool.cond_true_left, Bool.cond_false_right, Bool.or_eq_false_iff, Bool.or_eq_true, Bool.and_eq_true, Bool.and_eq_false_imp, Bool.not_eq_true', Bool.not_eq_false', Bool.not_eq_eq_eq_not, Bool.not_true, Bool.not_false] at *)
  all_goals (try simp only [mLetterOk, lNums] at *)
  all_goals first | done | with_reducible assumption | with_reducible rfl | omega | grind [mLetterOk, lNums]
set_option maxHeartbeats 1000000 in
theorem h_spec_l18Room : Ctr.holds E 141 (.reads [aEnd, aInt] [aBool] (fun ((e : DEnd), (n : Int), _) => n = 2) fun ((e : DEnd), (n : Int), _) => (mRoom e, ())) := by
  refine fn_ok (Γ := [(136, .reads [aInt, aInt, aInt] [aBool] (fun _ => True) fun ((n : Int), (l : Int), (h : Int), _) => (mIn n l h, ()))]) prgOk (gcons h_spec_l01In gnil) Tryz.func141 rfl rfl rfl rfl ?_
  rintro ty ⟨(e : DEnd), (n : Int), _⟩ hp
  obtain rfl : n = 2 := hp
  refine ⟨[], ?_⟩
  repeat' ((conv => whnf); first | refine toOb2 ?_ | refine And.intro (fun _ => ?_) (fun _ => ?_) | refine And.intro ?_ ?_ | refine toEx2 ?_ | refine toY ?_ | intro _)
  all_goals first | refine Ob2.mk ?_ | (show drawOk _ _ _ = true; exact rfl)
  all_goals (try simp only [allP, side, Ctr.reads, dTag_eta, dRoad_eta, dLetter_eta, dAddr_eta, dSub_eta, dHalf_eta, dPiece_eta, dPolicy_eta, dBucket_eta, dOut_eta, dPieces_eta, dEnd_eta, dKnown_eta, dWorld_eta]); all_goals repeat' (first | with_reducible exact rfl | exact trivial | with_reducible assumption | refine And.intro ?_ ?_ | exact (rfl : (_ : SV) = _) | exact (rfl : (_ : List SC) = _) | (show drawOk _ _ _ = true; exact rfl) | (show ((0 : Nat) : Int) = 0; exact rfl))
  all_goals (try simp only [(by decide : w64 (1000000000 - w64 (2 * 2)) = 999999996), Ctr.reads, dTag_eta, dRoad_eta, dLetter_eta, dAddr_eta, dSub_eta, dHalf_eta, dPiece_eta, dPolicy_eta, dBucket_eta, dOut_eta, dPieces_eta, dEnd_eta, dKnown_eta, dWorld_eta] at *)
  all_goals (try simp only [Bool.cond_true_left, Bool.cond_false_right, Bool.or_eq_false_iff, Bool.or_eq_true, Bool.and_eq_true, Bool.and_eq_false_imp, Bool.not_eq_true', Bool.not_eq_false', Bool.not_eq_eq_eq_not, Bool.not_true, Bool.not_false] at *)
  all_goals first | done | with_reducible assumption | with_reducible rfl | omega | grind [mRoom]
set_option maxHeartbeats 1000000 in
theorem h_spec_l18Draw : Ctr.holds E 142 (.reads [aEnd] [aEnd, aInt] (fun ((e : DEnd), _) => e.B) fun ((e : DEnd), _) => ((mDrawn e).1, (mDrawn e).2, ())) := by
  refine fn_ok (Γ := [(267, .reads [aEnd] [aEnd, aInt] (fun ((e : DEnd), _) => e.B) fun ((e : DEnd), _) => ((mDrawn e).1, (mDrawn e).2, ()))]) prgOk (gcons h_spec_Drawn gnil) Tryz.func142 rfl rfl rfl rfl ?_
  rintro ty ⟨(e : DEnd), _⟩ (hp : e.B)
  have hB := hp
  obtain ⟨hb1, hb2, hb3, hb4, hb5, hb6, hb7⟩ := hp
  refine ⟨[], ?_⟩
  repeat' ((conv => whnf); first | refine toOb2 ?_ | refine And.intro (fun _ => ?_) (fun _ => ?_) | refine And.intro ?_ ?_ | refine toEx2 ?_ | refine toY ?_ | intro _)
  all_goals first | refine Ob2.mk ?_ | (show drawOk _ _ _ = true; exact rfl)
  all_goals (try simp only [allP, side, Ctr.reads, dTag_eta, dRoad_eta, dLetter_eta, dAddr_eta, dSub_eta, dHalf_eta, dPiece_eta, dPolicy_eta, dBucket_eta, dOut_eta, dPieces_eta, dEnd_eta, dKnown_eta, dWorld_eta]); all_goals repeat' (first | with_reducible exact rfl | exact trivial | with_reducible assumption | refine And.intro ?_ ?_ | exact (rfl : (_ : SV) = _) | exact (rfl : (_ : List SC) = _) | (show drawOk _ _ _ = true; exact rfl) | (show ((0 : Nat) : Int) = 0; exact rfl))
  all_goals (try simp only [Ctr.reads, dTag_eta, dRoad_eta, dLetter_eta, dAddr_eta, dSub_eta, dHalf_eta, dPiece_eta, dPolicy_eta, dBucket_eta, dOut_eta, dPieces_eta, dEnd_eta, dKnown_eta, dWorld_eta] at *)
  all_goals (try simp only [Bool.cond_true_left, Bool.cond_false_right, Bool.or_eq_false_iff, Bool.or_eq_true, Bool.and_eq_true, Bool.and_eq_false_imp, Bool.not_eq_true', Bool.not_eq_false', Bool.not_eq_eq_eq_not, Bool.not_true, Bool.not_false] at *)
  all_goals first | done | with_reducible assumption | with_reducible rfl | omega | grind [mDrawn]
set_option maxHeartbeats 1000000 in
theorem h_spec_l18Far : Ctr.holds E 153 (.reads [aInt] [aRow .addr] (fun ((a : Int), _) => True) fun ((a : Int), _) => (mMet a, ())) := by
  refine fn_ok (Γ := []) prgOk gnil Tryz.func153 rfl rfl rfl rfl ?_
  rintro ty ⟨(a : Int), _⟩ hp
  refine ⟨[], ?_⟩
  repeat' ((conv => whnf); first | refine toOb2 ?_ | refine And.intro (fun _ => ?_) (fun _ => ?_) | refine And.intro ?_ ?_ | refine toEx2 ?_ | intro _)
  all_goals first | refine Ob2.mk ?_ | (show drawOk _ _ _ = true; exact rfl)
  all_goals (try simp only [allP, side, Ctr.reads, dTag_eta, dRoad_eta, dLetter_eta, dAddr_eta, dSub_eta, dHalf_eta, dPiece_eta, dPolicy_eta, dBucket_eta, dOut_eta, dPieces_eta, dEnd_eta, dKnown_eta, dWorld_eta]); all_goals repeat' (first | with_reducible exact rfl | exact trivial | with_reducible assumption | refine And.intro ?_ ?_ | exact (rfl : (_ : SV) = _) | exact (rfl : (_ : List SC) = _) | (show drawOk _ _ _ = true; exact rfl) | (show ((0 : Nat) : Int) = 0; exact rfl))
  all_goals (try simp only [Ctr.reads, dTag_eta, dRoad_eta, dLetter_eta, dAddr_eta, dSub_eta, dHalf_eta, dPiece_eta, dPolicy_eta, dBucket_eta, dOut_eta, dPieces_eta, dEnd_eta, dKnown_eta, dWorld_eta] at *)
  all_goals first | done | with_reducible assumption | with_reducible rfl | grind [mMet]
set_option maxHeartbeats 1000000 in
theorem h_spec_l18Sub : Ctr.holds E 143 (⟨[aEnd, aSub], [.own, .ro], [aEnd], (fun ((e : DEnd), _) => e.B), (fun ((e : DEnd), (s : DSub), _) => ({ e with subs := e.subs ++ [s] }, ())), fun x => x, false, .ret⟩) := by
  refine fn_ok (Γ := []) prgOk gnil Tryz.func143 rfl rfl rfl rfl ?_
  rintro ty ⟨(e : DEnd), (s : DSub), _⟩ (hp : e.B)
  obtain ⟨hb1, hb2, hb3, hb4, hb5, hb6, hb7⟩ := id hp
  refine ⟨[], ?_⟩
  repeat' ((conv => whnf); first | refine toOb2 ?_ | refine And.intro (fun _ => ?_) (fun _ => ?_) | refine And.intro ?_ ?_ | refine toEx2 ?_ | intro _)
  all_goals first | refine Ob2.mk ?_ | (show drawOk _ _ _ = true; exact rfl)
  all_goals (try simp only [allP, side, Ctr.reads, dTag_eta, dRoad_eta, dLetter_eta, dAddr_eta, dSub_eta, dHalf_eta, dPiece_eta, dPolicy_eta, dBucket_eta, dOut_eta, dPieces_eta, dEnd_eta, dKnown_eta, dWorld_eta]); all_goals repeat' (first | with_reducible exact rfl | exact trivial | with_reducible assumption | refine And.intro ?_ ?_ | exact (rfl : (_ : SV) = _) | exact (rfl : (_ : List SC) = _) | (show drawOk _ _ _ = true; exact rfl) | (show ((0 : Nat) : Int) = 0; exact rfl))
  all_goals (try simp only [ETy.frm, dTag_beq, List.set_set, List.length_set, List.nil_append, Ctr.reads, dTag_eta, dRoad_eta, dLetter_eta, dAddr_eta, dSub_eta, dHalf_eta, dPiece_eta, dPolicy_eta, dBucket_eta, dOut_eta, dPieces_eta, dEnd_eta, dKnown_eta, dWorld_eta] at *)
  all_goals (try simp only [Bool.cond_true_left, Bool.cond_false_right, Bool.or_eq_false_iff, Bool.or_eq_true, Bool.and_eq_true, Bool.and_eq_false_imp, Bool.not_eq_true', Bool.not_eq_false', Bool.not_eq_eq_eq_not, Bool.not_true, Bool.not_false] at *)
  all_goals first | done | with_reducible assumption | with_reducible rfl | omega | grind []
set_option maxHeartbeats 1000000 in
theorem h_spec_HearHello : Ctr.holds E 64 (.reads [aEnd, aLetter] [aEnd, aRow .letter] (fun ((e : DEnd), (x : DLetter), _) => e.B) fun ((e : DEnd), (x : DLetter), _) => ((mHearHello e x).1, (mHearHello e x).2, ())) := by
  refine fn_ok (Γ := [(103, .reads [aEnd] [aEnd] (fun ((e : DEnd), _) => e.B) fun (e, _) => (e, ())), (100, .reads [aEnd] [aBool] (fun ((e : DEnd), _) => e.B) fun ((e : DEnd), _) => (mEndOk e, ())), (101, .reads [aLetter] [aBool] (fun _ => True) fun ((x : DLetter), _) => (mLetterOk x, ())), (102, .reads [aEnd, aInt] [aBool] (fun ((e : DEnd), _) => e.B) fun ((e : DEnd), (a : Int), _) => (mOwns e a, ())), (136, .reads [aInt, aInt, aInt] [aBool] (fun _ => True) fun ((n : Int), (l : Int), (h : Int), _) => (mIn n l h, ())), (147, .reads [aLetter] [aRoad] (fun _ => True) fun ((x : DLetter), _) => (mRoadOf x, ())), (140, .reads [aEnd, aRoad] [aInt] (fun ((e : DEnd), _) => e.B) fun ((e : DEnd), (r : DRoad), _) => (mSubAt e r, ())), (141, .reads [aEnd, aInt] [aBool] (fun ((e : DEnd), (n : Int), _) => n = 2) fun ((e : DEnd), (n : Int), _) => (mRoom e, ())), (142, .reads [aEnd] [aEnd, aInt] (fun ((e : DEnd), _) => e.B) fun ((e : DEnd), _) => ((mDrawn e).1, (mDrawn e).2, ())), (153, .reads [aInt] [aRow .addr] (fun ((a : Int), _) => True) fun ((a : Int), _) => (mMet a, ())), (143, ⟨[aEnd, aSub], [.own, .ro], [aEnd], (fun ((e : DEnd), _) => e.B), (fun ((e : DEnd), (s : DSub), _) => ({ e with subs := e.subs ++ [s] }, ())), fun x => x, false, .ret⟩), (137, .reads [aRoad, aLetter] [aLetter] (fun _ => True) fun ((r : DRoad), (x : DLetter), _) => (mBetween r x, ()))]) prgOk (gcons h_spec_l17Copy (gcons h_spec_EndOk (gcons h_spec_LetterOk (gcons h_spec_OwnsAddr (gcons h_spec_l01In (gcons h_spec_RoadOf (gcons h_spec_SubAt (gcons h_spec_l18Room (gcons h_spec_l18Draw (gcons h_spec_l18Far (gcons h_spec_l18Sub (gcons h_spec_Between gnil)))))))))))) Tryz.func64 rfl rfl rfl rfl ?_
  rintro ty ⟨(e : DEnd), (x : DLetter), _⟩ (hp : e.B)
  obtain ⟨hb1, hb2, hb3, hb4, hb5, hb6, hb7⟩ := id hp
  have hsb := mSubAt_bd e (mRoadOf x)
  have h8 := fun h : mEndOk e = true => (endOk_split h).2.2.1
  have hnm := fun h : mEndOk e = true => endOk_nums h
  have hrm := fun h : mRoom e = true => room_bd h
  refine ⟨[], ?_⟩
  repeat' ((conv => whnf); first | refine toOb2 ?_ | refine And.intro (fun _ => ?_) (fun _ => ?_) | refine And.intro ?_ ?_ | refine toEx2 ?_ | refine toY ?_ | intro _)
  all_goals first | refine Ob2.mk ?_ | (show drawOk _ _ _ = true; exact rfl)
  all_goals (try simp only [allP, side, Ctr.reads, dTag_eta, dRoad_eta, dLetter_eta, dAddr_eta, dSub_eta, dHalf_eta, dPiece_eta, dPolicy_eta, dBucket_eta, dOut_eta, dPieces_eta, dEnd_eta, dKnown_eta, dWorld_eta]); all_goals repeat' (first | with_reducible exact rfl | exact trivial | with_reducible assumption | refine And.intro ?_ ?_ | exact (rfl : (_ : SV) = _) | exact (rfl : (_ : List SC) = _) | (show drawOk _ _ _ = true; exact rfl) | (show ((0 : Nat) : Int) = 0; exact rfl))
  all_goals (try simp only [ETy.frm, dTag_beq, List.set_set, List.length_set, List.nil_append, Ctr.reads, dTag_eta, dRoad_eta, dLetter_eta, dAddr_eta, dSub_eta, dHalf_eta, dPiece_eta, dPolicy_eta, dBucket_eta, dOut_eta, dPieces_eta, dEnd_eta, dKnown_eta, dWorld_eta] at *)
  all_goals (try simp only [Bool.cond_true_left, Bool.cond_false_right, Bool.or_eq_false_iff, Bool.or_eq_true, Bool.and_eq_true, Bool.and_eq_false_imp, Bool.not_eq_true', Bool.not_eq_false', Bool.not_eq_eq_eq_not, Bool.not_true, Bool.not_false] at *)
  all_goals (try simp only [decide_eq_true_eq, decide_eq_false_iff_not] at *)
  all_goals (try simp (disch := omega) only [w64_id] at *)
  all_goals (try simp (disch := omega) only [w64_id] at *)
  all_goals first | done | with_reducible assumption | with_reducible rfl | omega | grind [mHearHello, mDrawn, mIn, mMet, ltr, mBetween, setSub, gSub]
set_option maxHeartbeats 1000000 in
theorem h_spec_HearBack : Ctr.holds E 51 (.reads [aEnd, aLetter] [aEnd, aRow .letter] (fun ((e : DEnd), (x : DLetter), _) => e.B) fun ((e : DEnd), (x : DLetter), _) => ((mHearBack e x).1, (mHearBack e x).2, ())) := by
  refine fn_ok (Γ := [(103, .reads [aEnd] [aEnd] (fun ((e : DEnd), _) => e.B) fun (e, _) => (e, ())), (147, .reads [aLetter] [aRoad] (fun _ => True) fun ((x : DLetter), _) => (mRoadOf x, ())), (140, .reads [aEnd, aRoad] [aInt] (fun ((e : DEnd), _) => e.B) fun ((e : DEnd), (r : DRoad), _) => (mSubAt e r, ())), (100, .reads [aEnd] [aBool] (fun ((e : DEnd), _) => e.B) fun ((e : DEnd), _) => (mEndOk e, ())), (101, .reads [aLetter] [aBool] (fun _ => True) fun ((x : DLetter), _) => (mLetterOk x, ())), (136, .reads [aInt, aInt, aInt] [aBool] (fun _ => True) fun ((n : Int), (l : Int), (h : Int), _) => (mIn n l h, ())), (153, .reads [aInt] [aRow .addr] (fun ((a : Int), _) => True) fun ((a : Int), _) => (mMet a, ())), (137, .reads [aRoad, aLetter] [aLetter] (fun _ => True) fun ((r : DRoad), (x : DLetter), _) => (mBetween r x, ()))]) prgOk (gcons h_spec_l17Copy (gcons h_spec_RoadOf (gcons h_spec_SubAt (gcons h_spec_EndOk (gcons h_spec_LetterOk (gcons h_spec_l01In (gcons h_spec_l18Far (gcons h_spec_Between gnil)))))))) Tryz.func51 rfl rfl rfl rfl ?_
  rintro ty ⟨(e : DEnd), (x : DLetter), _⟩ (hp : e.B)
  obtain ⟨hb1, hb2, hb3, hb4, hb5, hb6, hb7⟩ := id hp
  have hsb := mSubAt_bd e (mRoadOf x)
  refine ⟨[], ?_⟩
  repeat' ((conv => whnf); first | refine toOb2 ?_ | refine And.intro (fun _ => ?_) (fun _ => ?_) | refine And.intro ?_ ?_ | refine toEx2 ?_ | refine toY ?_ | intro _)
  all_goals first | refine Ob2.mk ?_ | (show drawOk _ _ _ = true; exact rfl)
  all_goals (try simp only [allP, side, Ctr.reads, dTag_eta, dRoad_eta, dLetter_eta, dAddr_eta, dSub_eta, dHalf_eta, dPiece_eta, dPolicy_eta, dBucket_eta, dOut_eta, dPieces_eta, dEnd_eta, dKnown_eta, dWorld_eta]); all_goals repeat' (first | with_reducible exact rfl | exact trivial | with_reducible assumption | refine And.intro ?_ ?_ | exact (rfl : (_ : SV) = _) | exact (rfl : (_ : List SC) = _) | (show drawOk _ _ _ = true; exact rfl) | (show ((0 : Nat) : Int) = 0; exact rfl))
  all_goals (try simp only [ETy.frm, dTag_beq, List.set_set, List.length_set, List.nil_append, Ctr.reads, dTag_eta, dRoad_eta, dLetter_eta, dAddr_eta, dSub_eta, dHalf_eta, dPiece_eta, dPolicy_eta, dBucket_eta, dOut_eta, dPieces_eta, dEnd_eta, dKnown_eta, dWorld_eta] at *)
  all_goals (try simp only [Bool.cond_true_left, Bool.cond_false_right, Bool.or_eq_false_iff, Bool.or_eq_true, Bool.and_eq_true, Bool.and_eq_false_imp, Bool.not_eq_true', Bool.not_eq_false', Bool.not_eq_eq_eq_not, Bool.not_true, Bool.not_false] at *)
  all_goals (try simp only [decide_eq_true_eq, decide_eq_false_iff_not] at *)
  all_goals (try simp (disch := first | assumption | omega | (simp only [List.length_set]; omega)) only [set_get, List.set_set, ETy.frm, dTag_eta, dRoad_eta, dLetter_eta, dAddr_eta, dSub_eta, dHalf_eta, dPiece_eta, dPolicy_eta, dBucket_eta, dOut_eta, dPieces_eta, dEnd_eta, dKnown_eta, dWorld_eta] at *)
  all_goals first | done | with_reducible assumption | with_reducible rfl | omega | grind [mHearBack, ltr, mBetween, setSub, gSub, mMet]
set_option maxHeartbeats 1000000 in
theorem h_spec_TagBack : Ctr.holds E 163 (.reads [aInt, aInt, aInt, aInt] [aTag] (fun ((m : Int), (t : Int), (a : Int), (b : Int), _) => True) fun ((m : Int), (t : Int), (a : Int), (b : Int), _) => (mTagBack m t a b, ())) := by
  refine fn_ok (Γ := []) prgOk gnil Tryz.func163 rfl rfl rfl rfl ?_
  rintro ty ⟨(m : Int), (t : Int), (a : Int), (b : Int), _⟩ hp
  refine ⟨[], ?_⟩
  repeat' ((conv => whnf); first | refine toOb2 ?_ | refine And.intro (fun _ => ?_) (fun _ => ?_) | refine And.intro ?_ ?_ | refine toEx2 ?_ | intro _)
  all_goals first | refine Ob2.mk ?_ | (show drawOk _ _ _ = true; exact rfl)
  all_goals (try simp only [allP, side, Ctr.reads, dTag_eta, dRoad_eta, dLetter_eta, dAddr_eta, dSub_eta, dHalf_eta, dPiece_eta, dPolicy_eta, dBucket_eta, dOut_eta, dPieces_eta, dEnd_eta, dKnown_eta, dWorld_eta]); all_goals repeat' (first | with_reducible exact rfl | exact trivial | with_reducible assumption | refine And.intro ?_ ?_ | exact (rfl : (_ : SV) = _) | exact (rfl : (_ : List SC) = _) | (show drawOk _ _ _ = true; exact rfl) | (show ((0 : Nat) : Int) = 0; exact rfl))
  all_goals (try simp only [Ctr.reads, dTag_eta, dRoad_eta, dLetter_eta, dAddr_eta, dSub_eta, dHalf_eta, dPiece_eta, dPolicy_eta, dBucket_eta, dOut_eta, dPieces_eta, dEnd_eta, dKnown_eta, dWorld_eta] at *)
  all_goals first | done | with_reducible assumption | with_reducible rfl | grind [mTagBack]
set_option maxHeartbeats 1000000 in
theorem h_spec_TagDone : Ctr.holds E 181 (.reads [aInt, aInt, aInt, aInt] [aTag] (fun ((m : Int), (t : Int), (a : Int), (b : Int), _) => True) fun ((m : Int), (t : Int), (a : Int), (b : Int), _) => (mTagDone m t a b, ())) := by
  refine fn_ok (Γ := []) prgOk gnil Tryz.func181 rfl rfl rfl rfl ?_
  rintro ty ⟨(m : Int), (t : Int), (a : Int), (b : Int), _⟩ hp
  refine ⟨[], ?_⟩
  repeat' ((conv => whnf); first | refine toOb2 ?_ | refine And.intro (fun _ => ?_) (fun _ => ?_) | refine And.intro ?_ ?_ | refine toEx2 ?_ | intro _)
  all_goals first | refine Ob2.mk ?_ | (show drawOk _ _ _ = true; exact rfl)
  all_goals (try simp only [allP, side, Ctr.reads, dTag_eta, dRoad_eta, dLetter_eta, dAddr_eta, dSub_eta, dHalf_eta, dPiece_eta, dPolicy_eta, dBucket_eta, dOut_eta, dPieces_eta, dEnd_eta, dKnown_eta, dWorld_eta]); all_goals repeat' (first | with_reducible exact rfl | exact trivial | with_reducible assumption | refine And.intro ?_ ?_ | exact (rfl : (_ : SV) = _) | exact (rfl : (_ : List SC) = _) | (show drawOk _ _ _ = true; exact rfl) | (show ((0 : Nat) : Int) = 0; exact rfl))
  all_goals (try simp only [Ctr.reads, dTag_eta, dRoad_eta, dLetter_eta, dAddr_eta, dSub_eta, dHalf_eta, dPiece_eta, dPolicy_eta, dBucket_eta, dOut_eta, dPieces_eta, dEnd_eta, dKnown_eta, dWorld_eta] at *)
  all_goals first | done | with_reducible assumption | with_reducible rfl | grind [mTagDone]
set_option maxHeartbeats 1000000 in
theorem h_spec_l19Proves : Ctr.holds E 164 (.reads [aEnd, aSub] [aLetter] (fun ((e : DEnd), (s : DSub), _) => True) fun ((e : DEnd), (s : DSub), _) => (mDoneLetter e s, ())) := by
  refine fn_ok (Γ := [(181, .reads [aInt, aInt, aInt, aInt] [aTag] (fun ((m : Int), (t : Int), (a : Int), (b : Int), _) => True) fun ((m : Int), (t : Int), (a : Int), (b : Int), _) => (mTagDone m t a b, ())), (137, .reads [aRoad, aLetter] [aLetter] (fun _ => True) fun ((r : DRoad), (x : DLetter), _) => (mBetween r x, ()))]) prgOk (gcons h_spec_TagDone (gcons h_spec_Between gnil)) Tryz.func164 rfl rfl rfl rfl ?_
  rintro ty ⟨(e : DEnd), (s : DSub), _⟩ hp
  refine ⟨[], ?_⟩
  repeat' ((conv => whnf); first | refine toOb2 ?_ | refine And.intro (fun _ => ?_) (fun _ => ?_) | refine And.intro ?_ ?_ | refine toEx2 ?_ | refine toY ?_ | intro _)
  all_goals first | refine Ob2.mk ?_ | (show drawOk _ _ _ = true; exact rfl)
  all_goals (try simp only [allP, side, Ctr.reads, dTag_eta, dRoad_eta, dLetter_eta, dAddr_eta, dSub_eta, dHalf_eta, dPiece_eta, dPolicy_eta, dBucket_eta, dOut_eta, dPieces_eta, dEnd_eta, dKnown_eta, dWorld_eta]); all_goals repeat' (first | with_reducible exact rfl | exact trivial | with_reducible assumption | refine And.intro ?_ ?_ | exact (rfl : (_ : SV) = _) | exact (rfl : (_ : List SC) = _) | (show drawOk _ _ _ = true; exact rfl) | (show ((0 : Nat) : Int) = 0; exact rfl))
  all_goals (try simp only [Ctr.reads, dTag_eta, dRoad_eta, dLetter_eta, dAddr_eta, dSub_eta, dHalf_eta, dPiece_eta, dPolicy_eta, dBucket_eta, dOut_eta, dPieces_eta, dEnd_eta, dKnown_eta, dWorld_eta] at *)
  all_goals (try simp only [Bool.cond_true_left, Bool.cond_false_right, Bool.or_eq_false_iff, Bool.or_eq_true, Bool.and_eq_true, Bool.and_eq_false_imp, Bool.not_eq_true', Bool.not_eq_false', Bool.not_eq_eq_eq_not, Bool.not_true, Bool.not_false] at *)
  all_goals first | done | with_reducible assumption | with_reducible rfl | omega | grind [mDoneLetter, mTagDone, ltr, mBetween]
set_option maxHeartbeats 1000000 in
theorem h_spec_HearJoinBack : Ctr.holds E 58 (.reads [aEnd, aLetter] [aEnd, aRow .letter] (fun ((e : DEnd), (x : DLetter), _) => e.B) fun ((e : DEnd), (x : DLetter), _) => ((mHearJoinBack e x).1, (mHearJoinBack e x).2, ())) := by
  refine fn_ok (Γ := [(103, .reads [aEnd] [aEnd] (fun ((e : DEnd), _) => e.B) fun (e, _) => (e, ())), (147, .reads [aLetter] [aRoad] (fun _ => True) fun ((x : DLetter), _) => (mRoadOf x, ())), (140, .reads [aEnd, aRoad] [aInt] (fun ((e : DEnd), _) => e.B) fun ((e : DEnd), (r : DRoad), _) => (mSubAt e r, ())), (100, .reads [aEnd] [aBool] (fun ((e : DEnd), _) => e.B) fun ((e : DEnd), _) => (mEndOk e, ())), (101, .reads [aLetter] [aBool] (fun _ => True) fun ((x : DLetter), _) => (mLetterOk x, ())), (163, .reads [aInt, aInt, aInt, aInt] [aTag] (fun ((m : Int), (t : Int), (a : Int), (b : Int), _) => True) fun ((m : Int), (t : Int), (a : Int), (b : Int), _) => (mTagBack m t a b, ())), (164, .reads [aEnd, aSub] [aLetter] (fun ((e : DEnd), (s : DSub), _) => True) fun ((e : DEnd), (s : DSub), _) => (mDoneLetter e s, ()))]) prgOk (gcons h_spec_l17Copy (gcons h_spec_RoadOf (gcons h_spec_SubAt (gcons h_spec_EndOk (gcons h_spec_LetterOk (gcons h_spec_TagBack (gcons h_spec_l19Proves gnil))))))) Tryz.func58 rfl rfl rfl rfl ?_
  rintro ty ⟨(e : DEnd), (x : DLetter), _⟩ (hp : e.B)
  obtain ⟨hb1, hb2, hb3, hb4, hb5, hb6, hb7⟩ := id hp
  have hsb := mSubAt_bd e (mRoadOf x)
  refine ⟨[], ?_⟩
  repeat' ((conv => whnf); first | refine toOb2 ?_ | refine And.intro (fun _ => ?_) (fun _ => ?_) | refine And.intro ?_ ?_ | refine toEx2 ?_ | refine toY ?_ | intro _)
  all_goals first | refine Ob2.mk ?_ | (show drawOk _ _ _ = true; exact rfl)
  all_goals (try simp only [allP, side, Ctr.reads, dTag_eta, dRoad_eta, dLetter_eta, dAddr_eta, dSub_eta, dHalf_eta, dPiece_eta, dPolicy_eta, dBucket_eta, dOut_eta, dPieces_eta, dEnd_eta, dKnown_eta, dWorld_eta]); all_goals repeat' (first | with_reducible exact rfl | exact trivial | with_reducible assumption | refine And.intro ?_ ?_ | exact (rfl : (_ : SV) = _) | exact (rfl : (_ : List SC) = _) | (show drawOk _ _ _ = true; exact rfl) | (show ((0 : Nat) : Int) = 0; exact rfl))
  all_goals (try simp only [ETy.frm, dTag_beq, List.set_set, List.length_set, List.nil_append, Ctr.reads, dTag_eta, dRoad_eta, dLetter_eta, dAddr_eta, dSub_eta, dHalf_eta, dPiece_eta, dPolicy_eta, dBucket_eta, dOut_eta, dPieces_eta, dEnd_eta, dKnown_eta, dWorld_eta] at *)
  all_goals (try simp only [Bool.cond_true_left, Bool.cond_false_right, Bool.or_eq_false_iff, Bool.or_eq_true, Bool.and_eq_true, Bool.and_eq_false_imp, Bool.not_eq_true', Bool.not_eq_false', Bool.not_eq_eq_eq_not, Bool.not_true, Bool.not_false] at *)
  all_goals (try simp only [decide_eq_true_eq, decide_eq_false_iff_not] at *)
  all_goals (try simp (disch := first | assumption | omega | (simp only [List.length_set]; omega)) only [set_get, List.set_set, ETy.frm, dTag_eta, dRoad_eta, dLetter_eta, dAddr_eta, dSub_eta, dHalf_eta, dPiece_eta, dPolicy_eta, dBucket_eta, dOut_eta, dPieces_eta, dEnd_eta, dKnown_eta, dWorld_eta] at *)
  all_goals first | done | with_reducible assumption | with_reducible rfl | omega | grind [mHearJoinBack, ltr, mBetween, setSub, gSub, mDoneLetter, mTagBack, mTagDone]
set_option maxHeartbeats 1000000 in
theorem h_spec_l19Ack : Ctr.holds E 183 (.reads [aSub] [aLetter] (fun ((s : DSub), _) => True) fun ((s : DSub), _) => (mAck s.road s.give, ())) := by
  refine fn_ok (Γ := [(137, .reads [aRoad, aLetter] [aLetter] (fun _ => True) fun ((r : DRoad), (x : DLetter), _) => (mBetween r x, ()))]) prgOk (gcons h_spec_Between gnil) Tryz.func183 rfl rfl rfl rfl ?_
  rintro ty ⟨(s : DSub), _⟩ hp
  refine ⟨[], ?_⟩
  repeat' ((conv => whnf); first | refine toOb2 ?_ | refine And.intro (fun _ => ?_) (fun _ => ?_) | refine And.intro ?_ ?_ | refine toEx2 ?_ | refine toY ?_ | intro _)
  all_goals first | refine Ob2.mk ?_ | (show drawOk _ _ _ = true; exact rfl)
  all_goals (try simp only [allP, side, Ctr.reads, dTag_eta, dRoad_eta, dLetter_eta, dAddr_eta, dSub_eta, dHalf_eta, dPiece_eta, dPolicy_eta, dBucket_eta, dOut_eta, dPieces_eta, dEnd_eta, dKnown_eta, dWorld_eta]); all_goals repeat' (first | with_reducible exact rfl | exact trivial | with_reducible assumption | refine And.intro ?_ ?_ | exact (rfl : (_ : SV) = _) | exact (rfl : (_ : List SC) = _) | (show drawOk _ _ _ = true; exact rfl) | (show ((0 : Nat) : Int) = 0; exact rfl))
  all_goals (try simp only [Ctr.reads, dTag_eta, dRoad_eta, dLetter_eta, dAddr_eta, dSub_eta, dHalf_eta, dPiece_eta, dPolicy_eta, dBucket_eta, dOut_eta, dPieces_eta, dEnd_eta, dKnown_eta, dWorld_eta] at *)
  all_goals (try simp only [Bool.cond_true_left, Bool.cond_false_right, Bool.or_eq_false_iff, Bool.or_eq_true, Bool.and_eq_true, Bool.and_eq_false_imp, Bool.not_eq_true', Bool.not_eq_false', Bool.not_eq_eq_eq_not, Bool.not_true, Bool.not_false] at *)
  all_goals first | done | with_reducible assumption | with_reducible rfl | omega | grind [mAck, ltr, mBetween]
set_option maxHeartbeats 1000000 in
theorem h_spec_HearJoinAck : Ctr.holds E 45 (.reads [aEnd, aLetter] [aEnd, aRow .letter] (fun ((e : DEnd), (x : DLetter), _) => e.B) fun ((e : DEnd), (x : DLetter), _) => ((mHearJoinAck e x).1, (mHearJoinAck e x).2, ())) := by
  refine fn_ok (Γ := [(103, .reads [aEnd] [aEnd] (fun ((e : DEnd), _) => e.B) fun (e, _) => (e, ())), (147, .reads [aLetter] [aRoad] (fun _ => True) fun ((x : DLetter), _) => (mRoadOf x, ())), (140, .reads [aEnd, aRoad] [aInt] (fun ((e : DEnd), _) => e.B) fun ((e : DEnd), (r : DRoad), _) => (mSubAt e r, ())), (100, .reads [aEnd] [aBool] (fun ((e : DEnd), _) => e.B) fun ((e : DEnd), _) => (mEndOk e, ())), (101, .reads [aLetter] [aBool] (fun _ => True) fun ((x : DLetter), _) => (mLetterOk x, ()))]) prgOk (gcons h_spec_l17Copy (gcons h_spec_RoadOf (gcons h_spec_SubAt (gcons h_spec_EndOk (gcons h_spec_LetterOk gnil))))) Tryz.func45 rfl rfl rfl rfl ?_
  rintro ty ⟨(e : DEnd), (x : DLetter), _⟩ (hp : e.B)
  obtain ⟨hb1, hb2, hb3, hb4, hb5, hb6, hb7⟩ := id hp
  have hsb := mSubAt_bd e (mRoadOf x)
  refine ⟨[], ?_⟩
  repeat' ((conv => whnf); first | refine toOb2 ?_ | refine And.intro (fun _ => ?_) (fun _ => ?_) | refine And.intro ?_ ?_ | refine toEx2 ?_ | refine toY ?_ | intro _)
  all_goals first | refine Ob2.mk ?_ | (show drawOk _ _ _ = true; exact rfl)
  all_goals (try simp only [allP, side, Ctr.reads, dTag_eta, dRoad_eta, dLetter_eta, dAddr_eta, dSub_eta, dHalf_eta, dPiece_eta, dPolicy_eta, dBucket_eta, dOut_eta, dPieces_eta, dEnd_eta, dKnown_eta, dWorld_eta]); all_goals repeat' (first | with_reducible exact rfl | exact trivial | with_reducible assumption | refine And.intro ?_ ?_ | exact (rfl : (_ : SV) = _) | exact (rfl : (_ : List SC) = _) | (show drawOk _ _ _ = true; exact rfl) | (show ((0 : Nat) : Int) = 0; exact rfl))
  all_goals (try simp only [ETy.frm, dTag_beq, List.set_set, List.length_set, List.nil_append, Ctr.reads, dTag_eta, dRoad_eta, dLetter_eta, dAddr_eta, dSub_eta, dHalf_eta, dPiece_eta, dPolicy_eta, dBucket_eta, dOut_eta, dPieces_eta, dEnd_eta, dKnown_eta, dWorld_eta] at *)
  all_goals (try simp only [Bool.cond_true_left, Bool.cond_false_right, Bool.or_eq_false_iff, Bool.or_eq_true, Bool.and_eq_true, Bool.and_eq_false_imp, Bool.not_eq_true', Bool.not_eq_false', Bool.not_eq_eq_eq_not, Bool.not_true, Bool.not_false] at *)
  all_goals first | done | with_reducible assumption | with_reducible rfl | omega | grind [mHearJoinAck, ltr, mBetween, setSub, gSub]
set_option maxHeartbeats 1000000 in
theorem h_spec_HearAddr : Ctr.holds E 70 (.reads [aEnd, aLetter] [aEnd, aRow .letter] (fun ((e : DEnd), (x : DLetter), _) => e.B) fun ((e : DEnd), (x : DLetter), _) => ((mHearAddr e x).1, (mHearAddr e x).2, ())) := by
  refine fn_ok (Γ := [(103, .reads [aEnd] [aEnd] (fun ((e : DEnd), _) => e.B) fun (e, _) => (e, ())), (149, .reads [aEnd, aLetter] [aInt] (fun ((e : DEnd), (x : DLetter), _) => e.B) fun ((e : DEnd), (x : DLetter), _) => (mL20On e x, ())), (188, .reads [aInt, aInt, aInt, aInt] [aTag] (fun ((m : Int), (t : Int), (i : Int), (a : Int), _) => True) fun ((m : Int), (t : Int), (i : Int), (a : Int), _) => (mTagAddr m t i a, ())), (189, .reads [aRow .int, aInt] [aBool] (fun ((l : List Int), _) => l.length ≤ 1073741824) fun ((l : List Int), (n : Int), _) => (mHas l n, ())), (151, .reads [aRow .addr, aInt] [aInt] (fun ((l : List DAddr), _) => l.length ≤ 1073741824) fun ((l : List DAddr), (n : Int), _) => (mAddrAt l n, ())), (190, .reads [aRow .addr, aAddr] [aRow .addr, aBool] (fun ((l : List DAddr), _) => l.length ≤ 1073741823) fun ((l : List DAddr), (a : DAddr), _) => ((mPutAddr l a).1, (mPutAddr l a).2, ())), (147, .reads [aLetter] [aRoad] (fun _ => True) fun ((x : DLetter), _) => (mRoadOf x, ())), (137, .reads [aRoad, aLetter] [aLetter] (fun _ => True) fun ((r : DRoad), (x : DLetter), _) => (mBetween r x, ()))]) prgOk (gcons h_spec_l17Copy (gcons h_spec_l20On (gcons h_spec_TagAddr (gcons h_spec_l15Has (gcons h_spec_AddrAt (gcons h_spec_PutAddr (gcons h_spec_RoadOf (gcons h_spec_Between gnil)))))))) Tryz.func70 rfl rfl rfl rfl ?_
  rintro ty ⟨(e : DEnd), (x : DLetter), _⟩ (hp : e.B)
  obtain ⟨hb1, hb2, hb3, hb4, hb5, hb6, hb7⟩ := id hp
  have hgb := mSignedOn_bd e x
  have hat := mAddrAt_bd e.far x.id
  have hfl := fun h : mEndOk e = true => mAddrsOk_len (endOk_parts h).2.1
  refine ⟨[], ?_⟩
  repeat' ((conv => whnf); first | refine toOb2 ?_ | refine And.intro (fun _ => ?_) (fun _ => ?_) | refine And.intro ?_ ?_ | refine toEx2 ?_ | refine toY ?_ | intro _)
  all_goals first | refine Ob2.mk ?_ | (show drawOk _ _ _ = true; exact rfl)
  all_goals (try simp only [allP, side, Ctr.reads, dTag_eta, dRoad_eta, dLetter_eta, dAddr_eta, dSub_eta, dHalf_eta, dPiece_eta, dPolicy_eta, dBucket_eta, dOut_eta, dPieces_eta, dEnd_eta, dKnown_eta, dWorld_eta]); all_goals repeat' (first | with_reducible exact rfl | exact trivial | with_reducible assumption | refine And.intro ?_ ?_ | exact (rfl : (_ : SV) = _) | exact (rfl : (_ : List SC) = _) | (show drawOk _ _ _ = true; exact rfl) | (show ((0 : Nat) : Int) = 0; exact rfl))
  all_goals (try simp only [ETy.frm, dTag_beq, List.set_set, List.length_set, List.nil_append, Ctr.reads, dTag_eta, dRoad_eta, dLetter_eta, dAddr_eta, dSub_eta, dHalf_eta, dPiece_eta, dPolicy_eta, dBucket_eta, dOut_eta, dPieces_eta, dEnd_eta, dKnown_eta, dWorld_eta] at *)
  all_goals (try simp only [Bool.cond_true_left, Bool.cond_false_right, Bool.or_eq_false_iff, Bool.or_eq_true, Bool.and_eq_true, Bool.and_eq_false_imp, Bool.not_eq_true', Bool.not_eq_false', Bool.not_eq_eq_eq_not, Bool.not_true, Bool.not_false] at *)
  all_goals first | done | with_reducible assumption | with_reducible rfl | omega | grind [mHearAddr, ltr, mBetween, setSub, gSub, mL20On, mTagAddr]
set_option maxHeartbeats 1000000 in
theorem h_spec_HearEcho : Ctr.holds E 49 (.reads [aEnd, aLetter] [aEnd, aRow .letter] (fun ((e : DEnd), (x : DLetter), _) => e.B) fun ((e : DEnd), (x : DLetter), _) => ((mHearEcho e x).1, (mHearEcho e x).2, ())) := by
  refine fn_ok (Γ := [(103, .reads [aEnd] [aEnd] (fun ((e : DEnd), _) => e.B) fun (e, _) => (e, ())), (151, .reads [aRow .addr, aInt] [aInt] (fun ((l : List DAddr), _) => l.length ≤ 1073741824) fun ((l : List DAddr), (n : Int), _) => (mAddrAt l n, ())), (149, .reads [aEnd, aLetter] [aInt] (fun ((e : DEnd), (x : DLetter), _) => e.B) fun ((e : DEnd), (x : DLetter), _) => (mL20On e x, ()))]) prgOk (gcons h_spec_l17Copy (gcons h_spec_AddrAt (gcons h_spec_l20On gnil))) Tryz.func49 rfl rfl rfl rfl ?_
  rintro ty ⟨(e : DEnd), (x : DLetter), _⟩ (hp : e.B)
  obtain ⟨hb1, hb2, hb3, hb4, hb5, hb6, hb7⟩ := id hp
  have hgb := mSignedOn_bd e x
  have hab := mAddrAt_bd e.own x.id
  refine ⟨[], ?_⟩
  repeat' ((conv => whnf); first | refine toOb2 ?_ | refine And.intro (fun _ => ?_) (fun _ => ?_) | refine And.intro ?_ ?_ | refine toEx2 ?_ | refine toY ?_ | intro _)
  all_goals first | refine Ob2.mk ?_ | (show drawOk _ _ _ = true; exact rfl)
  all_goals (try simp only [allP, side, Ctr.reads, dTag_eta, dRoad_eta, dLetter_eta, dAddr_eta, dSub_eta, dHalf_eta, dPiece_eta, dPolicy_eta, dBucket_eta, dOut_eta, dPieces_eta, dEnd_eta, dKnown_eta, dWorld_eta]); all_goals repeat' (first | with_reducible exact rfl | exact trivial | with_reducible assumption | refine And.intro ?_ ?_ | exact (rfl : (_ : SV) = _) | exact (rfl : (_ : List SC) = _) | (show drawOk _ _ _ = true; exact rfl) | (show ((0 : Nat) : Int) = 0; exact rfl))
  all_goals (try simp only [ETy.frm, dTag_beq, List.set_set, List.length_set, List.nil_append, Ctr.reads, dTag_eta, dRoad_eta, dLetter_eta, dAddr_eta, dSub_eta, dHalf_eta, dPiece_eta, dPolicy_eta, dBucket_eta, dOut_eta, dPieces_eta, dEnd_eta, dKnown_eta, dWorld_eta] at *)
  all_goals (try simp only [Bool.cond_true_left, Bool.cond_false_right, Bool.or_eq_false_iff, Bool.or_eq_true, Bool.and_eq_true, Bool.and_eq_false_imp, Bool.not_eq_true', Bool.not_eq_false', Bool.not_eq_eq_eq_not, Bool.not_true, Bool.not_false] at *)
  all_goals first | done | with_reducible assumption | with_reducible rfl | omega | grind [mHearEcho, ltr, mBetween, setSub, gSub, mL20On]
set_option maxHeartbeats 1000000 in
theorem h_spec_Came : Ctr.holds E 161 (.reads [aOut, aInt] [aOut] (fun ((o : DOut), (u : Int), _) => True) fun ((o : DOut), (u : Int), _) => (mCame o u, ())) := by
  refine fn_ok (Γ := [(239, .reads [aOut] [aBool] (fun _ => True) fun ((o : DOut), _) => (mOutOk o, ()))]) prgOk (gcons h_spec_OutOk gnil) Tryz.func161 rfl rfl rfl rfl ?_
  rintro ty ⟨(o : DOut), (u : Int), _⟩ hp
  refine ⟨[], ?_⟩
  by_cases hok : mOutOk o = true
  · obtain ⟨ho1, ho2, ho3, ho4⟩ := outOk_bd hok
    repeat' ((conv => whnf); first | refine toOb2 ?_ | refine And.intro (fun _ => ?_) (fun _ => ?_) | refine And.intro ?_ ?_ | refine toEx2 ?_ | refine toY ?_ | intro _)
    all_goals first | refine Ob2.mk ?_ | (show drawOk _ _ _ = true; exact rfl)
    all_goals (try simp only [allP, side, Ctr.reads, dTag_eta, dRoad_eta, dLetter_eta, dAddr_eta, dSub_eta, dHalf_eta, dPiece_eta, dPolicy_eta, dBucket_eta, dOut_eta, dPieces_eta, dEnd_eta, dKnown_eta, dWorld_eta]); all_goals repeat' (first | with_reducible exact rfl | exact trivial | with_reducible assumption | refine And.intro ?_ ?_ | exact (rfl : (_ : SV) = _) | exact (rfl : (_ : List SC) = _) | (show drawOk _ _ _ = true; exact rfl) | (show ((0 : Nat) : Int) = 0; exact rfl))
    all_goals (try simp only [Ctr.reads, dTag_eta, dRoad_eta, dLetter_eta, dAddr_eta, dSub_eta, dHalf_eta, dPiece_eta, dPolicy_eta, dBucket_eta, dOut_eta, dPieces_eta, dEnd_eta, dKnown_eta, dWorld_eta] at *)
    all_goals (try simp only [Bool.cond_true_left, Bool.cond_false_right, Bool.or_eq_false_iff, Bool.or_eq_true, Bool.and_eq_true, Bool.and_eq_false_imp, Bool.not_eq_true', Bool.not_eq_false', Bool.not_eq_eq_eq_not, Bool.not_true, Bool.not_false] at *)
    all_goals (try simp only [decide_eq_true_eq, decide_eq_false_iff_not] at *)
    all_goals (try simp (disch := omega) only [w64_id] at *)
    all_goals (try simp (disch := omega) only [w64_id] at *)
    all_goals first | done | with_reducible assumption | with_reducible rfl | omega | grind [mCame]
  · repeat' ((conv => whnf); first | refine toOb2 ?_ | refine And.intro (fun _ => ?_) (fun _ => ?_) | refine And.intro ?_ ?_ | refine toEx2 ?_ | refine toY ?_ | intro _)
    all_goals first | refine Ob2.mk ?_ | (show drawOk _ _ _ = true; exact rfl)
    all_goals (try simp only [allP, side, Ctr.reads, dTag_eta, dRoad_eta, dLetter_eta, dAddr_eta, dSub_eta, dHalf_eta, dPiece_eta, dPolicy_eta, dBucket_eta, dOut_eta, dPieces_eta, dEnd_eta, dKnown_eta, dWorld_eta]); all_goals repeat' (first | with_reducible exact rfl | exact trivial | with_reducible assumption | refine And.intro ?_ ?_ | exact (rfl : (_ : SV) = _) | exact (rfl : (_ : List SC) = _) | (show drawOk _ _ _ = true; exact rfl) | (show ((0 : Nat) : Int) = 0; exact rfl))
    all_goals (try simp only [Ctr.reads, dTag_eta, dRoad_eta, dLetter_eta, dAddr_eta, dSub_eta, dHalf_eta, dPiece_eta, dPolicy_eta, dBucket_eta, dOut_eta, dPieces_eta, dEnd_eta, dKnown_eta, dWorld_eta] at *)
    all_goals (try simp only [Bool.cond_true_left, Bool.cond_false_right, Bool.or_eq_false_iff, Bool.or_eq_true, Bool.and_eq_true, Bool.and_eq_false_imp, Bool.not_eq_true', Bool.not_eq_false', Bool.not_eq_eq_eq_not, Bool.not_true, Bool.not_false] at *)
    all_goals first | done | with_reducible assumption | with_reducible rfl | omega | grind [mCame]
set_option maxHeartbeats 1000000 in
theorem h_spec_HearCame : Ctr.holds E 56 (.reads [aEnd, aLetter] [aEnd, aRow .letter] (fun ((e : DEnd), (x : DLetter), _) => e.B) fun ((e : DEnd), (x : DLetter), _) => ((mHearCame e x).1, (mHearCame e x).2, ())) := by
  refine fn_ok (Γ := [(103, .reads [aEnd] [aEnd] (fun ((e : DEnd), _) => e.B) fun (e, _) => (e, ())), (149, .reads [aEnd, aLetter] [aInt] (fun ((e : DEnd), (x : DLetter), _) => e.B) fun ((e : DEnd), (x : DLetter), _) => (mL20On e x, ())), (161, .reads [aOut, aInt] [aOut] (fun ((o : DOut), (u : Int), _) => True) fun ((o : DOut), (u : Int), _) => (mCame o u, ()))]) prgOk (gcons h_spec_l17Copy (gcons h_spec_l20On (gcons h_spec_Came gnil))) Tryz.func56 rfl rfl rfl rfl ?_
  rintro ty ⟨(e : DEnd), (x : DLetter), _⟩ (hp : e.B)
  obtain ⟨hb1, hb2, hb3, hb4, hb5, hb6, hb7⟩ := id hp
  have hgb := mSignedOn_bd e x
  refine ⟨[], ?_⟩
  repeat' ((conv => whnf); first | refine toOb2 ?_ | refine And.intro (fun _ => ?_) (fun _ => ?_) | refine And.intro ?_ ?_ | refine toEx2 ?_ | refine toY ?_ | intro _)
  all_goals first | refine Ob2.mk ?_ | (show drawOk _ _ _ = true; exact rfl)
  all_goals (try simp only [allP, side, Ctr.reads, dTag_eta, dRoad_eta, dLetter_eta, dAddr_eta, dSub_eta, dHalf_eta, dPiece_eta, dPolicy_eta, dBucket_eta, dOut_eta, dPieces_eta, dEnd_eta, dKnown_eta, dWorld_eta]); all_goals repeat' (first | with_reducible exact rfl | exact trivial | with_reducible assumption | refine And.intro ?_ ?_ | exact (rfl : (_ : SV) = _) | exact (rfl : (_ : List SC) = _) | (show drawOk _ _ _ = true; exact rfl) | (show ((0 : Nat) : Int) = 0; exact rfl))
  all_goals (try simp only [ETy.frm, dTag_beq, List.set_set, List.length_set, List.nil_append, Ctr.reads, dTag_eta, dRoad_eta, dLetter_eta, dAddr_eta, dSub_eta, dHalf_eta, dPiece_eta, dPolicy_eta, dBucket_eta, dOut_eta, dPieces_eta, dEnd_eta, dKnown_eta, dWorld_eta] at *)
  all_goals (try simp only [Bool.cond_true_left, Bool.cond_false_right, Bool.or_eq_false_iff, Bool.or_eq_true, Bool.and_eq_true, Bool.and_eq_false_imp, Bool.not_eq_true', Bool.not_eq_false', Bool.not_eq_eq_eq_not, Bool.not_true, Bool.not_false] at *)
  all_goals first | done | with_reducible assumption | with_reducible rfl | omega | grind [mHearCame, ltr, mBetween, setSub, gSub, mL20On]
set_option maxHeartbeats 1000000 in
theorem h_spec_HearReset : Ctr.holds E 47 (.reads [aEnd, aLetter] [aEnd, aRow .letter] (fun ((e : DEnd), (x : DLetter), _) => e.B) fun ((e : DEnd), (x : DLetter), _) => ((mHearReset e x).1, (mHearReset e x).2, ())) := by
  refine fn_ok (Γ := [(103, .reads [aEnd] [aEnd] (fun ((e : DEnd), _) => e.B) fun (e, _) => (e, ())), (149, .reads [aEnd, aLetter] [aInt] (fun ((e : DEnd), (x : DLetter), _) => e.B) fun ((e : DEnd), (x : DLetter), _) => (mL20On e x, ()))]) prgOk (gcons h_spec_l17Copy (gcons h_spec_l20On gnil)) Tryz.func47 rfl rfl rfl rfl ?_
  rintro ty ⟨(e : DEnd), (x : DLetter), _⟩ (hp : e.B)
  obtain ⟨hb1, hb2, hb3, hb4, hb5, hb6, hb7⟩ := id hp
  have hgb := mSignedOn_bd e x
  refine ⟨[], ?_⟩
  repeat' ((conv => whnf); first | refine toOb2 ?_ | refine And.intro (fun _ => ?_) (fun _ => ?_) | refine And.intro ?_ ?_ | refine toEx2 ?_ | refine toY ?_ | intro _)
  all_goals first | refine Ob2.mk ?_ | (show drawOk _ _ _ = true; exact rfl)
  all_goals (try simp only [allP, side, Ctr.reads, dTag_eta, dRoad_eta, dLetter_eta, dAddr_eta, dSub_eta, dHalf_eta, dPiece_eta, dPolicy_eta, dBucket_eta, dOut_eta, dPieces_eta, dEnd_eta, dKnown_eta, dWorld_eta]); all_goals repeat' (first | with_reducible exact rfl | exact trivial | with_reducible assumption | refine And.intro ?_ ?_ | exact (rfl : (_ : SV) = _) | exact (rfl : (_ : List SC) = _) | (show drawOk _ _ _ = true; exact rfl) | (show ((0 : Nat) : Int) = 0; exact rfl))
  all_goals (try simp only [ETy.frm, dTag_beq, List.set_set, List.length_set, List.nil_append, Ctr.reads, dTag_eta, dRoad_eta, dLetter_eta, dAddr_eta, dSub_eta, dHalf_eta, dPiece_eta, dPolicy_eta, dBucket_eta, dOut_eta, dPieces_eta, dEnd_eta, dKnown_eta, dWorld_eta] at *)
  all_goals (try simp only [Bool.cond_true_left, Bool.cond_false_right, Bool.or_eq_false_iff, Bool.or_eq_true, Bool.and_eq_true, Bool.and_eq_false_imp, Bool.not_eq_true', Bool.not_eq_false', Bool.not_eq_eq_eq_not, Bool.not_true, Bool.not_false] at *)
  all_goals first | done | with_reducible assumption | with_reducible rfl | omega | grind [mHearReset, ltr, mBetween, setSub, gSub, mL20On]
set_option maxHeartbeats 1000000 in
theorem h_impl_canDrawTwo : Ctr.holds E 144 (.reads [aEnd] [aBool] (fun ((e : DEnd), _) => True) fun ((e : DEnd), _) => (mRoom e, ())) := by
  refine fn_ok (Γ := [(138, .reads [aInt, aInt, aInt] [aBool] (fun _ => True) fun ((n : Int), (l : Int), (h : Int), _) => (mIn n l h, ()))]) prgOk (gcons h_impl_within gnil) Tryz.func144 rfl rfl rfl rfl ?_
  rintro ty ⟨(e : DEnd), _⟩ hp
  refine ⟨[], ?_⟩
  repeat' ((conv => whnf); first | refine toOb2 ?_ | refine And.intro (fun _ => ?_) (fun _ => ?_) | refine And.intro ?_ ?_ | refine toEx2 ?_ | refine toY ?_ | intro _)
  all_goals first | refine Ob2.mk ?_ | (show drawOk _ _ _ = true; exact rfl)
  all_goals (try simp only [allP, side, Ctr.reads, dTag_eta, dRoad_eta, dLetter_eta, dAddr_eta, dSub_eta, dHalf_eta, dPiece_eta, dPolicy_eta, dBucket_eta, dOut_eta, dPieces_eta, dEnd_eta, dKnown_eta, dWorld_eta]); all_goals repeat' (first | with_reducible exact rfl | exact trivial | with_reducible assumption | refine And.intro ?_ ?_ | exact (rfl : (_ : SV) = _) | exact (rfl : (_ : List SC) = _) | (show drawOk _ _ _ = true; exact rfl) | (show ((0 : Nat) : Int) = 0; exact rfl))
  all_goals (try simp only [Ctr.reads, dTag_eta, dRoad_eta, dLetter_eta, dAddr_eta, dSub_eta, dHalf_eta, dPiece_eta, dPolicy_eta, dBucket_eta, dOut_eta, dPieces_eta, dEnd_eta, dKnown_eta, dWorld_eta] at *)
  all_goals first | done | with_reducible assumption | with_reducible rfl | grind [mRoom]
set_option maxHeartbeats 1000000 in
theorem h_impl_drawTwo : Ctr.holds E 146 (⟨[aEnd], [.ref], [aInt, aInt], (fun _ => True), (fun ((e : DEnd), _) => (e.draw, w64 (e.draw + 2), ())), fun ((e : DEnd), _) => ({ e with draw := w64 (e.draw + 4) }, ()), false, .ret⟩) := by
  refine fn_okw (Γ := []) prgOk gnil Tryz.func146 rfl rfl rfl (fun ⟨a, _⟩ _ => ⟨by simp [LenC], trivial⟩) ?_
  rintro ty ⟨(e : DEnd), _⟩ hp
  refine ⟨[], ?_⟩
  repeat' ((conv => whnf); first | refine toOb2 ?_ | refine And.intro (fun _ => ?_) (fun _ => ?_) | refine And.intro ?_ ?_ | refine toEx2 ?_ | intro _)
  all_goals first | refine Ob2.mk ?_ | (show drawOk _ _ _ = true; exact rfl)
  all_goals (try simp only [allP, side, Ctr.reads, dTag_eta, dRoad_eta, dLetter_eta, dAddr_eta, dSub_eta, dHalf_eta, dPiece_eta, dPolicy_eta, dBucket_eta, dOut_eta, dPieces_eta, dEnd_eta, dKnown_eta, dWorld_eta]); all_goals repeat' (first | with_reducible exact rfl | exact trivial | with_reducible assumption | refine And.intro ?_ ?_ | exact (rfl : (_ : SV) = _) | exact (rfl : (_ : List SC) = _) | (show drawOk _ _ _ = true; exact rfl) | (show ((0 : Nat) : Int) = 0; exact rfl))
  all_goals (try simp only [Ctr.reads, dTag_eta, dRoad_eta, dLetter_eta, dAddr_eta, dSub_eta, dHalf_eta, dPiece_eta, dPolicy_eta, dBucket_eta, dOut_eta, dPieces_eta, dEnd_eta, dKnown_eta, dWorld_eta] at *)
  all_goals (try simp only [Bool.cond_true_left, Bool.cond_false_right, Bool.or_eq_false_iff, Bool.or_eq_true, Bool.and_eq_true, Bool.and_eq_false_imp, Bool.not_eq_true', Bool.not_eq_false', Bool.not_eq_eq_eq_not, Bool.not_true, Bool.not_false] at *)
  all_goals first | done | with_reducible assumption | with_reducible rfl | omega | grind []
set_option maxHeartbeats 1000000 in
theorem h_impl_met : Ctr.holds E 154 (.reads [aInt] [aRow .addr] (fun ((a : Int), _) => True) fun ((a : Int), _) => (mMet a, ())) := by
  refine fn_ok (Γ := []) prgOk gnil Tryz.func154 rfl rfl rfl rfl ?_
  rintro ty ⟨(a : Int), _⟩ hp
  refine ⟨[], ?_⟩
  repeat' ((conv => whnf); first | refine toOb2 ?_ | refine And.intro (fun _ => ?_) (fun _ => ?_) | refine And.intro ?_ ?_ | refine toEx2 ?_ | intro _)
  all_goals first | refine Ob2.mk ?_ | (show drawOk _ _ _ = true; exact rfl)
  all_goals (try simp only [allP, side, Ctr.reads, dTag_eta, dRoad_eta, dLetter_eta, dAddr_eta, dSub_eta, dHalf_eta, dPiece_eta, dPolicy_eta, dBucket_eta, dOut_eta, dPieces_eta, dEnd_eta, dKnown_eta, dWorld_eta]); all_goals repeat' (first | with_reducible exact rfl | exact trivial | with_reducible assumption | refine And.intro ?_ ?_ | exact (rfl : (_ : SV) = _) | exact (rfl : (_ : List SC) = _) | (show drawOk _ _ _ = true; exact rfl) | (show ((0 : Nat) : Int) = 0; exact rfl))
  all_goals (try simp only [Ctr.reads, dTag_eta, dRoad_eta, dLetter_eta, dAddr_eta, dSub_eta, dHalf_eta, dPiece_eta, dPolicy_eta, dBucket_eta, dOut_eta, dPieces_eta, dEnd_eta, dKnown_eta, dWorld_eta] at *)
  all_goals first | done | with_reducible assumption | with_reducible rfl | grind [mMet]
set_option maxHeartbeats 1000000 in
theorem h_impl_HearHello : Ctr.holds E 65 (.reads [aEnd, aLetter] [aEnd, aRow .letter] (fun ((e : DEnd), (x : DLetter), _) => e.B) fun ((e : DEnd), (x : DLetter), _) => ((mHearHello e x).1, (mHearHello e x).2, ())) := by
  refine fn_ok (Γ := [(115, .reads [aEnd] [aEnd] (fun ((e : DEnd), _) => e.B) fun (e, _) => (e, ())), (148, .reads [aLetter] [aRoad] (fun _ => True) fun ((x : DLetter), _) => (mRoadOf x, ())), (112, .reads [aEnd] [aBool] (fun ((e : DEnd), _) => e.B) fun ((e : DEnd), _) => (mEndOk e, ())), (113, .reads [aLetter] [aBool] (fun _ => True) fun ((x : DLetter), _) => (mLetterOk x, ())), (114, .reads [aEnd, aInt] [aBool] (fun ((e : DEnd), _) => e.B) fun ((e : DEnd), (a : Int), _) => (mOwns e a, ())), (138, .reads [aInt, aInt, aInt] [aBool] (fun _ => True) fun ((n : Int), (l : Int), (h : Int), _) => (mIn n l h, ())), (145, .reads [aEnd, aRoad] [aInt] (fun ((e : DEnd), _) => e.B) fun ((e : DEnd), (r : DRoad), _) => (mSubAt e r, ())), (144, .reads [aEnd] [aBool] (fun ((e : DEnd), _) => True) fun ((e : DEnd), _) => (mRoom e, ())), (146, ⟨[aEnd], [.ref], [aInt, aInt], (fun _ => True), (fun ((e : DEnd), _) => (e.draw, w64 (e.draw + 2), ())), fun ((e : DEnd), _) => ({ e with draw := w64 (e.draw + 4) }, ()), false, .ret⟩), (154, .reads [aInt] [aRow .addr] (fun ((a : Int), _) => True) fun ((a : Int), _) => (mMet a, ())), (139, .reads [aRoad, aLetter] [aLetter] (fun _ => True) fun ((r : DRoad), (x : DLetter), _) => (mBetween r x, ()))]) prgOk (gcons h_impl_copyEnd (gcons h_impl_RoadOf (gcons h_impl_EndOk (gcons h_impl_LetterOk (gcons h_impl_OwnsAddr (gcons h_impl_within (gcons h_impl_SubAt (gcons h_impl_canDrawTwo (gcons h_impl_drawTwo (gcons h_impl_met (gcons h_impl_Between gnil))))))))))) Tryz.func65 rfl rfl rfl rfl ?_
  rintro ty ⟨(e : DEnd), (x : DLetter), _⟩ (hp : e.B)
  obtain ⟨hb1, hb2, hb3, hb4, hb5, hb6, hb7⟩ := id hp
  have hsb := mSubAt_bd e (mRoadOf x)
  have h8 := fun h : mEndOk e = true => (endOk_split h).2.2.1
  have hnm := fun h : mEndOk e = true => endOk_nums h
  have hrm := fun h : mRoom e = true => room_bd h
  refine ⟨[], ?_⟩
  repeat' ((conv => whnf); first | refine toOb2 ?_ | refine And.intro (fun _ => ?_) (fun _ => ?_) | refine And.intro ?_ ?_ | refine toEx2 ?_ | refine toY ?_ | intro _)
  all_goals first | refine Ob2.mk ?_ | (show drawOk _ _ _ = true; exact rfl)
  all_goals (try simp only [allP, side, Ctr.reads, dTag_eta, dRoad_eta, dLetter_eta, dAddr_eta, dSub_eta, dHalf_eta, dPiece_eta, dPolicy_eta, dBucket_eta, dOut_eta, dPieces_eta, dEnd_eta, dKnown_eta, dWorld_eta]); all_goals repeat' (first | with_reducible exact rfl | exact trivial | with_reducible assumption | refine And.intro ?_ ?_ | exact (rfl : (_ : SV) = _) | exact (rfl : (_ : List SC) = _) | (show drawOk _ _ _ = true; exact rfl) | (show ((0 : Nat) : Int) = 0; exact rfl))
  all_goals (try simp only [ETy.frm, dTag_beq, List.set_set, List.length_set, List.nil_append, Ctr.reads, dTag_eta, dRoad_eta, dLetter_eta, dAddr_eta, dSub_eta, dHalf_eta, dPiece_eta, dPolicy_eta, dBucket_eta, dOut_eta, dPieces_eta, dEnd_eta, dKnown_eta, dWorld_eta] at *)
  all_goals (try simp only [Bool.cond_true_left, Bool.cond_false_right, Bool.or_eq_false_iff, Bool.or_eq_true, Bool.and_eq_true, Bool.and_eq_false_imp, Bool.not_eq_true', Bool.not_eq_false', Bool.not_eq_eq_eq_not, Bool.not_true, Bool.not_false] at *)
  all_goals (try simp only [decide_eq_true_eq, decide_eq_false_iff_not] at *)
  all_goals (try simp (disch := omega) only [w64_id] at *)
  all_goals (try simp (disch := omega) only [w64_id] at *)
  all_goals first | done | with_reducible assumption | with_reducible rfl | omega | grind [mHearHello, mDrawn, mIn, mMet, ltr, mBetween, setSub, gSub]
set_option maxHeartbeats 1000000 in
theorem h_impl_HearBack : Ctr.holds E 52 (.reads [aEnd, aLetter] [aEnd, aRow .letter] (fun ((e : DEnd), (x : DLetter), _) => e.B) fun ((e : DEnd), (x : DLetter), _) => ((mHearBack e x).1, (mHearBack e x).2, ())) := by
  refine fn_ok (Γ := [(115, .reads [aEnd] [aEnd] (fun ((e : DEnd), _) => e.B) fun (e, _) => (e, ())), (148, .reads [aLetter] [aRoad] (fun _ => True) fun ((x : DLetter), _) => (mRoadOf x, ())), (145, .reads [aEnd, aRoad] [aInt] (fun ((e : DEnd), _) => e.B) fun ((e : DEnd), (r : DRoad), _) => (mSubAt e r, ())), (112, .reads [aEnd] [aBool] (fun ((e : DEnd), _) => e.B) fun ((e : DEnd), _) => (mEndOk e, ())), (113, .reads [aLetter] [aBool] (fun _ => True) fun ((x : DLetter), _) => (mLetterOk x, ())), (138, .reads [aInt, aInt, aInt] [aBool] (fun _ => True) fun ((n : Int), (l : Int), (h : Int), _) => (mIn n l h, ())), (154, .reads [aInt] [aRow .addr] (fun ((a : Int), _) => True) fun ((a : Int), _) => (mMet a, ())), (139, .reads [aRoad, aLetter] [aLetter] (fun _ => True) fun ((r : DRoad), (x : DLetter), _) => (mBetween r x, ()))]) prgOk (gcons h_impl_copyEnd (gcons h_impl_RoadOf (gcons h_impl_SubAt (gcons h_impl_EndOk (gcons h_impl_LetterOk (gcons h_impl_within (gcons h_impl_met (gcons h_impl_Between gnil)))))))) Tryz.func52 rfl rfl rfl rfl ?_
  rintro ty ⟨(e : DEnd), (x : DLetter), _⟩ (hp : e.B)
  obtain ⟨hb1, hb2, hb3, hb4, hb5, hb6, hb7⟩ := id hp
  have hsb := mSubAt_bd e (mRoadOf x)
  refine ⟨[], ?_⟩
  repeat' ((conv => whnf); first | refine toOb2 ?_ | refine And.intro (fun _ => ?_) (fun _ => ?_) | refine And.intro ?_ ?_ | refine toEx2 ?_ | refine toY ?_ | intro _)
  all_goals first | refine Ob2.mk ?_ | (show drawOk _ _ _ = true; exact rfl)
  all_goals (try simp only [allP, side, Ctr.reads, dTag_eta, dRoad_eta, dLetter_eta, dAddr_eta, dSub_eta, dHalf_eta, dPiece_eta, dPolicy_eta, dBucket_eta, dOut_eta, dPieces_eta, dEnd_eta, dKnown_eta, dWorld_eta]); all_goals repeat' (first | with_reducible exact rfl | exact trivial | with_reducible assumption | refine And.intro ?_ ?_ | exact (rfl : (_ : SV) = _) | exact (rfl : (_ : List SC) = _) | (show drawOk _ _ _ = true; exact rfl) | (show ((0 : Nat) : Int) = 0; exact rfl))
  all_goals (try simp only [ETy.frm, dTag_beq, List.set_set, List.length_set, List.nil_append, Ctr.reads, dTag_eta, dRoad_eta, dLetter_eta, dAddr_eta, dSub_eta, dHalf_eta, dPiece_eta, dPolicy_eta, dBucket_eta, dOut_eta, dPieces_eta, dEnd_eta, dKnown_eta, dWorld_eta] at *)
  all_goals (try simp only [Bool.cond_true_left, Bool.cond_false_right, Bool.or_eq_false_iff, Bool.or_eq_true, Bool.and_eq_true, Bool.and_eq_false_imp, Bool.not_eq_true', Bool.not_eq_false', Bool.not_eq_eq_eq_not, Bool.not_true, Bool.not_false] at *)
  all_goals (try simp only [decide_eq_true_eq, decide_eq_false_iff_not] at *)
  all_goals (try simp (disch := first | assumption | omega | (simp only [List.length_set]; omega)) only [set_get, List.set_set, ETy.frm, dTag_eta, dRoad_eta, dLetter_eta, dAddr_eta, dSub_eta, dHalf_eta, dPiece_eta, dPolicy_eta, dBucket_eta, dOut_eta, dPieces_eta, dEnd_eta, dKnown_eta, dWorld_eta] at *)
  all_goals first | done | with_reducible assumption | with_reducible rfl | omega | grind [mHearBack, ltr, mBetween, setSub, gSub, mMet]
set_option maxHeartbeats 1000000 in
theorem h_impl_TagBack : Ctr.holds E 165 (.reads [aInt, aInt, aInt, aInt] [aTag] (fun ((m : Int), (t : Int), (a : Int), (b : Int), _) => True) fun ((m : Int), (t : Int), (a : Int), (b : Int), _) => (mTagBack m t a b, ())) := by
  refine fn_ok (Γ := []) prgOk gnil Tryz.func165 rfl rfl rfl rfl ?_
  rintro ty ⟨(m : Int), (t : Int), (a : Int), (b : Int), _⟩ hp
  refine ⟨[], ?_⟩
  repeat' ((conv => whnf); first | refine toOb2 ?_ | refine And.intro (fun _ => ?_) (fun _ => ?_) | refine And.intro ?_ ?_ | refine toEx2 ?_ | intro _)
  all_goals first | refine Ob2.mk ?_ | (show drawOk _ _ _ = true; exact rfl)
  all_goals (try simp only [allP, side, Ctr.reads, dTag_eta, dRoad_eta, dLetter_eta, dAddr_eta, dSub_eta, dHalf_eta, dPiece_eta, dPolicy_eta, dBucket_eta, dOut_eta, dPieces_eta, dEnd_eta, dKnown_eta, dWorld_eta]); all_goals repeat' (first | with_reducible exact rfl | exact trivial | with_reducible assumption | refine And.intro ?_ ?_ | exact (rfl : (_ : SV) = _) | exact (rfl : (_ : List SC) = _) | (show drawOk _ _ _ = true; exact rfl) | (show ((0 : Nat) : Int) = 0; exact rfl))
  all_goals (try simp only [Ctr.reads, dTag_eta, dRoad_eta, dLetter_eta, dAddr_eta, dSub_eta, dHalf_eta, dPiece_eta, dPolicy_eta, dBucket_eta, dOut_eta, dPieces_eta, dEnd_eta, dKnown_eta, dWorld_eta] at *)
  all_goals first | done | with_reducible assumption | with_reducible rfl | grind [mTagBack]
set_option maxHeartbeats 1000000 in
theorem h_impl_TagDone : Ctr.holds E 185 (.reads [aInt, aInt, aInt, aInt] [aTag] (fun ((m : Int), (t : Int), (a : Int), (b : Int), _) => True) fun ((m : Int), (t : Int), (a : Int), (b : Int), _) => (mTagDone m t a b, ())) := by
  refine fn_ok (Γ := []) prgOk gnil Tryz.func185 rfl rfl rfl rfl ?_
  rintro ty ⟨(m : Int), (t : Int), (a : Int), (b : Int), _⟩ hp
  refine ⟨[], ?_⟩
  repeat' ((conv => whnf); first | refine toOb2 ?_ | refine And.intro (fun _ => ?_) (fun _ => ?_) | refine And.intro ?_ ?_ | refine toEx2 ?_ | intro _)
  all_goals first | refine Ob2.mk ?_ | (show drawOk _ _ _ = true; exact rfl)
  all_goals (try simp only [allP, side, Ctr.reads, dTag_eta, dRoad_eta, dLetter_eta, dAddr_eta, dSub_eta, dHalf_eta, dPiece_eta, dPolicy_eta, dBucket_eta, dOut_eta, dPieces_eta, dEnd_eta, dKnown_eta, dWorld_eta]); all_goals repeat' (first | with_reducible exact rfl | exact trivial | with_reducible assumption | refine And.intro ?_ ?_ | exact (rfl : (_ : SV) = _) | exact (rfl : (_ : List SC) = _) | (show drawOk _ _ _ = true; exact rfl) | (show ((0 : Nat) : Int) = 0; exact rfl))
  all_goals (try simp only [Ctr.reads, dTag_eta, dRoad_eta, dLetter_eta, dAddr_eta, dSub_eta, dHalf_eta, dPiece_eta, dPolicy_eta, dBucket_eta, dOut_eta, dPieces_eta, dEnd_eta, dKnown_eta, dWorld_eta] at *)
  all_goals first | done | with_reducible assumption | with_reducible rfl | grind [mTagDone]
set_option maxHeartbeats 1000000 in
theorem h_impl_doneLetter : Ctr.holds E 166 (.reads [aEnd, aSub] [aLetter] (fun ((e : DEnd), (s : DSub), _) => True) fun ((e : DEnd), (s : DSub), _) => (mDoneLetter e s, ())) := by
  refine fn_ok (Γ := [(185, .reads [aInt, aInt, aInt, aInt] [aTag] (fun ((m : Int), (t : Int), (a : Int), (b : Int), _) => True) fun ((m : Int), (t : Int), (a : Int), (b : Int), _) => (mTagDone m t a b, ())), (139, .reads [aRoad, aLetter] [aLetter] (fun _ => True) fun ((r : DRoad), (x : DLetter), _) => (mBetween r x, ()))]) prgOk (gcons h_impl_TagDone (gcons h_impl_Between gnil)) Tryz.func166 rfl rfl rfl rfl ?_
  rintro ty ⟨(e : DEnd), (s : DSub), _⟩ hp
  refine ⟨[], ?_⟩
  repeat' ((conv => whnf); first | refine toOb2 ?_ | refine And.intro (fun _ => ?_) (fun _ => ?_) | refine And.intro ?_ ?_ | refine toEx2 ?_ | refine toY ?_ | intro _)
  all_goals first | refine Ob2.mk ?_ | (show drawOk _ _ _ = true; exact rfl)
  all_goals (try simp only [allP, side, Ctr.reads, dTag_eta, dRoad_eta, dLetter_eta, dAddr_eta, dSub_eta, dHalf_eta, dPiece_eta, dPolicy_eta, dBucket_eta, dOut_eta, dPieces_eta, dEnd_eta, dKnown_eta, dWorld_eta]); all_goals repeat' (first | with_reducible exact rfl | exact trivial | with_reducible assumption | refine And.intro ?_ ?_ | exact (rfl : (_ : SV) = _) | exact (rfl : (_ : List SC) = _) | (show drawOk _ _ _ = true; exact rfl) | (show ((0 : Nat) : Int) = 0; exact rfl))
  all_goals (try simp only [Ctr.reads, dTag_eta, dRoad_eta, dLetter_eta, dAddr_eta, dSub_eta, dHalf_eta, dPiece_eta, dPolicy_eta, dBucket_eta, dOut_eta, dPieces_eta, dEnd_eta, dKnown_eta, dWorld_eta] at *)
  all_goals (try simp only [Bool.cond_true_left, Bool.cond_false_right, Bool.or_eq_false_iff, Bool.or_eq_true, Bool.and_eq_true, Bool.and_eq_false_imp, Bool.not_eq_true', Bool.not_eq_false', Bool.not_eq_eq_eq_not, Bool.not_true, Bool.not_false] at *)
  all_goals first | done | with_reducible assumption | with_reducible rfl | omega | grind [mDoneLetter, mTagDone, ltr, mBetween]
set_option maxHeartbeats 1000000 in
theorem h_impl_HearJoinBack : Ctr.holds E 59 (.reads [aEnd, aLetter] [aEnd, aRow .letter] (fun ((e : DEnd), (x : DLetter), _) => e.B) fun ((e : DEnd), (x : DLetter), _) => ((mHearJoinBack e x).1, (mHearJoinBack e x).2, ())) := by
  refine fn_ok (Γ := [(115, .reads [aEnd] [aEnd] (fun ((e : DEnd), _) => e.B) fun (e, _) => (e, ())), (148, .reads [aLetter] [aRoad] (fun _ => True) fun ((x : DLetter), _) => (mRoadOf x, ())), (145, .reads [aEnd, aRoad] [aInt] (fun ((e : DEnd), _) => e.B) fun ((e : DEnd), (r : DRoad), _) => (mSubAt e r, ())), (112, .reads [aEnd] [aBool] (fun ((e : DEnd), _) => e.B) fun ((e : DEnd), _) => (mEndOk e, ())), (113, .reads [aLetter] [aBool] (fun _ => True) fun ((x : DLetter), _) => (mLetterOk x, ())), (165, .reads [aInt, aInt, aInt, aInt] [aTag] (fun ((m : Int), (t : Int), (a : Int), (b : Int), _) => True) fun ((m : Int), (t : Int), (a : Int), (b : Int), _) => (mTagBack m t a b, ())), (166, .reads [aEnd, aSub] [aLetter] (fun ((e : DEnd), (s : DSub), _) => True) fun ((e : DEnd), (s : DSub), _) => (mDoneLetter e s, ()))]) prgOk (gcons h_impl_copyEnd (gcons h_impl_RoadOf (gcons h_impl_SubAt (gcons h_impl_EndOk (gcons h_impl_LetterOk (gcons h_impl_TagBack (gcons h_impl_doneLetter gnil))))))) Tryz.func59 rfl rfl rfl rfl ?_
  rintro ty ⟨(e : DEnd), (x : DLetter), _⟩ (hp : e.B)
  obtain ⟨hb1, hb2, hb3, hb4, hb5, hb6, hb7⟩ := id hp
  have hsb := mSubAt_bd e (mRoadOf x)
  refine ⟨[], ?_⟩
  repeat' ((conv => whnf); first | refine toOb2 ?_ | refine And.intro (fun _ => ?_) (fun _ => ?_) | refine And.intro ?_ ?_ | refine toEx2 ?_ | refine toY ?_ | intro _)
  all_goals first | refine Ob2.mk ?_ | (show drawOk _ _ _ = true; exact rfl)
  all_goals (try simp only [allP, side, Ctr.reads, dTag_eta, dRoad_eta, dLetter_eta, dAddr_eta, dSub_eta, dHalf_eta, dPiece_eta, dPolicy_eta, dBucket_eta, dOut_eta, dPieces_eta, dEnd_eta, dKnown_eta, dWorld_eta]); all_goals repeat' (first | with_reducible exact rfl | exact trivial | with_reducible assumption | refine And.intro ?_ ?_ | exact (rfl : (_ : SV) = _) | exact (rfl : (_ : List SC) = _) | (show drawOk _ _ _ = true; exact rfl) | (show ((0 : Nat) : Int) = 0; exact rfl))
  all_goals (try simp only [ETy.frm, dTag_beq, List.set_set, List.length_set, List.nil_append, Ctr.reads, dTag_eta, dRoad_eta, dLetter_eta, dAddr_eta, dSub_eta, dHalf_eta, dPiece_eta, dPolicy_eta, dBucket_eta, dOut_eta, dPieces_eta, dEnd_eta, dKnown_eta, dWorld_eta] at *)
  all_goals (try simp only [Bool.cond_true_left, Bool.cond_false_right, Bool.or_eq_false_iff, Bool.or_eq_true, Bool.and_eq_true, Bool.and_eq_false_imp, Bool.not_eq_true', Bool.not_eq_false', Bool.not_eq_eq_eq_not, Bool.not_true, Bool.not_false] at *)
  all_goals (try simp only [decide_eq_true_eq, decide_eq_false_iff_not] at *)
  all_goals (try simp (disch := first | assumption | omega | (simp only [List.length_set]; omega)) only [set_get, List.set_set, ETy.frm, dTag_eta, dRoad_eta, dLetter_eta, dAddr_eta, dSub_eta, dHalf_eta, dPiece_eta, dPolicy_eta, dBucket_eta, dOut_eta, dPieces_eta, dEnd_eta, dKnown_eta, dWorld_eta] at *)
  all_goals first | done | with_reducible assumption | with_reducible rfl | omega | grind [mHearJoinBack, ltr, mBetween, setSub, gSub, mDoneLetter, mTagBack, mTagDone]
set_option maxHeartbeats 1000000 in
theorem h_impl_ackLetter : Ctr.holds E 187 (.reads [aRoad, aInt] [aRow .letter] (fun ((r : DRoad), (g : Int), _) => True) fun ((r : DRoad), (g : Int), _) => ([mAck r g], ())) := by
  refine fn_ok (Γ := [(139, .reads [aRoad, aLetter] [aLetter] (fun _ => True) fun ((r : DRoad), (x : DLetter), _) => (mBetween r x, ()))]) prgOk (gcons h_impl_Between gnil) Tryz.func187 rfl rfl rfl rfl ?_
  rintro ty ⟨(r : DRoad), (g : Int), _⟩ hp
  refine ⟨[], ?_⟩
  repeat' ((conv => whnf); first | refine toOb2 ?_ | refine And.intro (fun _ => ?_) (fun _ => ?_) | refine And.intro ?_ ?_ | refine toEx2 ?_ | refine toY ?_ | intro _)
  all_goals first | refine Ob2.mk ?_ | (show drawOk _ _ _ = true; exact rfl)
  all_goals (try simp only [allP, side, Ctr.reads, dTag_eta, dRoad_eta, dLetter_eta, dAddr_eta, dSub_eta, dHalf_eta, dPiece_eta, dPolicy_eta, dBucket_eta, dOut_eta, dPieces_eta, dEnd_eta, dKnown_eta, dWorld_eta]); all_goals repeat' (first | with_reducible exact rfl | exact trivial | with_reducible assumption | refine And.intro ?_ ?_ | exact (rfl : (_ : SV) = _) | exact (rfl : (_ : List SC) = _) | (show drawOk _ _ _ = true; exact rfl) | (show ((0 : Nat) : Int) = 0; exact rfl))
  all_goals (try simp only [ETy.frm, Ctr.reads, dTag_eta, dRoad_eta, dLetter_eta, dAddr_eta, dSub_eta, dHalf_eta, dPiece_eta, dPolicy_eta, dBucket_eta, dOut_eta, dPieces_eta, dEnd_eta, dKnown_eta, dWorld_eta] at *)
  all_goals (try simp only [Bool.cond_true_left, Bool.cond_false_right, Bool.or_eq_false_iff, Bool.or_eq_true, Bool.and_eq_true, Bool.and_eq_false_imp, Bool.not_eq_true', Bool.not_eq_false', Bool.not_eq_eq_eq_not, Bool.not_true, Bool.not_false] at *)
  all_goals first | done | with_reducible assumption | with_reducible rfl | omega | grind [mAck, ltr, mBetween]
set_option maxHeartbeats 1000000 in
theorem h_impl_HearJoinAck : Ctr.holds E 46 (.reads [aEnd, aLetter] [aEnd, aRow .letter] (fun ((e : DEnd), (x : DLetter), _) => e.B) fun ((e : DEnd), (x : DLetter), _) => ((mHearJoinAck e x).1, (mHearJoinAck e x).2, ())) := by
  refine fn_ok (Γ := [(115, .reads [aEnd] [aEnd] (fun ((e : DEnd), _) => e.B) fun (e, _) => (e, ())), (148, .reads [aLetter] [aRoad] (fun _ => True) fun ((x : DLetter), _) => (mRoadOf x, ())), (145, .reads [aEnd, aRoad] [aInt] (fun ((e : DEnd), _) => e.B) fun ((e : DEnd), (r : DRoad), _) => (mSubAt e r, ())), (112, .reads [aEnd] [aBool] (fun ((e : DEnd), _) => e.B) fun ((e : DEnd), _) => (mEndOk e, ())), (113, .reads [aLetter] [aBool] (fun _ => True) fun ((x : DLetter), _) => (mLetterOk x, ()))]) prgOk (gcons h_impl_copyEnd (gcons h_impl_RoadOf (gcons h_impl_SubAt (gcons h_impl_EndOk (gcons h_impl_LetterOk gnil))))) Tryz.func46 rfl rfl rfl rfl ?_
  rintro ty ⟨(e : DEnd), (x : DLetter), _⟩ (hp : e.B)
  obtain ⟨hb1, hb2, hb3, hb4, hb5, hb6, hb7⟩ := id hp
  have hsb := mSubAt_bd e (mRoadOf x)
  refine ⟨[], ?_⟩
  repeat' ((conv => whnf); first | refine toOb2 ?_ | refine And.intro (fun _ => ?_) (fun _ => ?_) | refine And.intro ?_ ?_ | refine toEx2 ?_ | refine toY ?_ | intro _)
  all_goals first | refine Ob2.mk ?_ | (show drawOk _ _ _ = true; exact rfl)
  all_goals (try simp only [allP, side, Ctr.reads, dTag_eta, dRoad_eta, dLetter_eta, dAddr_eta, dSub_eta, dHalf_eta, dPiece_eta, dPolicy_eta, dBucket_eta, dOut_eta, dPieces_eta, dEnd_eta, dKnown_eta, dWorld_eta]); all_goals repeat' (first | with_reducible exact rfl | exact trivial | with_reducible assumption | refine And.intro ?_ ?_ | exact (rfl : (_ : SV) = _) | exact (rfl : (_ : List SC) = _) | (show drawOk _ _ _ = true; exact rfl) | (show ((0 : Nat) : Int) = 0; exact rfl))
  all_goals (try simp only [ETy.frm, dTag_beq, List.set_set, List.length_set, List.nil_append, Ctr.reads, dTag_eta, dRoad_eta, dLetter_eta, dAddr_eta, dSub_eta, dHalf_eta, dPiece_eta, dPolicy_eta, dBucket_eta, dOut_eta, dPieces_eta, dEnd_eta, dKnown_eta, dWorld_eta] at *)
  all_goals (try simp only [Bool.cond_true_left, Bool.cond_false_right, Bool.or_eq_false_iff, Bool.or_eq_true, Bool.and_eq_true, Bool.and_eq_false_imp, Bool.not_eq_true', Bool.not_eq_false', Bool.not_eq_eq_eq_not, Bool.not_true, Bool.not_false] at *)
  all_goals first | done | with_reducible assumption | with_reducible rfl | omega | grind [mHearJoinAck, ltr, mBetween, setSub, gSub]
set_option maxHeartbeats 1000000 in
theorem h_impl_HearAddr : Ctr.holds E 71 (.reads [aEnd, aLetter] [aEnd, aRow .letter] (fun ((e : DEnd), (x : DLetter), _) => e.B) fun ((e : DEnd), (x : DLetter), _) => ((mHearAddr e x).1, (mHearAddr e x).2, ())) := by
  refine fn_ok (Γ := [(115, .reads [aEnd] [aEnd] (fun ((e : DEnd), _) => e.B) fun (e, _) => (e, ())), (150, .reads [aEnd, aLetter] [aInt] (fun ((e : DEnd), _) => e.B) fun ((e : DEnd), (x : DLetter), _) => (mSignedOn e x, ())), (112, .reads [aEnd] [aBool] (fun ((e : DEnd), _) => e.B) fun ((e : DEnd), _) => (mEndOk e, ())), (113, .reads [aLetter] [aBool] (fun _ => True) fun ((x : DLetter), _) => (mLetterOk x, ())), (191, .reads [aInt, aInt, aInt, aInt] [aTag] (fun ((m : Int), (t : Int), (i : Int), (a : Int), _) => True) fun ((m : Int), (t : Int), (i : Int), (a : Int), _) => (mTagAddr m t i a, ())), (192, .reads [aRow .int, aInt] [aBool] (fun ((l : List Int), _) => l.length ≤ 1073741824) fun ((l : List Int), (n : Int), _) => (mHas l n, ())), (152, .reads [aRow .addr, aInt] [aInt] (fun ((l : List DAddr), _) => l.length ≤ 1073741824) fun ((l : List DAddr), (n : Int), _) => (mAddrAt l n, ())), (193, .reads [aRow .addr, aAddr] [aRow .addr, aBool] (fun ((l : List DAddr), _) => l.length ≤ 1073741823) fun ((l : List DAddr), (a : DAddr), _) => ((mPutAddr l a).1, (mPutAddr l a).2, ())), (148, .reads [aLetter] [aRoad] (fun _ => True) fun ((x : DLetter), _) => (mRoadOf x, ())), (139, .reads [aRoad, aLetter] [aLetter] (fun _ => True) fun ((r : DRoad), (x : DLetter), _) => (mBetween r x, ()))]) prgOk (gcons h_impl_copyEnd (gcons h_impl_SignedOn (gcons h_impl_EndOk (gcons h_impl_LetterOk (gcons h_impl_TagAddr (gcons h_impl_hasInt (gcons h_impl_AddrAt (gcons h_impl_PutAddr (gcons h_impl_RoadOf (gcons h_impl_Between gnil)))))))))) Tryz.func71 rfl rfl rfl rfl ?_
  rintro ty ⟨(e : DEnd), (x : DLetter), _⟩ (hp : e.B)
  obtain ⟨hb1, hb2, hb3, hb4, hb5, hb6, hb7⟩ := id hp
  have hgb := mSignedOn_bd e x
  have hat := mAddrAt_bd e.far x.id
  have hfl := fun h : mEndOk e = true => mAddrsOk_len (endOk_parts h).2.1
  refine ⟨[], ?_⟩
  repeat' ((conv => whnf); first | refine toOb2 ?_ | refine And.intro (fun _ => ?_) (fun _ => ?_) | refine And.intro ?_ ?_ | refine toEx2 ?_ | refine toY ?_ | intro _)
  all_goals first | refine Ob2.mk ?_ | (show drawOk _ _ _ = true; exact rfl)
  all_goals (try simp only [allP, side, Ctr.reads, dTag_eta, dRoad_eta, dLetter_eta, dAddr_eta, dSub_eta, dHalf_eta, dPiece_eta, dPolicy_eta, dBucket_eta, dOut_eta, dPieces_eta, dEnd_eta, dKnown_eta, dWorld_eta]); all_goals repeat' (first | with_reducible exact rfl | exact trivial | with_reducible assumption | refine And.intro ?_ ?_ | exact (rfl : (_ : SV) = _) | exact (rfl : (_ : List SC) = _) | (show drawOk _ _ _ = true; exact rfl) | (show ((0 : Nat) : Int) = 0; exact rfl))
  all_goals (try simp only [ETy.frm, dTag_beq, List.set_set, List.length_set, List.nil_append, Ctr.reads, dTag_eta, dRoad_eta, dLetter_eta, dAddr_eta, dSub_eta, dHalf_eta, dPiece_eta, dPolicy_eta, dBucket_eta, dOut_eta, dPieces_eta, dEnd_eta, dKnown_eta, dWorld_eta] at *)
  all_goals (try simp only [Bool.cond_true_left, Bool.cond_false_right, Bool.or_eq_false_iff, Bool.or_eq_true, Bool.and_eq_true, Bool.and_eq_false_imp, Bool.not_eq_true', Bool.not_eq_false', Bool.not_eq_eq_eq_not, Bool.not_true, Bool.not_false] at *)
  all_goals first | done | with_reducible assumption | with_reducible rfl | omega | grind [mHearAddr, ltr, mBetween, setSub, gSub, mL20On, mTagAddr]
set_option maxHeartbeats 1000000 in
theorem h_impl_HearEcho : Ctr.holds E 50 (.reads [aEnd, aLetter] [aEnd, aRow .letter] (fun ((e : DEnd), (x : DLetter), _) => e.B) fun ((e : DEnd), (x : DLetter), _) => ((mHearEcho e x).1, (mHearEcho e x).2, ())) := by
  refine fn_ok (Γ := [(115, .reads [aEnd] [aEnd] (fun ((e : DEnd), _) => e.B) fun (e, _) => (e, ())), (152, .reads [aRow .addr, aInt] [aInt] (fun ((l : List DAddr), _) => l.length ≤ 1073741824) fun ((l : List DAddr), (n : Int), _) => (mAddrAt l n, ())), (112, .reads [aEnd] [aBool] (fun ((e : DEnd), _) => e.B) fun ((e : DEnd), _) => (mEndOk e, ())), (113, .reads [aLetter] [aBool] (fun _ => True) fun ((x : DLetter), _) => (mLetterOk x, ())), (150, .reads [aEnd, aLetter] [aInt] (fun ((e : DEnd), _) => e.B) fun ((e : DEnd), (x : DLetter), _) => (mSignedOn e x, ()))]) prgOk (gcons h_impl_copyEnd (gcons h_impl_AddrAt (gcons h_impl_EndOk (gcons h_impl_LetterOk (gcons h_impl_SignedOn gnil))))) Tryz.func50 rfl rfl rfl rfl ?_
  rintro ty ⟨(e : DEnd), (x : DLetter), _⟩ (hp : e.B)
  obtain ⟨hb1, hb2, hb3, hb4, hb5, hb6, hb7⟩ := id hp
  have hgb := mSignedOn_bd e x
  have hab := mAddrAt_bd e.own x.id
  refine ⟨[], ?_⟩
  repeat' ((conv => whnf); first | refine toOb2 ?_ | refine And.intro (fun _ => ?_) (fun _ => ?_) | refine And.intro ?_ ?_ | refine toEx2 ?_ | refine toY ?_ | intro _)
  all_goals first | refine Ob2.mk ?_ | (show drawOk _ _ _ = true; exact rfl)
  all_goals (try simp only [allP, side, Ctr.reads, dTag_eta, dRoad_eta, dLetter_eta, dAddr_eta, dSub_eta, dHalf_eta, dPiece_eta, dPolicy_eta, dBucket_eta, dOut_eta, dPieces_eta, dEnd_eta, dKnown_eta, dWorld_eta]); all_goals repeat' (first | with_reducible exact rfl | exact trivial | with_reducible assumption | refine And.intro ?_ ?_ | exact (rfl : (_ : SV) = _) | exact (rfl : (_ : List SC) = _) | (show drawOk _ _ _ = true; exact rfl) | (show ((0 : Nat) : Int) = 0; exact rfl))
  all_goals (try simp only [ETy.frm, dTag_beq, List.set_set, List.length_set, List.nil_append, Ctr.reads, dTag_eta, dRoad_eta, dLetter_eta, dAddr_eta, dSub_eta, dHalf_eta, dPiece_eta, dPolicy_eta, dBucket_eta, dOut_eta, dPieces_eta, dEnd_eta, dKnown_eta, dWorld_eta] at *)
  all_goals (try simp only [Bool.cond_true_left, Bool.cond_false_right, Bool.or_eq_false_iff, Bool.or_eq_true, Bool.and_eq_true, Bool.and_eq_false_imp, Bool.not_eq_true', Bool.not_eq_false', Bool.not_eq_eq_eq_not, Bool.not_true, Bool.not_false] at *)
  all_goals first | done | with_reducible assumption | with_reducible rfl | omega | grind [mHearEcho, ltr, mBetween, setSub, gSub, mL20On]
set_option maxHeartbeats 1000000 in
theorem h_impl_Came : Ctr.holds E 162 (.reads [aOut, aInt] [aOut] (fun ((o : DOut), (u : Int), _) => True) fun ((o : DOut), (u : Int), _) => (mCame o u, ())) := by
  refine fn_ok (Γ := [(252, .reads [aOut] [aBool] (fun _ => True) fun ((o : DOut), _) => (mOutOk o, ()))]) prgOk (gcons h_impl_OutOk gnil) Tryz.func162 rfl rfl rfl rfl ?_
  rintro ty ⟨(o : DOut), (u : Int), _⟩ hp
  refine ⟨[], ?_⟩
  by_cases hok : mOutOk o = true
  · obtain ⟨ho1, ho2, ho3, ho4⟩ := outOk_bd hok
    repeat' ((conv => whnf); first | refine toOb2 ?_ | refine And.intro (fun _ => ?_) (fun _ => ?_) | refine And.intro ?_ ?_ | refine toEx2 ?_ | refine toY ?_ | intro _)
    all_goals first | refine Ob2.mk ?_ | (show drawOk _ _ _ = true; exact rfl)
    all_goals (try simp only [allP, side, Ctr.reads, dTag_eta, dRoad_eta, dLetter_eta, dAddr_eta, dSub_eta, dHalf_eta, dPiece_eta, dPolicy_eta, dBucket_eta, dOut_eta, dPieces_eta, dEnd_eta, dKnown_eta, dWorld_eta]); all_goals repeat' (first | with_reducible exact rfl | exact trivial | with_reducible assumption | refine And.intro ?_ ?_ | exact (rfl : (_ : SV) = _) | exact (rfl : (_ : List SC) = _) | (show drawOk _ _ _ = true; exact rfl) | (show ((0 : Nat) : Int) = 0; exact rfl))
    all_goals (try simp only [Ctr.reads, dTag_eta, dRoad_eta, dLetter_eta, dAddr_eta, dSub_eta, dHalf_eta, dPiece_eta, dPolicy_eta, dBucket_eta, dOut_eta, dPieces_eta, dEnd_eta, dKnown_eta, dWorld_eta] at *)
    all_goals (try simp only [Bool.cond_true_left, Bool.cond_false_right, Bool.or_eq_false_iff, Bool.or_eq_true, Bool.and_eq_true, Bool.and_eq_false_imp, Bool.not_eq_true', Bool.not_eq_false', Bool.not_eq_eq_eq_not, Bool.not_true, Bool.not_false] at *)
    all_goals (try simp only [decide_eq_true_eq, decide_eq_false_iff_not] at *)
    all_goals (try simp (disch := omega) only [w64_id] at *)
    all_goals (try simp (disch := omega) only [w64_id] at *)
    all_goals first | done | with_reducible assumption | with_reducible rfl | omega | grind [mCame]
  · repeat' ((conv => whnf); first | refine toOb2 ?_ | refine And.intro (fun _ => ?_) (fun _ => ?_) | refine And.intro ?_ ?_ | refine toEx2 ?_ | refine toY ?_ | intro _)
    all_goals first | refine Ob2.mk ?_ | (show drawOk _ _ _ = true; exact rfl)
    all_goals (try simp only [allP, side, Ctr.reads, dTag_eta, dRoad_eta, dLetter_eta, dAddr_eta, dSub_eta, dHalf_eta, dPiece_eta, dPolicy_eta, dBucket_eta, dOut_eta, dPieces_eta, dEnd_eta, dKnown_eta, dWorld_eta]); all_goals repeat' (first | with_reducible exact rfl | exact trivial | with_reducible assumption | refine And.intro ?_ ?_ | exact (rfl : (_ : SV) = _) | exact (rfl : (_ : List SC) = _) | (show drawOk _ _ _ = true; exact rfl) | (show ((0 : Nat) : Int) = 0; exact rfl))
    all_goals (try simp only [Ctr.reads, dTag_eta, dRoad_eta, dLetter_eta, dAddr_eta, dSub_eta, dHalf_eta, dPiece_eta, dPolicy_eta, dBucket_eta, dOut_eta, dPieces_eta, dEnd_eta, dKnown_eta, dWorld_eta] at *)
    all_goals (try simp only [Bool.cond_true_left, Bool.cond_false_right, Bool.or_eq_false_iff, Bool.or_eq_true, Bool.and_eq_true, Bool.and_eq_false_imp, Bool.not_eq_true', Bool.not_eq_false', Bool.not_eq_eq_eq_not, Bool.not_true, Bool.not_false] at *)
    all_goals first | done | with_reducible assumption | with_reducible rfl | omega | grind [mCame]
set_option maxHeartbeats 1000000 in
theorem h_impl_HearCame : Ctr.holds E 57 (.reads [aEnd, aLetter] [aEnd, aRow .letter] (fun ((e : DEnd), (x : DLetter), _) => e.B) fun ((e : DEnd), (x : DLetter), _) => ((mHearCame e x).1, (mHearCame e x).2, ())) := by
  refine fn_ok (Γ := [(115, .reads [aEnd] [aEnd] (fun ((e : DEnd), _) => e.B) fun (e, _) => (e, ())), (112, .reads [aEnd] [aBool] (fun ((e : DEnd), _) => e.B) fun ((e : DEnd), _) => (mEndOk e, ())), (113, .reads [aLetter] [aBool] (fun _ => True) fun ((x : DLetter), _) => (mLetterOk x, ())), (150, .reads [aEnd, aLetter] [aInt] (fun ((e : DEnd), _) => e.B) fun ((e : DEnd), (x : DLetter), _) => (mSignedOn e x, ())), (162, .reads [aOut, aInt] [aOut] (fun ((o : DOut), (u : Int), _) => True) fun ((o : DOut), (u : Int), _) => (mCame o u, ()))]) prgOk (gcons h_impl_copyEnd (gcons h_impl_EndOk (gcons h_impl_LetterOk (gcons h_impl_SignedOn (gcons h_impl_Came gnil))))) Tryz.func57 rfl rfl rfl rfl ?_
  rintro ty ⟨(e : DEnd), (x : DLetter), _⟩ (hp : e.B)
  obtain ⟨hb1, hb2, hb3, hb4, hb5, hb6, hb7⟩ := id hp
  have hgb := mSignedOn_bd e x
  refine ⟨[], ?_⟩
  repeat' ((conv => whnf); first | refine toOb2 ?_ | refine And.intro (fun _ => ?_) (fun _ => ?_) | refine And.intro ?_ ?_ | refine toEx2 ?_ | refine toY ?_ | intro _)
  all_goals first | refine Ob2.mk ?_ | (show drawOk _ _ _ = true; exact rfl)
  all_goals (try simp only [allP, side, Ctr.reads, dTag_eta, dRoad_eta, dLetter_eta, dAddr_eta, dSub_eta, dHalf_eta, dPiece_eta, dPolicy_eta, dBucket_eta, dOut_eta, dPieces_eta, dEnd_eta, dKnown_eta, dWorld_eta]); all_goals repeat' (first | with_reducible exact rfl | exact trivial | with_reducible assumption | refine And.intro ?_ ?_ | exact (rfl : (_ : SV) = _) | exact (rfl : (_ : List SC) = _) | (show drawOk _ _ _ = true; exact rfl) | (show ((0 : Nat) : Int) = 0; exact rfl))
  all_goals (try simp only [ETy.frm, dTag_beq, List.set_set, List.length_set, List.nil_append, Ctr.reads, dTag_eta, dRoad_eta, dLetter_eta, dAddr_eta, dSub_eta, dHalf_eta, dPiece_eta, dPolicy_eta, dBucket_eta, dOut_eta, dPieces_eta, dEnd_eta, dKnown_eta, dWorld_eta] at *)
  all_goals (try simp only [Bool.cond_true_left, Bool.cond_false_right, Bool.or_eq_false_iff, Bool.or_eq_true, Bool.and_eq_true, Bool.and_eq_false_imp, Bool.not_eq_true', Bool.not_eq_false', Bool.not_eq_eq_eq_not, Bool.not_true, Bool.not_false] at *)
  all_goals first | done | with_reducible assumption | with_reducible rfl | omega | grind [mHearCame, ltr, mBetween, setSub, gSub, mL20On]
set_option maxHeartbeats 1000000 in
theorem h_impl_HearReset : Ctr.holds E 48 (.reads [aEnd, aLetter] [aEnd, aRow .letter] (fun ((e : DEnd), (x : DLetter), _) => e.B) fun ((e : DEnd), (x : DLetter), _) => ((mHearReset e x).1, (mHearReset e x).2, ())) := by
  refine fn_ok (Γ := [(115, .reads [aEnd] [aEnd] (fun ((e : DEnd), _) => e.B) fun (e, _) => (e, ())), (150, .reads [aEnd, aLetter] [aInt] (fun ((e : DEnd), _) => e.B) fun ((e : DEnd), (x : DLetter), _) => (mSignedOn e x, ())), (112, .reads [aEnd] [aBool] (fun ((e : DEnd), _) => e.B) fun ((e : DEnd), _) => (mEndOk e, ())), (113, .reads [aLetter] [aBool] (fun _ => True) fun ((x : DLetter), _) => (mLetterOk x, ()))]) prgOk (gcons h_impl_copyEnd (gcons h_impl_SignedOn (gcons h_impl_EndOk (gcons h_impl_LetterOk gnil)))) Tryz.func48 rfl rfl rfl rfl ?_
  rintro ty ⟨(e : DEnd), (x : DLetter), _⟩ (hp : e.B)
  obtain ⟨hb1, hb2, hb3, hb4, hb5, hb6, hb7⟩ := id hp
  have hgb := mSignedOn_bd e x
  refine ⟨[], ?_⟩
  repeat' ((conv => whnf); first | refine toOb2 ?_ | refine And.intro (fun _ => ?_) (fun _ => ?_) | refine And.intro ?_ ?_ | refine toEx2 ?_ | refine toY ?_ | intro _)
  all_goals first | refine Ob2.mk ?_ | (show drawOk _ _ _ = true; exact rfl)
  all_goals (try simp only [allP, side, Ctr.reads, dTag_eta, dRoad_eta, dLetter_eta, dAddr_eta, dSub_eta, dHalf_eta, dPiece_eta, dPolicy_eta, dBucket_eta, dOut_eta, dPieces_eta, dEnd_eta, dKnown_eta, dWorld_eta]); all_goals repeat' (first | with_reducible exact rfl | exact trivial | with_reducible assumption | refine And.intro ?_ ?_ | exact (rfl : (_ : SV) = _) | exact (rfl : (_ : List SC) = _) | (show drawOk _ _ _ = true; exact rfl) | (show ((0 : Nat) : Int) = 0; exact rfl))
  all_goals (try simp only [ETy.frm, dTag_beq, List.set_set, List.length_set, List.nil_append, Ctr.reads, dTag_eta, dRoad_eta, dLetter_eta, dAddr_eta, dSub_eta, dHalf_eta, dPiece_eta, dPolicy_eta, dBucket_eta, dOut_eta, dPieces_eta, dEnd_eta, dKnown_eta, dWorld_eta] at *)
  all_goals (try simp only [Bool.cond_true_left, Bool.cond_false_right, Bool.or_eq_false_iff, Bool.or_eq_true, Bool.and_eq_true, Bool.and_eq_false_imp, Bool.not_eq_true', Bool.not_eq_false', Bool.not_eq_eq_eq_not, Bool.not_true, Bool.not_false] at *)
  all_goals first | done | with_reducible assumption | with_reducible rfl | omega | grind [mHearReset, ltr, mBetween, setSub, gSub, mL20On]
end Go.Proofs.YtjlbibidgdnjdaaGreat
