/- Contracts of functions of the program, each shown over the text. -/
import Derived.Test.YtjlbibidgdnjdaaGreatFun4
set_option linter.unusedVariables false
set_option linter.unusedSimpArgs false
set_option maxRecDepth 100000
namespace Go.Proofs.YtjlbibidgdnjdaaGreat
open Go.Eng
set_option maxHeartbeats 1000000 in
theorem h_spec_l19Asks : Ctr.holds E 157 (.reads [aEnd, aSub] [aLetter] (fun ((e : DEnd), (s : DSub), _) => True) fun ((e : DEnd), (s : DSub), _) => (mJoinLetter e s, ())) := by
  refine fn_ok (Γ := [(202, .reads [aInt] [aInt] (fun _ => True) fun ((s : Int), _) => (mTokenFor s, ())), (137, .reads [aRoad, aLetter] [aLetter] (fun _ => True) fun ((r : DRoad), (x : DLetter), _) => (mBetween r x, ()))]) prgOk (gcons h_spec_TokenFor (gcons h_spec_Between gnil)) Tryz.func157 rfl rfl rfl rfl ?_
  rintro ty ⟨(e : DEnd), (s : DSub), _⟩ hp
  refine ⟨[], ?_⟩
  repeat' ((conv => whnf); first | refine toOb2 ?_ | refine And.intro (fun _ => ?_) (fun _ => ?_) | refine And.intro ?_ ?_ | refine toEx2 ?_ | refine toY ?_ | intro _)
  all_goals first | refine Ob2.mk ?_ | (show drawOk _ _ _ = true; exact rfl)
  all_goals (try simp only [allP, side, Ctr.reads, dTag_eta, dRoad_eta, dLetter_eta, dAddr_eta, dSub_eta, dHalf_eta, dPiece_eta, dPolicy_eta, dBucket_eta, dOut_eta, dPieces_eta, dEnd_eta, dKnown_eta, dWorld_eta]); all_goals repeat' (first | with_reducible exact rfl | exact trivial | with_reducible assumption | refine And.intro ?_ ?_ | exact (rfl : (_ : SV) = _) | exact (rfl : (_ : List SC) = _) | (show drawOk _ _ _ = true; exact rfl) | (show ((0 : Nat) : Int) = 0; exact rfl))
  all_goals (try simp only [Ctr.reads, dTag_eta, dRoad_eta, dLetter_eta, dAddr_eta, dSub_eta, dHalf_eta, dPiece_eta, dPolicy_eta, dBucket_eta, dOut_eta, dPieces_eta, dEnd_eta, dKnown_eta, dWorld_eta] at *)
  all_goals (try simp only [Bool.cond_true_left, Bool.cond_false_right, Bool.or_eq_false_iff, Bool.or_eq_true, Bool.and_eq_true, Bool.and_eq_false_imp, Bool.not_eq_true', Bool.not_eq_false', Bool.not_eq_eq_eq_not, Bool.not_true, Bool.not_false] at *)
  all_goals first | done | with_reducible assumption | with_reducible rfl | omega | grind [mJoinLetter, ltr, mBetween]
set_option maxHeartbeats 1000000 in
theorem h_spec_TagDone : Ctr.holds E 181 (.reads [aInt, aInt, aInt, aInt] [aTag] (fun ((m : Int), (t : Int), (a : Int), (b : Int), _) => True) fun ((m : Int), (t : Int), (a : Int), (b : Int), _) => (mTagDone m t a b, ())) := by
  refine fn_ok (Γ := []) prgOk gnil Tryz.func181 rfl rfl rfl rfl ?_
  rintro ty ⟨(m : Int), (t : Int), (a : Int), (b : Int), _⟩ hp
  refine ⟨[], ?_⟩
  repeat' ((conv => whnf); first | refine toOb2 ?_ | refine And.intro (fun _ => ?_) (fun _ => ?_) | refine And.intro ?_ ?_ | refine toEx2 ?_ | intro _)
  all_goals first | refine Ob2.mk ?_ | (show drawOk _ _ _ = true; exact rfl)
  all_goals (try simp only [allP, side, Ctr.reads, dTag_eta, dRoad_eta, dLetter_eta, dAddr_eta, dSub_eta, dHalf_eta, dPiece_eta, dPolicy_eta, dBucket_eta, dOut_eta, dPieces_eta, dEnd_eta, dKnown_eta, dWorld_eta]); all_goals repeat' (first | with_reducible exact rfl | exact trivial | with_reducible assumption | refine And.intro ?_ ?_ | exact (rfl : (_ : SV) = _) | exact (rfl : (_ : List SC) = _) | (show drawOk _ _ _ = true; exact rfl) | (show ((0 : Nat) : Int) = 0; exact rfl))
  all_goals (try simp only [Ctr.reads, dTag_eta, dRoad_eta, dLetter_eta, dAddr_eta, dSub_eta, dHalf_eta, dPiece_eta, dPolicy_eta, dBucket_eta, dOut_eta, dPieces_eta, dEnd_eta, dKnown_eta, dWorld_eta] at *)
  all_goals first | done | with_reducible assumption | with_reducible rfl | grind [mTagDone]
set_option maxHeartbeats 1000000 in
theorem h_spec_l19Proves : Ctr.holds E 164 (.reads [aEnd, aSub] [aLetter] (fun ((e : DEnd), (s : DSub), _) => True) fun ((e : DEnd), (s : DSub), _) => (mDoneLetter e s, ())) := by
  refine fn_ok (Γ := [(181, .reads [aInt, aInt, aInt, aInt] [aTag] (fun ((m : Int), (t : Int), (a : Int), (b : Int), _) => True) fun ((m : Int), (t : Int), (a : Int), (b : Int), _) => (mTagDone m t a b, ())), (137, .reads [aRoad, aLetter] [aLetter] (fun _ => True) fun ((r : DRoad), (x : DLetter), _) => (mBetween r x, ()))]) prgOk (gcons h_spec_TagDone (gcons h_spec_Between gnil)) Tryz.func164 rfl rfl rfl rfl ?_
  rintro ty ⟨(e : DEnd), (s : DSub), _⟩ hp
  refine ⟨[], ?_⟩
  repeat' ((conv => whnf); first | refine toOb2 ?_ | refine And.intro (fun _ => ?_) (fun _ => ?_) | refine And.intro ?_ ?_ | refine toEx2 ?_ | refine toY ?_ | intro _)
  all_goals first | refine Ob2.mk ?_ | (show drawOk _ _ _ = true; exact rfl)
  all_goals (try simp only [allP, side, Ctr.reads, dTag_eta, dRoad_eta, dLetter_eta, dAddr_eta, dSub_eta, dHalf_eta, dPiece_eta, dPolicy_eta, dBucket_eta, dOut_eta, dPieces_eta, dEnd_eta, dKnown_eta, dWorld_eta]); all_goals repeat' (first | with_reducible exact rfl | exact trivial | with_reducible assumption | refine And.intro ?_ ?_ | exact (rfl : (_ : SV) = _) | exact (rfl : (_ : List SC) = _) | (show drawOk _ _ _ = true; exact rfl) | (show ((0 : Nat) : Int) = 0; exact rfl))
  all_goals (try simp only [Ctr.reads, dTag_eta, dRoad_eta, dLetter_eta, dAddr_eta, dSub_eta, dHalf_eta, dPiece_eta, dPolicy_eta, dBucket_eta, dOut_eta, dPieces_eta, dEnd_eta, dKnown_eta, dWorld_eta] at *)
  all_goals (try simp only [Bool.cond_true_left, Bool.cond_false_right, Bool.or_eq_false_iff, Bool.or_eq_true, Bool.and_eq_true, Bool.and_eq_false_imp, Bool.not_eq_true', Bool.not_eq_false', Bool.not_eq_eq_eq_not, Bool.not_true, Bool.not_false] at *)
  all_goals first | done | with_reducible assumption | with_reducible rfl | omega | grind [mDoneLetter, mTagDone, ltr, mBetween]
set_option maxHeartbeats 1000000 in
theorem h_impl_joinLetter : Ctr.holds E 160 (.reads [aEnd, aSub] [aLetter] (fun ((e : DEnd), (s : DSub), _) => True) fun ((e : DEnd), (s : DSub), _) => (mJoinLetter e s, ())) := by
  refine fn_ok (Γ := [(205, .reads [aInt] [aInt] (fun _ => True) fun ((s : Int), _) => (mTokenFor s, ())), (139, .reads [aRoad, aLetter] [aLetter] (fun _ => True) fun ((r : DRoad), (x : DLetter), _) => (mBetween r x, ()))]) prgOk (gcons h_impl_TokenFor (gcons h_impl_Between gnil)) Tryz.func160 rfl rfl rfl rfl ?_
  rintro ty ⟨(e : DEnd), (s : DSub), _⟩ hp
  refine ⟨[], ?_⟩
  repeat' ((conv => whnf); first | refine toOb2 ?_ | refine And.intro (fun _ => ?_) (fun _ => ?_) | refine And.intro ?_ ?_ | refine toEx2 ?_ | refine toY ?_ | intro _)
  all_goals first | refine Ob2.mk ?_ | (show drawOk _ _ _ = true; exact rfl)
  all_goals (try simp only [allP, side, Ctr.reads, dTag_eta, dRoad_eta, dLetter_eta, dAddr_eta, dSub_eta, dHalf_eta, dPiece_eta, dPolicy_eta, dBucket_eta, dOut_eta, dPieces_eta, dEnd_eta, dKnown_eta, dWorld_eta]); all_goals repeat' (first | with_reducible exact rfl | exact trivial | with_reducible assumption | refine And.intro ?_ ?_ | exact (rfl : (_ : SV) = _) | exact (rfl : (_ : List SC) = _) | (show drawOk _ _ _ = true; exact rfl) | (show ((0 : Nat) : Int) = 0; exact rfl))
  all_goals (try simp only [Ctr.reads, dTag_eta, dRoad_eta, dLetter_eta, dAddr_eta, dSub_eta, dHalf_eta, dPiece_eta, dPolicy_eta, dBucket_eta, dOut_eta, dPieces_eta, dEnd_eta, dKnown_eta, dWorld_eta] at *)
  all_goals (try simp only [Bool.cond_true_left, Bool.cond_false_right, Bool.or_eq_false_iff, Bool.or_eq_true, Bool.and_eq_true, Bool.and_eq_false_imp, Bool.not_eq_true', Bool.not_eq_false', Bool.not_eq_eq_eq_not, Bool.not_true, Bool.not_false] at *)
  all_goals first | done | with_reducible assumption | with_reducible rfl | omega | grind [mJoinLetter, ltr, mBetween]
set_option maxHeartbeats 1000000 in
theorem h_impl_TagDone : Ctr.holds E 185 (.reads [aInt, aInt, aInt, aInt] [aTag] (fun ((m : Int), (t : Int), (a : Int), (b : Int), _) => True) fun ((m : Int), (t : Int), (a : Int), (b : Int), _) => (mTagDone m t a b, ())) := by
  refine fn_ok (Γ := []) prgOk gnil Tryz.func185 rfl rfl rfl rfl ?_
  rintro ty ⟨(m : Int), (t : Int), (a : Int), (b : Int), _⟩ hp
  refine ⟨[], ?_⟩
  repeat' ((conv => whnf); first | refine toOb2 ?_ | refine And.intro (fun _ => ?_) (fun _ => ?_) | refine And.intro ?_ ?_ | refine toEx2 ?_ | intro _)
  all_goals first | refine Ob2.mk ?_ | (show drawOk _ _ _ = true; exact rfl)
  all_goals (try simp only [allP, side, Ctr.reads, dTag_eta, dRoad_eta, dLetter_eta, dAddr_eta, dSub_eta, dHalf_eta, dPiece_eta, dPolicy_eta, dBucket_eta, dOut_eta, dPieces_eta, dEnd_eta, dKnown_eta, dWorld_eta]); all_goals repeat' (first | with_reducible exact rfl | exact trivial | with_reducible assumption | refine And.intro ?_ ?_ | exact (rfl : (_ : SV) = _) | exact (rfl : (_ : List SC) = _) | (show drawOk _ _ _ = true; exact rfl) | (show ((0 : Nat) : Int) = 0; exact rfl))
  all_goals (try simp only [Ctr.reads, dTag_eta, dRoad_eta, dLetter_eta, dAddr_eta, dSub_eta, dHalf_eta, dPiece_eta, dPolicy_eta, dBucket_eta, dOut_eta, dPieces_eta, dEnd_eta, dKnown_eta, dWorld_eta] at *)
  all_goals first | done | with_reducible assumption | with_reducible rfl | grind [mTagDone]
set_option maxHeartbeats 1000000 in
theorem h_impl_doneLetter : Ctr.holds E 166 (.reads [aEnd, aSub] [aLetter] (fun ((e : DEnd), (s : DSub), _) => True) fun ((e : DEnd), (s : DSub), _) => (mDoneLetter e s, ())) := by
  refine fn_ok (Γ := [(185, .reads [aInt, aInt, aInt, aInt] [aTag] (fun ((m : Int), (t : Int), (a : Int), (b : Int), _) => True) fun ((m : Int), (t : Int), (a : Int), (b : Int), _) => (mTagDone m t a b, ())), (139, .reads [aRoad, aLetter] [aLetter] (fun _ => True) fun ((r : DRoad), (x : DLetter), _) => (mBetween r x, ()))]) prgOk (gcons h_impl_TagDone (gcons h_impl_Between gnil)) Tryz.func166 rfl rfl rfl rfl ?_
  rintro ty ⟨(e : DEnd), (s : DSub), _⟩ hp
  refine ⟨[], ?_⟩
  repeat' ((conv => whnf); first | refine toOb2 ?_ | refine And.intro (fun _ => ?_) (fun _ => ?_) | refine And.intro ?_ ?_ | refine toEx2 ?_ | refine toY ?_ | intro _)
  all_goals first | refine Ob2.mk ?_ | (show drawOk _ _ _ = true; exact rfl)
  all_goals (try simp only [allP, side, Ctr.reads, dTag_eta, dRoad_eta, dLetter_eta, dAddr_eta, dSub_eta, dHalf_eta, dPiece_eta, dPolicy_eta, dBucket_eta, dOut_eta, dPieces_eta, dEnd_eta, dKnown_eta, dWorld_eta]); all_goals repeat' (first | with_reducible exact rfl | exact trivial | with_reducible assumption | refine And.intro ?_ ?_ | exact (rfl : (_ : SV) = _) | exact (rfl : (_ : List SC) = _) | (show drawOk _ _ _ = true; exact rfl) | (show ((0 : Nat) : Int) = 0; exact rfl))
  all_goals (try simp only [Ctr.reads, dTag_eta, dRoad_eta, dLetter_eta, dAddr_eta, dSub_eta, dHalf_eta, dPiece_eta, dPolicy_eta, dBucket_eta, dOut_eta, dPieces_eta, dEnd_eta, dKnown_eta, dWorld_eta] at *)
  all_goals (try simp only [Bool.cond_true_left, Bool.cond_false_right, Bool.or_eq_false_iff, Bool.or_eq_true, Bool.and_eq_true, Bool.and_eq_false_imp, Bool.not_eq_true', Bool.not_eq_false', Bool.not_eq_eq_eq_not, Bool.not_true, Bool.not_false] at *)
  all_goals first | done | with_reducible assumption | with_reducible rfl | omega | grind [mDoneLetter, mTagDone, ltr, mBetween]
set_option maxHeartbeats 1000000 in
theorem h_spec_l19Far : Ctr.holds E 156 (.reads [aEnd, aInt] [aBool] (fun ((e : DEnd), (a : Int), _) => e.B) fun ((e : DEnd), (a : Int), _) => (mFarHas e a, ())) := by
  refine fn_ok (Γ := []) prgOk gnil Tryz.func156 rfl rfl rfl rfl ?_
  rintro ty ⟨(e : DEnd), (a : Int), _⟩ (hp : e.B)
  obtain ⟨hb1, hb2, hb3, hb4, hb5, hb6, hb7⟩ := id hp
  refine ⟨[(2, { X := Nat, inv := fun i => i ≤ e.far.length ∧ anyL (fun x : DAddr => x.addr == a) (e.far.drop i) = mFarHas e a, mu := fun i => e.far.length - i, vk := [5], ov := fun i => [.a (.c (.leaf (.int (i : Int))))], bk := [], ob := fun i => [], rk := [], orr := fun i => [] })], ?_⟩
  conv => whnf
  refine And.intro ⟨(0 : Nat), Ob.mk ?_, ?_⟩ (fun (i : Nat) hi => ?_)
  · exact And.intro (Nat.zero_le _) rfl
  · conv => whnf
    refine Ob.mk ?_
    all_goals (try simp only [allP, side, Ctr.reads, dTag_eta, dRoad_eta, dLetter_eta, dAddr_eta, dSub_eta, dHalf_eta, dPiece_eta, dPolicy_eta, dBucket_eta, dOut_eta, dPieces_eta, dEnd_eta, dKnown_eta, dWorld_eta]); all_goals repeat' (first | with_reducible exact rfl | exact trivial | with_reducible assumption | refine And.intro ?_ ?_ | exact (rfl : (_ : SV) = _) | exact (rfl : (_ : List SC) = _) | (show drawOk _ _ _ = true; exact rfl) | (show ((0 : Nat) : Int) = 0; exact rfl))
  obtain ⟨hi, hm⟩ := hi
  have hi : i ≤ e.far.length := hi
  have hm : anyL (fun x : DAddr => x.addr == a) (e.far.drop i) = mFarHas e a := hm
  rcases Nat.lt_or_ge i e.far.length with hlt | hge
  · obtain ⟨x, hx, hxi, hd⟩ := at_step e.far i (ETy.zero .addr) hlt
    rw [hd, anyL] at hm
    have hw := w64_succ hlt (hb2)
    repeat' ((conv => whnf); first | refine toOb2 ?_ | refine And.intro (fun _ => ?_) (fun _ => ?_) | refine And.intro ?_ ?_ | refine toEx2 ?_ | intro _)
    all_goals try (exfalso; exact Nat.lt_irrefl _ (Nat.lt_of_lt_of_le hlt (ge_of_dec (by assumption))))
    all_goals first | refine Ob2.mk ?_ | refine Ex2.of (i + 1) ?_ ?_ | skip
    all_goals try ((conv => whnf); refine Ob.mk ?_)
    all_goals (try simp only [allP, side, Ctr.reads, dTag_eta, dRoad_eta, dLetter_eta, dAddr_eta, dSub_eta, dHalf_eta, dPiece_eta, dPolicy_eta, dBucket_eta, dOut_eta, dPieces_eta, dEnd_eta, dKnown_eta, dWorld_eta]); all_goals repeat' (first | with_reducible exact rfl | exact trivial | with_reducible assumption | refine And.intro ?_ ?_ | exact (rfl : (_ : SV) = _) | exact (rfl : (_ : List SC) = _) | (show drawOk _ _ _ = true; exact rfl) | (show ((0 : Nat) : Int) = 0; exact rfl))
    all_goals (try simp only [hx, Ctr.reads, dTag_eta, dRoad_eta, dLetter_eta, dAddr_eta, dSub_eta, dHalf_eta, dPiece_eta, dPolicy_eta, dBucket_eta, dOut_eta, dPieces_eta, dEnd_eta, dKnown_eta, dWorld_eta] at *)
    all_goals first | done | grind [mFarHas]
  · have hl : i = e.far.length := by omega
    subst hl
    rw [List.drop_length, anyL] at hm
    repeat' ((conv => whnf); first | refine toOb2 ?_ | refine And.intro (fun _ => ?_) (fun _ => ?_) | refine And.intro ?_ ?_ | refine toEx2 ?_ | intro _)
    all_goals try (exfalso; exact Nat.lt_irrefl _ (Nat.lt_of_lt_of_le (lt_of_dec (by assumption)) hge))
    all_goals first | refine Ob2.mk ?_ | refine Ex2.of (e.far.length + 1) ?_ ?_ | skip
    all_goals try ((conv => whnf); refine Ob.mk ?_)
    all_goals (try simp only [allP, side, Ctr.reads, dTag_eta, dRoad_eta, dLetter_eta, dAddr_eta, dSub_eta, dHalf_eta, dPiece_eta, dPolicy_eta, dBucket_eta, dOut_eta, dPieces_eta, dEnd_eta, dKnown_eta, dWorld_eta]); all_goals repeat' (first | with_reducible exact rfl | exact trivial | with_reducible assumption | refine And.intro ?_ ?_ | exact (rfl : (_ : SV) = _) | exact (rfl : (_ : List SC) = _) | (show drawOk _ _ _ = true; exact rfl) | (show ((0 : Nat) : Int) = 0; exact rfl))
    all_goals (try simp only [Ctr.reads, dTag_eta, dRoad_eta, dLetter_eta, dAddr_eta, dSub_eta, dHalf_eta, dPiece_eta, dPolicy_eta, dBucket_eta, dOut_eta, dPieces_eta, dEnd_eta, dKnown_eta, dWorld_eta] at *)
    all_goals first | done | grind [mFarHas]
set_option maxHeartbeats 1000000 in
theorem h_spec_l18Room : Ctr.holds E 141 (.reads [aEnd, aInt] [aBool] (fun ((e : DEnd), (n : Int), _) => n = 2) fun ((e : DEnd), (n : Int), _) => (mRoom e, ())) := by
  refine fn_ok (Γ := [(136, .reads [aInt, aInt, aInt] [aBool] (fun _ => True) fun ((n : Int), (l : Int), (h : Int), _) => (mIn n l h, ()))]) prgOk (gcons h_spec_l01In gnil) Tryz.func141 rfl rfl rfl rfl ?_
  rintro ty ⟨(e : DEnd), (n : Int), _⟩ hp
  obtain rfl : n = 2 := hp
  refine ⟨[], ?_⟩
  repeat' ((conv => whnf); first | refine toOb2 ?_ | refine And.intro (fun _ => ?_) (fun _ => ?_) | refine And.intro ?_ ?_ | refine toEx2 ?_ | refine toY ?_ | intro _)
  all_goals first | refine Ob2.mk ?_ | (show drawOk _ _ _ = true; exact rfl)
  all_goals (try simp only [allP, side, Ctr.reads, dTag_eta, dRoad_eta, dLetter_eta, dAddr_eta, dSub_eta, dHalf_eta, dPiece_eta, dPolicy_eta, dBucket_eta, dOut_eta, dPieces_eta, dEnd_eta, dKnown_eta, dWorld_eta]); all_goals repeat' (first | with_reducible exact rfl | exact trivial | with_reducible assumption | refine And.intro ?_ ?_ | exact (rfl : (_ : SV) = _) | exact (rfl : (_ : List SC) = _) | (show drawOk _ _ _ = true; exact rfl) | (show ((0 : Nat) : Int) = 0; exact rfl))
  all_goals (try simp only [(by decide : w64 (1000000000 - w64 (2 * 2)) = 999999996), Ctr.reads, dTag_eta, dRoad_eta, dLetter_eta, dAddr_eta, dSub_eta, dHalf_eta, dPiece_eta, dPolicy_eta, dBucket_eta, dOut_eta, dPieces_eta, dEnd_eta, dKnown_eta, dWorld_eta] at *)
  all_goals (try simp only [Bool.cond_true_left, Bool.cond_false_right, Bool.or_eq_false_iff, Bool.or_eq_true, Bool.and_eq_true, Bool.and_eq_false_imp, Bool.not_eq_true', Bool.not_eq_false', Bool.not_eq_eq_eq_not, Bool.not_true, Bool.not_false] at *)
  all_goals first | done | with_reducible assumption | with_reducible rfl | omega | grind [mRoom]
set_option maxHeartbeats 1000000 in
theorem h_spec_l18Draw : Ctr.holds E 142 (.reads [aEnd] [aEnd, aInt] (fun ((e : DEnd), _) => e.B) fun ((e : DEnd), _) => ((mDrawn e).1, (mDrawn e).2, ())) := by
  refine fn_ok (Γ := [(267, .reads [aEnd] [aEnd, aInt] (fun ((e : DEnd), _) => e.B) fun ((e : DEnd), _) => ((mDrawn e).1, (mDrawn e).2, ()))]) prgOk (gcons h_spec_Drawn gnil) Tryz.func142 rfl rfl rfl rfl ?_
  rintro ty ⟨(e : DEnd), _⟩ (hp : e.B)
  have hB := hp
  obtain ⟨hb1, hb2, hb3, hb4, hb5, hb6, hb7⟩ := hp
  refine ⟨[], ?_⟩
  repeat' ((conv => whnf); first | refine toOb2 ?_ | refine And.intro (fun _ => ?_) (fun _ => ?_) | refine And.intro ?_ ?_ | refine toEx2 ?_ | refine toY ?_ | intro _)
  all_goals first | refine Ob2.mk ?_ | (show drawOk _ _ _ = true; exact rfl)
  all_goals (try simp only [allP, side, Ctr.reads, dTag_eta, dRoad_eta, dLetter_eta, dAddr_eta, dSub_eta, dHalf_eta, dPiece_eta, dPolicy_eta, dBucket_eta, dOut_eta, dPieces_eta, dEnd_eta, dKnown_eta, dWorld_eta]); all_goals repeat' (first | with_reducible exact rfl | exact trivial | with_reducible assumption | refine And.intro ?_ ?_ | exact (rfl : (_ : SV) = _) | exact (rfl : (_ : List SC) = _) | (show drawOk _ _ _ = true; exact rfl) | (show ((0 : Nat) : Int) = 0; exact rfl))
  all_goals (try simp only [Ctr.reads, dTag_eta, dRoad_eta, dLetter_eta, dAddr_eta, dSub_eta, dHalf_eta, dPiece_eta, dPolicy_eta, dBucket_eta, dOut_eta, dPieces_eta, dEnd_eta, dKnown_eta, dWorld_eta] at *)
  all_goals (try simp only [Bool.cond_true_left, Bool.cond_false_right, Bool.or_eq_false_iff, Bool.or_eq_true, Bool.and_eq_true, Bool.and_eq_false_imp, Bool.not_eq_true', Bool.not_eq_false', Bool.not_eq_eq_eq_not, Bool.not_true, Bool.not_false] at *)
  all_goals first | done | with_reducible assumption | with_reducible rfl | omega | grind [mDrawn]
set_option maxHeartbeats 1000000 in
theorem h_spec_l18Sub : Ctr.holds E 143 (⟨[aEnd, aSub], [.own, .ro], [aEnd], (fun ((e : DEnd), _) => e.B), (fun ((e : DEnd), (s : DSub), _) => ({ e with subs := e.subs ++ [s] }, ())), fun x => x⟩) := by
  refine fn_ok (Γ := []) prgOk gnil Tryz.func143 rfl rfl rfl rfl ?_
  rintro ty ⟨(e : DEnd), (s : DSub), _⟩ (hp : e.B)
  obtain ⟨hb1, hb2, hb3, hb4, hb5, hb6, hb7⟩ := id hp
  refine ⟨[], ?_⟩
  repeat' ((conv => whnf); first | refine toOb2 ?_ | refine And.intro (fun _ => ?_) (fun _ => ?_) | refine And.intro ?_ ?_ | refine toEx2 ?_ | intro _)
  all_goals first | refine Ob2.mk ?_ | (show drawOk _ _ _ = true; exact rfl)
  all_goals (try simp only [allP, side, Ctr.reads, dTag_eta, dRoad_eta, dLetter_eta, dAddr_eta, dSub_eta, dHalf_eta, dPiece_eta, dPolicy_eta, dBucket_eta, dOut_eta, dPieces_eta, dEnd_eta, dKnown_eta, dWorld_eta]); all_goals repeat' (first | with_reducible exact rfl | exact trivial | with_reducible assumption | refine And.intro ?_ ?_ | exact (rfl : (_ : SV) = _) | exact (rfl : (_ : List SC) = _) | (show drawOk _ _ _ = true; exact rfl) | (show ((0 : Nat) : Int) = 0; exact rfl))
  all_goals (try simp only [ETy.frm, dTag_beq, List.set_set, List.length_set, List.nil_append, Ctr.reads, dTag_eta, dRoad_eta, dLetter_eta, dAddr_eta, dSub_eta, dHalf_eta, dPiece_eta, dPolicy_eta, dBucket_eta, dOut_eta, dPieces_eta, dEnd_eta, dKnown_eta, dWorld_eta] at *)
  all_goals (try simp only [Bool.cond_true_left, Bool.cond_false_right, Bool.or_eq_false_iff, Bool.or_eq_true, Bool.and_eq_true, Bool.and_eq_false_imp, Bool.not_eq_true', Bool.not_eq_false', Bool.not_eq_eq_eq_not, Bool.not_true, Bool.not_false] at *)
  all_goals first | done | with_reducible assumption | with_reducible rfl | omega | grind []
set_option maxHeartbeats 1000000 in
theorem h_spec_Join : Ctr.holds E 53 (.reads [aEnd, aRoad, aBool] [aEnd, aRow .letter] (fun ((e : DEnd), (r : DRoad), (p : Bool), _) => e.B) fun ((e : DEnd), (r : DRoad), (p : Bool), _) => ((mJoin e r p).1, (mJoin e r p).2, ())) := by
  refine fn_ok (Γ := [(103, .reads [aEnd] [aEnd] (fun ((e : DEnd), _) => e.B) fun (e, _) => (e, ())), (100, .reads [aEnd] [aBool] (fun ((e : DEnd), _) => e.B) fun ((e : DEnd), _) => (mEndOk e, ())), (155, .reads [aRoad] [aBool] (fun _ => True) fun ((r : DRoad), _) => (mRoadNum r, ())), (140, .reads [aEnd, aRoad] [aInt] (fun ((e : DEnd), _) => e.B) fun ((e : DEnd), (r : DRoad), _) => (mSubAt e r, ())), (102, .reads [aEnd, aInt] [aBool] (fun ((e : DEnd), _) => e.B) fun ((e : DEnd), (a : Int), _) => (mOwns e a, ())), (156, .reads [aEnd, aInt] [aBool] (fun ((e : DEnd), (a : Int), _) => e.B) fun ((e : DEnd), (a : Int), _) => (mFarHas e a, ())), (141, .reads [aEnd, aInt] [aBool] (fun ((e : DEnd), (n : Int), _) => n = 2) fun ((e : DEnd), (n : Int), _) => (mRoom e, ())), (142, .reads [aEnd] [aEnd, aInt] (fun ((e : DEnd), _) => e.B) fun ((e : DEnd), _) => ((mDrawn e).1, (mDrawn e).2, ())), (143, ⟨[aEnd, aSub], [.own, .ro], [aEnd], (fun ((e : DEnd), _) => e.B), (fun ((e : DEnd), (s : DSub), _) => ({ e with subs := e.subs ++ [s] }, ())), fun x => x⟩), (157, .reads [aEnd, aSub] [aLetter] (fun ((e : DEnd), (s : DSub), _) => True) fun ((e : DEnd), (s : DSub), _) => (mJoinLetter e s, ()))]) prgOk (gcons h_spec_l17Copy (gcons h_spec_EndOk (gcons h_spec_l14Road (gcons h_spec_SubAt (gcons h_spec_OwnsAddr (gcons h_spec_l19Far (gcons h_spec_l18Room (gcons h_spec_l18Draw (gcons h_spec_l18Sub (gcons h_spec_l19Asks gnil)))))))))) Tryz.func53 rfl rfl rfl rfl ?_
  rintro ty ⟨(e : DEnd), (r : DRoad), (p : Bool), _⟩ (hp : e.B)
  obtain ⟨hb1, hb2, hb3, hb4, hb5, hb6, hb7⟩ := id hp
  have hsb := mSubAt_bd e r
  have h8 := fun h : mEndOk e = true => (endOk_split h).2.2.1
  have hnm := fun h : mEndOk e = true => endOk_nums h
  have hrm := fun h : mRoom e = true => room_bd h
  refine ⟨[], ?_⟩
  repeat' ((conv => whnf); first | refine toOb2 ?_ | refine And.intro (fun _ => ?_) (fun _ => ?_) | refine And.intro ?_ ?_ | refine toEx2 ?_ | refine toY ?_ | intro _)
  all_goals first | refine Ob2.mk ?_ | (show drawOk _ _ _ = true; exact rfl)
  all_goals (try simp only [allP, side, Ctr.reads, dTag_eta, dRoad_eta, dLetter_eta, dAddr_eta, dSub_eta, dHalf_eta, dPiece_eta, dPolicy_eta, dBucket_eta, dOut_eta, dPieces_eta, dEnd_eta, dKnown_eta, dWorld_eta]); all_goals repeat' (first | with_reducible exact rfl | exact trivial | with_reducible assumption | refine And.intro ?_ ?_ | exact (rfl : (_ : SV) = _) | exact (rfl : (_ : List SC) = _) | (show drawOk _ _ _ = true; exact rfl) | (show ((0 : Nat) : Int) = 0; exact rfl))
  all_goals (try simp only [ETy.frm, dTag_beq, List.set_set, List.length_set, List.nil_append, Ctr.reads, dTag_eta, dRoad_eta, dLetter_eta, dAddr_eta, dSub_eta, dHalf_eta, dPiece_eta, dPolicy_eta, dBucket_eta, dOut_eta, dPieces_eta, dEnd_eta, dKnown_eta, dWorld_eta] at *)
  all_goals (try simp only [Bool.cond_true_left, Bool.cond_false_right, Bool.or_eq_false_iff, Bool.or_eq_true, Bool.and_eq_true, Bool.and_eq_false_imp, Bool.not_eq_true', Bool.not_eq_false', Bool.not_eq_eq_eq_not, Bool.not_true, Bool.not_false] at *)
  all_goals (try simp only [decide_eq_true_eq, decide_eq_false_iff_not] at *)
  all_goals (try simp (disch := omega) only [w64_id] at *)
  all_goals (try simp (disch := omega) only [w64_id] at *)
  all_goals first | done | with_reducible assumption | with_reducible rfl | omega | grind [mJoin, mJoinLetter, mDrawn, mIn]
set_option maxHeartbeats 1000000 in
theorem h_impl_farAt : Ctr.holds E 159 (.reads [aEnd, aInt] [aInt] (fun ((e : DEnd), (a : Int), _) => e.B) fun ((e : DEnd), (a : Int), _) => (mFarAt e a, ())) := by
  refine fn_ok (Γ := []) prgOk gnil Tryz.func159 rfl rfl rfl rfl ?_
  rintro ty ⟨(e : DEnd), (a : Int), _⟩ (hp : e.B)
  obtain ⟨hb1, hb2, hb3, hb4, hb5, hb6, hb7⟩ := id hp
  refine ⟨[(2, { X := Nat, inv := fun i => i ≤ e.far.length ∧ dnL a e.far i = mFarAt e a, mu := fun i => i, vk := [5], ov := fun i => [.a (.c (.leaf (.int ((i : Int) - 1))))], bk := [], ob := fun i => [], rk := [], orr := fun i => [] })], ?_⟩
  conv => whnf
  refine And.intro ⟨(e.far.length : Nat), Ob.mk ?_, ?_⟩ (fun (n : Nat) hi => ?_)
  · exact And.intro (Nat.le_refl _) rfl
  · conv => whnf
    refine Ob.mk ?_
    all_goals (try simp only [allP, side, Ctr.reads, dTag_eta, dRoad_eta, dLetter_eta, dAddr_eta, dSub_eta, dHalf_eta, dPiece_eta, dPolicy_eta, dBucket_eta, dOut_eta, dPieces_eta, dEnd_eta, dKnown_eta, dWorld_eta]); all_goals repeat' (first | with_reducible exact rfl | exact trivial | with_reducible assumption | refine And.intro ?_ ?_ | exact (rfl : (_ : SV) = _) | exact (rfl : (_ : List SC) = _) | (show drawOk _ _ _ = true; exact rfl) | (show ((0 : Nat) : Int) = 0; exact rfl))
    all_goals first | done | exact w64_id (by omega) (by omega) | (exact (w64_id (by omega) (by omega)).symm) | (simp; omega) | rfl
  obtain ⟨hi, hm⟩ := hi
  have hi : n ≤ e.far.length := hi
  have hm : dnL a e.far n = mFarAt e a := hm
  rcases n with _ | n
  · repeat' ((conv => whnf); first | refine toOb2 ?_ | refine And.intro (fun _ => ?_) (fun _ => ?_) | refine And.intro ?_ ?_ | refine toEx2 ?_ | intro _)
    all_goals try (exfalso; have h9 := of_decide_eq_true (by assumption); simp at h9; omega)
    all_goals first | refine Ob2.mk ?_ | refine Ex2.of ((0 : Nat)) ?_ ?_ | skip
    all_goals try ((conv => whnf); refine Ob.mk ?_)
    all_goals (try simp only [allP, side, Ctr.reads, dTag_eta, dRoad_eta, dLetter_eta, dAddr_eta, dSub_eta, dHalf_eta, dPiece_eta, dPolicy_eta, dBucket_eta, dOut_eta, dPieces_eta, dEnd_eta, dKnown_eta, dWorld_eta]); all_goals repeat' (first | with_reducible exact rfl | exact trivial | with_reducible assumption | refine And.intro ?_ ?_ | exact (rfl : (_ : SV) = _) | exact (rfl : (_ : List SC) = _) | (show drawOk _ _ _ = true; exact rfl) | (show ((0 : Nat) : Int) = 0; exact rfl))
    all_goals (try simp only [Ctr.reads, dTag_eta, dRoad_eta, dLetter_eta, dAddr_eta, dSub_eta, dHalf_eta, dPiece_eta, dPolicy_eta, dBucket_eta, dOut_eta, dPieces_eta, dEnd_eta, dKnown_eta, dWorld_eta] at *)
    all_goals (try simp only [decide_eq_true_eq, decide_eq_false_iff_not] at *)
    all_goals first | done | (exfalso; simp at *; omega) | grind [dnL]
  · have hx : ((n + 1 : Nat) : Int) - 1 = (n : Int) := by omega
    have hw : w64 ((n : Int) - 1) = (n : Int) - 1 := w64_id (by omega) (by omega)
    rw [dnL] at hm
    repeat' ((conv => whnf); first | refine toOb2 ?_ | refine And.intro (fun _ => ?_) (fun _ => ?_) | refine And.intro ?_ ?_ | refine toEx2 ?_ | intro _)
    all_goals first | refine Ob2.mk ?_ | refine Ex2.of (n) ?_ ?_ | skip
    all_goals try ((conv => whnf); refine Ob.mk ?_)
    all_goals (try simp only [allP, side, Ctr.reads, dTag_eta, dRoad_eta, dLetter_eta, dAddr_eta, dSub_eta, dHalf_eta, dPiece_eta, dPolicy_eta, dBucket_eta, dOut_eta, dPieces_eta, dEnd_eta, dKnown_eta, dWorld_eta]); all_goals repeat' (first | with_reducible exact rfl | exact trivial | with_reducible assumption | refine And.intro ?_ ?_ | exact (rfl : (_ : SV) = _) | exact (rfl : (_ : List SC) = _) | (show drawOk _ _ _ = true; exact rfl) | (show ((0 : Nat) : Int) = 0; exact rfl))
    all_goals (try simp only [hx, hw, Int.toNat_natCast, Ctr.reads, dTag_eta, dRoad_eta, dLetter_eta, dAddr_eta, dSub_eta, dHalf_eta, dPiece_eta, dPolicy_eta, dBucket_eta, dOut_eta, dPieces_eta, dEnd_eta, dKnown_eta, dWorld_eta] at *)
    all_goals (try simp only [decide_eq_true_eq, decide_eq_false_iff_not] at *)
    all_goals first | done | omega | grind
set_option maxHeartbeats 1000000 in
theorem h_impl_canDrawTwo : Ctr.holds E 144 (.reads [aEnd] [aBool] (fun ((e : DEnd), _) => True) fun ((e : DEnd), _) => (mRoom e, ())) := by
  refine fn_ok (Γ := [(138, .reads [aInt, aInt, aInt] [aBool] (fun _ => True) fun ((n : Int), (l : Int), (h : Int), _) => (mIn n l h, ()))]) prgOk (gcons h_impl_within gnil) Tryz.func144 rfl rfl rfl rfl ?_
  rintro ty ⟨(e : DEnd), _⟩ hp
  refine ⟨[], ?_⟩
  repeat' ((conv => whnf); first | refine toOb2 ?_ | refine And.intro (fun _ => ?_) (fun _ => ?_) | refine And.intro ?_ ?_ | refine toEx2 ?_ | refine toY ?_ | intro _)
  all_goals first | refine Ob2.mk ?_ | (show drawOk _ _ _ = true; exact rfl)
  all_goals (try simp only [allP, side, Ctr.reads, dTag_eta, dRoad_eta, dLetter_eta, dAddr_eta, dSub_eta, dHalf_eta, dPiece_eta, dPolicy_eta, dBucket_eta, dOut_eta, dPieces_eta, dEnd_eta, dKnown_eta, dWorld_eta]); all_goals repeat' (first | with_reducible exact rfl | exact trivial | with_reducible assumption | refine And.intro ?_ ?_ | exact (rfl : (_ : SV) = _) | exact (rfl : (_ : List SC) = _) | (show drawOk _ _ _ = true; exact rfl) | (show ((0 : Nat) : Int) = 0; exact rfl))
  all_goals (try simp only [Ctr.reads, dTag_eta, dRoad_eta, dLetter_eta, dAddr_eta, dSub_eta, dHalf_eta, dPiece_eta, dPolicy_eta, dBucket_eta, dOut_eta, dPieces_eta, dEnd_eta, dKnown_eta, dWorld_eta] at *)
  all_goals first | done | with_reducible assumption | with_reducible rfl | grind [mRoom]
set_option maxHeartbeats 1000000 in
theorem h_impl_drawTwo : Ctr.holds E 146 (⟨[aEnd], [.ref], [aInt, aInt], (fun _ => True), (fun ((e : DEnd), _) => (e.draw, w64 (e.draw + 2), ())), fun ((e : DEnd), _) => ({ e with draw := w64 (e.draw + 4) }, ())⟩) := by
  refine fn_okw (Γ := []) prgOk gnil Tryz.func146 rfl rfl rfl (fun ⟨a, _⟩ _ => ⟨by simp [LenC], trivial⟩) ?_
  rintro ty ⟨(e : DEnd), _⟩ hp
  refine ⟨[], ?_⟩
  repeat' ((conv => whnf); first | refine toOb2 ?_ | refine And.intro (fun _ => ?_) (fun _ => ?_) | refine And.intro ?_ ?_ | refine toEx2 ?_ | intro _)
  all_goals first | refine Ob2.mk ?_ | (show drawOk _ _ _ = true; exact rfl)
  all_goals (try simp only [allP, side, Ctr.reads, dTag_eta, dRoad_eta, dLetter_eta, dAddr_eta, dSub_eta, dHalf_eta, dPiece_eta, dPolicy_eta, dBucket_eta, dOut_eta, dPieces_eta, dEnd_eta, dKnown_eta, dWorld_eta]); all_goals repeat' (first | with_reducible exact rfl | exact trivial | with_reducible assumption | refine And.intro ?_ ?_ | exact (rfl : (_ : SV) = _) | exact (rfl : (_ : List SC) = _) | (show drawOk _ _ _ = true; exact rfl) | (show ((0 : Nat) : Int) = 0; exact rfl))
  all_goals (try simp only [Ctr.reads, dTag_eta, dRoad_eta, dLetter_eta, dAddr_eta, dSub_eta, dHalf_eta, dPiece_eta, dPolicy_eta, dBucket_eta, dOut_eta, dPieces_eta, dEnd_eta, dKnown_eta, dWorld_eta] at *)
  all_goals (try simp only [Bool.cond_true_left, Bool.cond_false_right, Bool.or_eq_false_iff, Bool.or_eq_true, Bool.and_eq_true, Bool.and_eq_false_imp, Bool.not_eq_true', Bool.not_eq_false', Bool.not_eq_eq_eq_not, Bool.not_true, Bool.not_false] at *)
  all_goals first | done | with_reducible assumption | with_reducible rfl | omega | grind []
set_option maxHeartbeats 1000000 in
theorem h_impl_Join : Ctr.holds E 55 (.reads [aEnd, aRoad, aBool] [aEnd, aRow .letter] (fun ((e : DEnd), (r : DRoad), (p : Bool), _) => e.B) fun ((e : DEnd), (r : DRoad), (p : Bool), _) => ((mJoin e r p).1, (mJoin e r p).2, ())) := by
  refine fn_ok (Γ := [(115, .reads [aEnd] [aEnd] (fun ((e : DEnd), _) => e.B) fun (e, _) => (e, ())), (112, .reads [aEnd] [aBool] (fun ((e : DEnd), _) => e.B) fun ((e : DEnd), _) => (mEndOk e, ())), (158, .reads [aRoad] [aBool] (fun _ => True) fun ((r : DRoad), _) => (mRoadNum r, ())), (145, .reads [aEnd, aRoad] [aInt] (fun ((e : DEnd), _) => e.B) fun ((e : DEnd), (r : DRoad), _) => (mSubAt e r, ())), (114, .reads [aEnd, aInt] [aBool] (fun ((e : DEnd), _) => e.B) fun ((e : DEnd), (a : Int), _) => (mOwns e a, ())), (159, .reads [aEnd, aInt] [aInt] (fun ((e : DEnd), (a : Int), _) => e.B) fun ((e : DEnd), (a : Int), _) => (mFarAt e a, ())), (144, .reads [aEnd] [aBool] (fun ((e : DEnd), _) => True) fun ((e : DEnd), _) => (mRoom e, ())), (146, ⟨[aEnd], [.ref], [aInt, aInt], (fun _ => True), (fun ((e : DEnd), _) => (e.draw, w64 (e.draw + 2), ())), fun ((e : DEnd), _) => ({ e with draw := w64 (e.draw + 4) }, ())⟩), (160, .reads [aEnd, aSub] [aLetter] (fun ((e : DEnd), (s : DSub), _) => True) fun ((e : DEnd), (s : DSub), _) => (mJoinLetter e s, ()))]) prgOk (gcons h_impl_copyEnd (gcons h_impl_EndOk (gcons h_impl_roadIsNumber (gcons h_impl_SubAt (gcons h_impl_OwnsAddr (gcons h_impl_farAt (gcons h_impl_canDrawTwo (gcons h_impl_drawTwo (gcons h_impl_joinLetter gnil))))))))) Tryz.func55 rfl rfl rfl rfl ?_
  rintro ty ⟨(e : DEnd), (r : DRoad), (p : Bool), _⟩ (hp : e.B)
  obtain ⟨hb1, hb2, hb3, hb4, hb5, hb6, hb7⟩ := id hp
  have hsb := mSubAt_bd e r
  have hfa := farAt_has e r.far
  have h8 := fun h : mEndOk e = true => (endOk_split h).2.2.1
  have hnm := fun h : mEndOk e = true => endOk_nums h
  have hrm := fun h : mRoom e = true => room_bd h
  refine ⟨[], ?_⟩
  repeat' ((conv => whnf); first | refine toOb2 ?_ | refine And.intro (fun _ => ?_) (fun _ => ?_) | refine And.intro ?_ ?_ | refine toEx2 ?_ | refine toY ?_ | intro _)
  all_goals first | refine Ob2.mk ?_ | (show drawOk _ _ _ = true; exact rfl)
  all_goals (try simp only [allP, side, Ctr.reads, dTag_eta, dRoad_eta, dLetter_eta, dAddr_eta, dSub_eta, dHalf_eta, dPiece_eta, dPolicy_eta, dBucket_eta, dOut_eta, dPieces_eta, dEnd_eta, dKnown_eta, dWorld_eta]); all_goals repeat' (first | with_reducible exact rfl | exact trivial | with_reducible assumption | refine And.intro ?_ ?_ | exact (rfl : (_ : SV) = _) | exact (rfl : (_ : List SC) = _) | (show drawOk _ _ _ = true; exact rfl) | (show ((0 : Nat) : Int) = 0; exact rfl))
  all_goals (try simp only [ETy.frm, dTag_beq, List.set_set, List.length_set, List.nil_append, Ctr.reads, dTag_eta, dRoad_eta, dLetter_eta, dAddr_eta, dSub_eta, dHalf_eta, dPiece_eta, dPolicy_eta, dBucket_eta, dOut_eta, dPieces_eta, dEnd_eta, dKnown_eta, dWorld_eta] at *)
  all_goals (try simp only [Bool.cond_true_left, Bool.cond_false_right, Bool.or_eq_false_iff, Bool.or_eq_true, Bool.and_eq_true, Bool.and_eq_false_imp, Bool.not_eq_true', Bool.not_eq_false', Bool.not_eq_eq_eq_not, Bool.not_true, Bool.not_false] at *)
  all_goals (try simp only [decide_eq_true_eq, decide_eq_false_iff_not] at *)
  all_goals (try simp (disch := omega) only [w64_id] at *)
  all_goals (try simp (disch := omega) only [w64_id] at *)
  all_goals first | done | with_reducible assumption | with_reducible rfl | omega | grind [mJoin, mJoinLetter, mDrawn, mIn]
end Go.Proofs.YtjlbibidgdnjdaaGreat
