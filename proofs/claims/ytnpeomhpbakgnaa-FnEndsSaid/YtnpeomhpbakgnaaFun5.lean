/- Contracts of functions of the program, each shown over the text. -/
import Derived.Test.YtnpeomhpbakgnaaFun4
set_option linter.unusedVariables false
set_option linter.unusedSimpArgs false
set_option maxRecDepth 100000
namespace Go.Proofs.Ytnpeomhpbakgnaa
open Go.Eng
set_option maxHeartbeats 1000000 in
theorem h_impl_EndNew : Ctr.holds E 6 (.reads [aInt, aInt, aPolicy] [aEnd, aBool] (fun ((s : Int), (a : Int), (p : DPolicy), _) => True) fun ((s : Int), (a : Int), (p : DPolicy), _) => ((mEndNew s a p).1, (mEndNew s a p).2, ())) := by
  refine fn_ok (Γ := [(18, .reads [aInt, aInt, aInt] [aBool] (fun _ => True) fun ((n : Int), (l : Int), (h : Int), _) => (mIn n l h, ())), (19, .reads [aPolicy] [aBool] (fun _ => True) fun ((p : DPolicy), _) => (mPolicyOk p, ())), (20, .reads [aRow .addr] [aBool] (fun ((l : List DAddr), _) => l.length ≤ 1073741824) fun ((l : List DAddr), _) => (mAddrsOk l, ())), (21, .reads [aInt, aInt] [aBucket, aBool] (fun _ => True) fun ((r : Int), (u : Int), _) => ((mBucketNew r u).1, (mBucketNew r u).2, ()))]) prgOk (gcons h_impl_within (gcons h_impl_PolicyOk (gcons h_impl_AddrsOk (gcons h_impl_BucketNew gnil)))) Try.func6 rfl rfl rfl rfl ?_
  rintro ty ⟨(s : Int), (a : Int), (p : DPolicy), _⟩ hp
  have hbn : mBucketNew 1 3 = (⟨1, 3, 3⟩, true) := by decide
  have hpn : mPutAddr [] ⟨0, a, false, true⟩ = if mAddrsOk [⟨0, a, false, true⟩] = true then ([⟨0, a, false, true⟩], true) else ([], false) := rfl
  refine ⟨[], ?_⟩
  repeat' ((conv => whnf); first | refine toOb2 ?_ | refine And.intro (fun _ => ?_) (fun _ => ?_) | refine And.intro ?_ ?_ | refine toEx2 ?_ | refine toY ?_ | intro _)
  all_goals first | refine Ob2.mk ?_ | (show drawOk _ _ _ = true; exact rfl)
  all_goals (try simp only [allP, side, Ctr.reads, dTag_eta, dRoad_eta, dLetter_eta, dAddr_eta, dSub_eta, dHalf_eta, dPiece_eta, dPolicy_eta, dBucket_eta, dOut_eta, dPieces_eta, dEnd_eta, dKnown_eta, dWorld_eta]); all_goals repeat' (first | with_reducible exact rfl | exact trivial | with_reducible assumption | refine And.intro ?_ ?_ | exact (rfl : (_ : SV) = _) | exact (rfl : (_ : List SC) = _) | (show drawOk _ _ _ = true; exact rfl) | (show ((0 : Nat) : Int) = 0; exact rfl))
  all_goals (try simp only [hbn, hpn, Ctr.reads, dTag_eta, dRoad_eta, dLetter_eta, dAddr_eta, dSub_eta, dHalf_eta, dPiece_eta, dPolicy_eta, dBucket_eta, dOut_eta, dPieces_eta, dEnd_eta, dKnown_eta, dWorld_eta] at *)
  all_goals first | done | with_reducible assumption | with_reducible rfl | grind [mEndNew]
set_option maxHeartbeats 1000000 in
theorem h_spec_PutAddr : Ctr.holds E 22 (.reads [aRow .addr, aAddr] [aRow .addr, aBool] (fun ((l : List DAddr), _) => l.length ≤ 1073741823) fun ((l : List DAddr), (a : DAddr), _) => ((mPutAddr l a).1, (mPutAddr l a).2, ())) := by
  refine fn_ok (Γ := [(43, .reads [aRow .addr, aInt] [aInt] (fun ((l : List DAddr), _) => l.length ≤ 1073741824) fun ((l : List DAddr), (n : Int), _) => (mAddrAt l n, ())), (44, .reads [aRow .addr] [aBool] (fun ((l : List DAddr), _) => l.length ≤ 1073741824) fun ((l : List DAddr), _) => (mAddrsOk l, ()))]) prgOk (gcons h_spec_AddrAt (gcons h_spec_AddrsOk gnil)) Try.func22 rfl rfl rfl rfl ?_
  rintro ty ⟨(l : List DAddr), (a : DAddr), _⟩ (hp : l.length ≤ 1073741823)
  have hpb := mAddrAt_bd l a.id
  have hpl := mPutL_len l a
  have hbig := @mPutAddr_big l a
  refine ⟨[(9, { X := Nat, inv := fun i => i ≤ l.length ∧ plL a.id (l.drop i) i = plL a.id l 0, mu := fun i => l.length - i, vk := [8], ov := fun i => [.a (.c (.leaf (.int (i : Int))))], bk := [], ob := fun i => [], rk := [], orr := fun i => [] })], ?_⟩
  repeat' ((conv => whnf); first | refine toOb2 ?_ | refine toY ?_ | refine And.intro (fun _ => ?_) (fun _ => ?_) | refine And.intro (toOb2 ?_) ?_ | refine And.intro (?_ : drawOk _ _ _ = true) ?_ | (refine And.intro ⟨?_, ?_⟩ ?_; fail) | intro _)
  (all_goals first | (refine Ob2.mk ?_; (try simp only [allP, side, Ctr.reads, dTag_eta, dRoad_eta, dLetter_eta, dAddr_eta, dSub_eta, dHalf_eta, dPiece_eta, dPolicy_eta, dBucket_eta, dOut_eta, dPieces_eta, dEnd_eta, dKnown_eta, dWorld_eta, List.length_set, List.nil_append] at *); (try simp only [Bool.cond_true_left, Bool.cond_false_right, Bool.or_eq_false_iff, Bool.or_eq_true, Bool.and_eq_true, Bool.and_eq_false_imp, Bool.not_eq_true', Bool.not_eq_false', Bool.not_eq_eq_eq_not, Bool.not_true, Bool.not_false, imp_self, implies_true, and_self, and_true, true_and] at *); (try subst_vars); first | done | trivial | assumption | omega | grind [mPutAddr, mPutL]) | (show drawOk _ _ _ = true; exact rfl) | skip)
  conv => whnf
  refine And.intro ⟨(0 : Nat), Ob.mk ?_, ?_⟩ (fun (i : Nat) hi => ?_)
  · exact And.intro (Nat.zero_le _) rfl
  · conv => whnf
    refine Ob.mk ?_
    all_goals (try simp only [allP, side, Ctr.reads, dTag_eta, dRoad_eta, dLetter_eta, dAddr_eta, dSub_eta, dHalf_eta, dPiece_eta, dPolicy_eta, dBucket_eta, dOut_eta, dPieces_eta, dEnd_eta, dKnown_eta, dWorld_eta]); all_goals repeat' (first | with_reducible exact rfl | exact trivial | with_reducible assumption | refine And.intro ?_ ?_ | exact (rfl : (_ : SV) = _) | exact (rfl : (_ : List SC) = _) | (show drawOk _ _ _ = true; exact rfl) | (show ((0 : Nat) : Int) = 0; exact rfl))
  obtain ⟨hi, hm⟩ := hi
  have hi : i ≤ l.length := hi
  have hm : plL a.id (l.drop i) i = plL a.id l 0 := hm
  rcases Nat.lt_or_ge i l.length with hlt | hge
  · obtain ⟨x, hx, hxi, hd⟩ := at_step l i (ETy.zero .addr) hlt
    rw [hd, plL] at hm
    have hw := w64_succ hlt ((by omega))
    repeat' ((conv => whnf); first | refine toOb2 ?_ | refine And.intro (fun _ => ?_) (fun _ => ?_) | refine And.intro ?_ ?_ | refine toEx2 ?_ | refine toY ?_ | intro _)
    all_goals try (exfalso; exact Nat.lt_irrefl _ (Nat.lt_of_lt_of_le hlt (ge_of_dec (by assumption))))
    all_goals first | refine Ob2.mk ?_ | refine Ex2.of (i + 1) ?_ ?_ | skip
    all_goals try ((conv => whnf); refine Ob.mk ?_)
    all_goals (try simp only [allP, side, Ctr.reads, dTag_eta, dRoad_eta, dLetter_eta, dAddr_eta, dSub_eta, dHalf_eta, dPiece_eta, dPolicy_eta, dBucket_eta, dOut_eta, dPieces_eta, dEnd_eta, dKnown_eta, dWorld_eta]); all_goals repeat' (first | with_reducible exact rfl | exact trivial | with_reducible assumption | refine And.intro ?_ ?_ | exact (rfl : (_ : SV) = _) | exact (rfl : (_ : List SC) = _) | (show drawOk _ _ _ = true; exact rfl) | (show ((0 : Nat) : Int) = 0; exact rfl))
    all_goals (try simp only [hx, List.nil_append, List.append_assoc, List.length_append, List.length_take, List.length_drop, List.length_cons, List.length_nil, Ctr.reads, dTag_eta, dRoad_eta, dLetter_eta, dAddr_eta, dSub_eta, dHalf_eta, dPiece_eta, dPolicy_eta, dBucket_eta, dOut_eta, dPieces_eta, dEnd_eta, dKnown_eta, dWorld_eta] at *)
    all_goals first | done | grind [mPutAddr, mPutL]
  · have hl : i = l.length := by omega
    subst hl
    rw [List.drop_length, plL] at hm
    repeat' ((conv => whnf); first | refine toOb2 ?_ | refine And.intro (fun _ => ?_) (fun _ => ?_) | refine And.intro ?_ ?_ | refine toEx2 ?_ | refine toY ?_ | intro _)
    all_goals try (exfalso; exact Nat.lt_irrefl _ (Nat.lt_of_lt_of_le (lt_of_dec (by assumption)) hge))
    all_goals first | refine Ob2.mk ?_ | refine Ex2.of (l.length + 1) ?_ ?_ | skip
    all_goals try ((conv => whnf); refine Ob.mk ?_)
    all_goals (try simp only [allP, side, Ctr.reads, dTag_eta, dRoad_eta, dLetter_eta, dAddr_eta, dSub_eta, dHalf_eta, dPiece_eta, dPolicy_eta, dBucket_eta, dOut_eta, dPieces_eta, dEnd_eta, dKnown_eta, dWorld_eta]); all_goals repeat' (first | with_reducible exact rfl | exact trivial | with_reducible assumption | refine And.intro ?_ ?_ | exact (rfl : (_ : SV) = _) | exact (rfl : (_ : List SC) = _) | (show drawOk _ _ _ = true; exact rfl) | (show ((0 : Nat) : Int) = 0; exact rfl))
    all_goals (try simp only [List.nil_append, List.append_assoc, List.length_append, List.length_take, List.length_drop, List.length_cons, List.length_nil, Ctr.reads, dTag_eta, dRoad_eta, dLetter_eta, dAddr_eta, dSub_eta, dHalf_eta, dPiece_eta, dPolicy_eta, dBucket_eta, dOut_eta, dPieces_eta, dEnd_eta, dKnown_eta, dWorld_eta] at *)
    all_goals first | done | grind [mPutAddr, mPutL]
set_option maxHeartbeats 1000000 in
theorem h_spec_EndNew : Ctr.holds E 7 (.reads [aInt, aInt, aPolicy] [aEnd, aBool] (fun ((s : Int), (a : Int), (p : DPolicy), _) => True) fun ((s : Int), (a : Int), (p : DPolicy), _) => ((mEndNew s a p).1, (mEndNew s a p).2, ())) := by
  refine fn_ok (Γ := [(22, .reads [aRow .addr, aAddr] [aRow .addr, aBool] (fun ((l : List DAddr), _) => l.length ≤ 1073741823) fun ((l : List DAddr), (a : DAddr), _) => ((mPutAddr l a).1, (mPutAddr l a).2, ())), (23, .reads [aInt, aInt, aInt] [aBool] (fun _ => True) fun ((n : Int), (l : Int), (h : Int), _) => (mIn n l h, ())), (24, .reads [aPolicy] [aBool] (fun _ => True) fun ((p : DPolicy), _) => (mPolicyOk p, ())), (25, .reads [aInt, aInt] [aBucket, aBool] (fun _ => True) fun ((r : Int), (u : Int), _) => ((mBucketNew r u).1, (mBucketNew r u).2, ()))]) prgOk (gcons h_spec_PutAddr (gcons h_spec_l01In (gcons h_spec_PolicyOk (gcons h_spec_BucketNew gnil)))) Try.func7 rfl rfl rfl rfl ?_
  rintro ty ⟨(s : Int), (a : Int), (p : DPolicy), _⟩ hp
  have hbn : mBucketNew 1 3 = (⟨1, 3, 3⟩, true) := by decide
  have hpn : mPutAddr [] ⟨0, a, false, true⟩ = if mAddrsOk [⟨0, a, false, true⟩] = true then ([⟨0, a, false, true⟩], true) else ([], false) := rfl
  refine ⟨[], ?_⟩
  repeat' ((conv => whnf); first | refine toOb2 ?_ | refine And.intro (fun _ => ?_) (fun _ => ?_) | refine And.intro ?_ ?_ | refine toEx2 ?_ | refine toY ?_ | intro _)
  all_goals first | refine Ob2.mk ?_ | (show drawOk _ _ _ = true; exact rfl)
  all_goals (try simp only [allP, side, Ctr.reads, dTag_eta, dRoad_eta, dLetter_eta, dAddr_eta, dSub_eta, dHalf_eta, dPiece_eta, dPolicy_eta, dBucket_eta, dOut_eta, dPieces_eta, dEnd_eta, dKnown_eta, dWorld_eta]); all_goals repeat' (first | with_reducible exact rfl | exact trivial | with_reducible assumption | refine And.intro ?_ ?_ | exact (rfl : (_ : SV) = _) | exact (rfl : (_ : List SC) = _) | (show drawOk _ _ _ = true; exact rfl) | (show ((0 : Nat) : Int) = 0; exact rfl))
  all_goals (try simp only [hbn, hpn, Ctr.reads, dTag_eta, dRoad_eta, dLetter_eta, dAddr_eta, dSub_eta, dHalf_eta, dPiece_eta, dPolicy_eta, dBucket_eta, dOut_eta, dPieces_eta, dEnd_eta, dKnown_eta, dWorld_eta] at *)
  all_goals first | done | with_reducible assumption | with_reducible rfl | grind [mEndNew]
end Go.Proofs.Ytnpeomhpbakgnaa
