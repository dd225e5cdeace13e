/- Contracts of functions of the program, each shown over the text. -/
import Derived.Test.YtjlbibidgdnjdaaFun3
set_option linter.unusedVariables false
set_option linter.unusedSimpArgs false
set_option maxRecDepth 100000
namespace Go.Proofs.Ytjlbibidgdnjdaa
open Go.Eng
set_option maxHeartbeats 1000000 in
theorem h_spec_PutAddr : Ctr.holds E 98 (.reads [aRow .addr, aAddr] [aRow .addr, aBool] (fun ((l : List DAddr), _) => l.length ≤ 1073741823) fun ((l : List DAddr), (a : DAddr), _) => ((mPutAddr l a).1, (mPutAddr l a).2, ())) := by
  refine fn_ok (Γ := [(146, .reads [aRow .addr, aInt] [aInt] (fun ((l : List DAddr), _) => l.length ≤ 1073741824) fun ((l : List DAddr), (n : Int), _) => (mAddrAt l n, ())), (111, .reads [aRow .addr] [aBool] (fun ((l : List DAddr), _) => l.length ≤ 1073741824) fun ((l : List DAddr), _) => (mAddrsOk l, ()))]) prgOk (gcons h_spec_AddrAt (gcons h_spec_AddrsOk gnil)) Try.func98 rfl rfl rfl rfl ?_
  rintro ty ⟨(l : List DAddr), (a : DAddr), _⟩ (hp : l.length ≤ 1073741823)
  have hpb := mAddrAt_bd l a.id
  have hpl := mPutL_len l a
  have hbig := @mPutAddr_big l a
  refine ⟨[(9, { X := Nat, inv := fun i => i ≤ l.length ∧ plL a.id (l.drop i) i = plL a.id l 0, mu := fun i => l.length - i, vk := [8], ov := fun i => [.a (.c (.leaf (.int (i : Int))))], bk := [], ob := fun i => [], rk := [], orr := fun i => [] })], ?_⟩
  repeat' ((conv => whnf); first | refine toOb2 ?_ | refine toY ?_ | refine And.intro (fun _ => ?_) (fun _ => ?_) | refine And.intro (toOb2 ?_) ?_ | refine And.intro (?_ : drawOk _ _ _ = true) ?_ | (refine And.intro ⟨?_, ?_⟩ ?_; fail) | intro _)
  (all_goals first | (refine Ob2.mk ?_; (try simp only [allP, side, Ctr.reads, dTag_eta, dRoad_eta, dLetter_eta, dAddr_eta, dSub_eta, dHalf_eta, dPiece_eta, dPolicy_eta, dBucket_eta, dOut_eta, dPieces_eta, dEnd_eta, dKnown_eta, dWorld_eta, List.length_set, List.nil_append] at *); (try simp only [Bool.cond_true_left, Bool.cond_false_right, Bool.or_eq_false_iff, Bool.or_eq_true, Bool.and_eq_true, Bool.and_eq_false_imp, Bool.not_eq_true', Bool.not_eq_false', Bool.not_eq_eq_eq_not, Bool.not_true, Bool.not_false, imp_self, implies_true, and_self, and_true, true_and] at *); (try subst_vars); first | done | trivial | assumption | omega | grind [mPutAddr, mPutL]) | (show drawOk _ _ _ = true; exact rfl) | skip)
  conv => whnf
  refine And.intro ⟨(0 : Nat), Ob.mk ?_, ?_⟩ (fun (i : Nat) hi => ?_)
  · exact And.intro (Nat.zero_le _) rfl
  · conv => whnf
    refine Ob.mk ?_
    all_goals (try simp only [allP, side, Ctr.reads, dTag_eta, dRoad_eta, dLetter_eta, dAddr_eta, dSub_eta, dHalf_eta, dPiece_eta, dPolicy_eta, dBucket_eta, dOut_eta, dPieces_eta, dEnd_eta, dKnown_eta, dWorld_eta]); all_goals repeat' (first | with_reducible exact rfl | exact trivial | with_reducible assumption | refine And.intro ?_ ?_ | exact (rfl : (_ : SV) = _) | exact (rfl : (_ : List SC) = _) | (show drawOk _ _ _ = true; exact rfl) | (show ((0 : Nat) : Int) = 0; exact rfl))
  obtain ⟨hi, hm⟩ := hi
  have hi : i ≤ l.length := hi
  have hm : plL a.id (l.drop i) i = plL a.id l 0 := hm
  rcases Nat.lt_or_ge i l.length with hlt | hge
  · obtain ⟨x, hx, hxi, hd⟩ := at_step l i (ETy.zero .addr) hlt
    rw [hd, plL] at hm
    have hw := w64_succ hlt ((by omega))
    repeat' ((conv => whnf); first | refine toOb2 ?_ | refine And.intro (fun _ => ?_) (fun _ => ?_) | refine And.intro ?_ ?_ | refine toEx2 ?_ | refine toY ?_ | intro _)
    all_goals try (exfalso; exact Nat.lt_irrefl _ (Nat.lt_of_lt_of_le hlt (ge_of_dec (by assumption))))
    all_goals first | refine Ob2.mk ?_ | refine Ex2.of (i + 1) ?_ ?_ | skip
    all_goals try ((conv => whnf); refine Ob.mk ?_)
    all_goals (try simp only [allP, side, Ctr.reads, dTag_eta, dRoad_eta, dLetter_eta, dAddr_eta, dSub_eta, dHalf_eta, dPiece_eta, dPolicy_eta, dBucket_eta, dOut_eta, dPieces_eta, dEnd_eta, dKnown_eta, dWorld_eta]); all_goals repeat' (first | with_reducible exact rfl | exact trivial | with_reducible assumption | refine And.intro ?_ ?_ | exact (rfl : (_ : SV) = _) | exact (rfl : (_ : List SC) = _) | (show drawOk _ _ _ = true; exact rfl) | (show ((0 : Nat) : Int) = 0; exact rfl))
    all_goals (try simp only [hx, List.nil_append, List.append_assoc, List.length_append, List.length_take, List.length_drop, List.length_cons, List.length_nil, Ctr.reads, dTag_eta, dRoad_eta, dLetter_eta, dAddr_eta, dSub_eta, dHalf_eta, dPiece_eta, dPolicy_eta, dBucket_eta, dOut_eta, dPieces_eta, dEnd_eta, dKnown_eta, dWorld_eta] at *)
    all_goals first | done | grind [mPutAddr, mPutL]
  · have hl : i = l.length := by omega
    subst hl
    rw [List.drop_length, plL] at hm
    repeat' ((conv => whnf); first | refine toOb2 ?_ | refine And.intro (fun _ => ?_) (fun _ => ?_) | refine And.intro ?_ ?_ | refine toEx2 ?_ | refine toY ?_ | intro _)
    all_goals try (exfalso; exact Nat.lt_irrefl _ (Nat.lt_of_lt_of_le (lt_of_dec (by assumption)) hge))
    all_goals first | refine Ob2.mk ?_ | refine Ex2.of (l.length + 1) ?_ ?_ | skip
    all_goals try ((conv => whnf); refine Ob.mk ?_)
    all_goals (try simp only [allP, side, Ctr.reads, dTag_eta, dRoad_eta, dLetter_eta, dAddr_eta, dSub_eta, dHalf_eta, dPiece_eta, dPolicy_eta, dBucket_eta, dOut_eta, dPieces_eta, dEnd_eta, dKnown_eta, dWorld_eta]); all_goals repeat' (first | with_reducible exact rfl | exact trivial | with_reducible assumption | refine And.intro ?_ ?_ | exact (rfl : (_ : SV) = _) | exact (rfl : (_ : List SC) = _) | (show drawOk _ _ _ = true; exact rfl) | (show ((0 : Nat) : Int) = 0; exact rfl))
    all_goals (try simp only [List.nil_append, List.append_assoc, List.length_append, List.length_take, List.length_drop, List.length_cons, List.length_nil, Ctr.reads, dTag_eta, dRoad_eta, dLetter_eta, dAddr_eta, dSub_eta, dHalf_eta, dPiece_eta, dPolicy_eta, dBucket_eta, dOut_eta, dPieces_eta, dEnd_eta, dKnown_eta, dWorld_eta] at *)
    all_goals first | done | grind [mPutAddr, mPutL]
set_option maxHeartbeats 1000000 in
theorem h_spec_EndNew : Ctr.holds E 36 (.reads [aInt, aInt, aPolicy] [aEnd, aBool] (fun ((s : Int), (a : Int), (p : DPolicy), _) => True) fun ((s : Int), (a : Int), (p : DPolicy), _) => ((mEndNew s a p).1, (mEndNew s a p).2, ())) := by
  refine fn_ok (Γ := [(98, .reads [aRow .addr, aAddr] [aRow .addr, aBool] (fun ((l : List DAddr), _) => l.length ≤ 1073741823) fun ((l : List DAddr), (a : DAddr), _) => ((mPutAddr l a).1, (mPutAddr l a).2, ())), (99, .reads [aInt, aInt, aInt] [aBool] (fun _ => True) fun ((n : Int), (l : Int), (h : Int), _) => (mIn n l h, ())), (100, .reads [aPolicy] [aBool] (fun _ => True) fun ((p : DPolicy), _) => (mPolicyOk p, ())), (101, .reads [aInt, aInt] [aBucket, aBool] (fun _ => True) fun ((r : Int), (u : Int), _) => ((mBucketNew r u).1, (mBucketNew r u).2, ()))]) prgOk (gcons h_spec_PutAddr (gcons h_spec_l01In (gcons h_spec_PolicyOk (gcons h_spec_BucketNew gnil)))) Try.func36 rfl rfl rfl rfl ?_
  rintro ty ⟨(s : Int), (a : Int), (p : DPolicy), _⟩ hp
  have hbn : mBucketNew 1 3 = (⟨1, 3, 3⟩, true) := by decide
  have hpn : mPutAddr [] ⟨0, a, false, true⟩ = if mAddrsOk [⟨0, a, false, true⟩] = true then ([⟨0, a, false, true⟩], true) else ([], false) := rfl
  refine ⟨[], ?_⟩
  repeat' ((conv => whnf); first | refine toOb2 ?_ | refine And.intro (fun _ => ?_) (fun _ => ?_) | refine And.intro ?_ ?_ | refine toEx2 ?_ | refine toY ?_ | intro _)
  all_goals first | refine Ob2.mk ?_ | (show drawOk _ _ _ = true; exact rfl)
  all_goals (try simp only [allP, side, Ctr.reads, dTag_eta, dRoad_eta, dLetter_eta, dAddr_eta, dSub_eta, dHalf_eta, dPiece_eta, dPolicy_eta, dBucket_eta, dOut_eta, dPieces_eta, dEnd_eta, dKnown_eta, dWorld_eta]); all_goals repeat' (first | with_reducible exact rfl | exact trivial | with_reducible assumption | refine And.intro ?_ ?_ | exact (rfl : (_ : SV) = _) | exact (rfl : (_ : List SC) = _) | (show drawOk _ _ _ = true; exact rfl) | (show ((0 : Nat) : Int) = 0; exact rfl))
  all_goals (try simp only [hbn, hpn, Ctr.reads, dTag_eta, dRoad_eta, dLetter_eta, dAddr_eta, dSub_eta, dHalf_eta, dPiece_eta, dPolicy_eta, dBucket_eta, dOut_eta, dPieces_eta, dEnd_eta, dKnown_eta, dWorld_eta] at *)
  all_goals first | done | with_reducible assumption | with_reducible rfl | grind [mEndNew]
set_option maxHeartbeats 1000000 in
theorem h_impl_EndNew : Ctr.holds E 38 (.reads [aInt, aInt, aPolicy] [aEnd, aBool] (fun ((s : Int), (a : Int), (p : DPolicy), _) => True) fun ((s : Int), (a : Int), (p : DPolicy), _) => ((mEndNew s a p).1, (mEndNew s a p).2, ())) := by
  refine fn_ok (Γ := [(102, .reads [aInt, aInt, aInt] [aBool] (fun _ => True) fun ((n : Int), (l : Int), (h : Int), _) => (mIn n l h, ())), (103, .reads [aPolicy] [aBool] (fun _ => True) fun ((p : DPolicy), _) => (mPolicyOk p, ())), (104, .reads [aRow .addr] [aBool] (fun ((l : List DAddr), _) => l.length ≤ 1073741824) fun ((l : List DAddr), _) => (mAddrsOk l, ())), (105, .reads [aInt, aInt] [aBucket, aBool] (fun _ => True) fun ((r : Int), (u : Int), _) => ((mBucketNew r u).1, (mBucketNew r u).2, ()))]) prgOk (gcons h_impl_within (gcons h_impl_PolicyOk (gcons h_impl_AddrsOk (gcons h_impl_BucketNew gnil)))) Try.func38 rfl rfl rfl rfl ?_
  rintro ty ⟨(s : Int), (a : Int), (p : DPolicy), _⟩ hp
  have hbn : mBucketNew 1 3 = (⟨1, 3, 3⟩, true) := by decide
  have hpn : mPutAddr [] ⟨0, a, false, true⟩ = if mAddrsOk [⟨0, a, false, true⟩] = true then ([⟨0, a, false, true⟩], true) else ([], false) := rfl
  refine ⟨[], ?_⟩
  repeat' ((conv => whnf); first | refine toOb2 ?_ | refine And.intro (fun _ => ?_) (fun _ => ?_) | refine And.intro ?_ ?_ | refine toEx2 ?_ | refine toY ?_ | intro _)
  all_goals first | refine Ob2.mk ?_ | (show drawOk _ _ _ = true; exact rfl)
  all_goals (try simp only [allP, side, Ctr.reads, dTag_eta, dRoad_eta, dLetter_eta, dAddr_eta, dSub_eta, dHalf_eta, dPiece_eta, dPolicy_eta, dBucket_eta, dOut_eta, dPieces_eta, dEnd_eta, dKnown_eta, dWorld_eta]); all_goals repeat' (first | with_reducible exact rfl | exact trivial | with_reducible assumption | refine And.intro ?_ ?_ | exact (rfl : (_ : SV) = _) | exact (rfl : (_ : List SC) = _) | (show drawOk _ _ _ = true; exact rfl) | (show ((0 : Nat) : Int) = 0; exact rfl))
  all_goals (try simp only [hbn, hpn, Ctr.reads, dTag_eta, dRoad_eta, dLetter_eta, dAddr_eta, dSub_eta, dHalf_eta, dPiece_eta, dPolicy_eta, dBucket_eta, dOut_eta, dPieces_eta, dEnd_eta, dKnown_eta, dWorld_eta] at *)
  all_goals first | done | with_reducible assumption | with_reducible rfl | grind [mEndNew]
set_option maxHeartbeats 1000000 in
theorem h_spec_NextSub : Ctr.holds E 47 (.reads [aEnd] [aInt] (fun ((e : DEnd), _) => e.B) fun ((e : DEnd), _) => (mNextSub e, ())) := by
  refine fn_ok (Γ := [(45, .reads [aEnd] [aBool] (fun ((e : DEnd), _) => e.B) fun ((e : DEnd), _) => (mEndOk e, ())), (30, .reads [aEnd] [aRow .int] (fun ((e : DEnd), _) => e.B) fun ((e : DEnd), _) => (mOnOf e, ()))]) prgOk (gcons h_spec_EndOk (gcons h_spec_OnOf gnil)) Try.func47 rfl rfl rfl rfl ?_
  rintro ty ⟨(e : DEnd), _⟩ (hp : e.B)
  obtain ⟨hb1, hb2, hb3, hb4, hb5, hb6, hb7⟩ := hp
  refine ⟨[(6, { X := Nat × List Int, inv := fun x => x.1 ≤ (mOnOf e).length ∧ x.2 ++ colL (fCarr e) ((mOnOf e).drop x.1) x.1 = mCarr0 e ∧ x.2.length ≤ x.1, mu := fun x => (mOnOf e).length - x.1, vk := [5, 4, 11], ov := fun x => [.a (.c (.leaf (.int (x.1 : Int)))), .a (.c (.row 704)), .any], bk := [], ob := fun x => [], rk := [704], orr := fun x => [⟨.int, x.2, true, none⟩] })], ?_⟩
  have hlen : (mOnOf e).length ≤ 1073741824 := Nat.le_trans (colL_le _ _ _) hb3
  have hpk := fun (h : mEndOk e = true) => tmod_bd (mOnOf e) (endOk_pick h)
  have hpk2 := fun (h : mEndOk e = true) => tmod_bd (mCarr0 e) (endOk_pick h)
  repeat' ((conv => whnf); first | refine toOb2 ?_ | refine toY ?_ | refine And.intro (fun _ => ?_) (fun _ => ?_) | refine And.intro (toOb2 ?_) ?_ | refine And.intro (?_ : drawOk _ _ _ = true) ?_ | (refine And.intro ⟨?_, ?_⟩ ?_; fail) | intro _)
  (all_goals first | (refine Ob2.mk ?_; (try simp only [allP, side, Ctr.reads, dTag_eta, dRoad_eta, dLetter_eta, dAddr_eta, dSub_eta, dHalf_eta, dPiece_eta, dPolicy_eta, dBucket_eta, dOut_eta, dPieces_eta, dEnd_eta, dKnown_eta, dWorld_eta] at *); (try simp only [Bool.cond_true_left, Bool.cond_false_right, Bool.or_eq_false_iff, Bool.or_eq_true, Bool.and_eq_true, Bool.and_eq_false_imp, Bool.not_eq_true', Bool.not_eq_false', Bool.not_eq_eq_eq_not, Bool.not_true, Bool.not_false, imp_self, implies_true, and_self, and_true, true_and] at *); first | done | trivial | assumption | omega | grind [mNextSub]) | (show drawOk _ _ _ = true; exact rfl) | skip)
  conv => whnf
  refine And.intro ⟨((0, []) : Nat × List Int), Ob.mk ?_, ?_⟩ (fun (x : Nat × List Int) hi => ?_)
  · exact And.intro (Nat.zero_le _) (And.intro (rfl) (Nat.le_refl _))
  · conv => whnf
    refine Ob.mk ?_
    all_goals (try simp only [allP, side, Ctr.reads, dTag_eta, dRoad_eta, dLetter_eta, dAddr_eta, dSub_eta, dHalf_eta, dPiece_eta, dPolicy_eta, dBucket_eta, dOut_eta, dPieces_eta, dEnd_eta, dKnown_eta, dWorld_eta]); all_goals repeat' (first | with_reducible exact rfl | exact trivial | with_reducible assumption | refine And.intro ?_ ?_ | exact (rfl : (_ : SV) = _) | exact (rfl : (_ : List SC) = _) | (show drawOk _ _ _ = true; exact rfl) | (show ((0 : Nat) : Int) = 0; exact rfl))
  obtain ⟨i, acc⟩ := x
  obtain ⟨hi, hm⟩ := hi
  have hi : i ≤ (mOnOf e).length := hi
  have hm : acc ++ colL (fCarr e) ((mOnOf e).drop i) i = mCarr0 e ∧ acc.length ≤ i := hm
  rcases Nat.lt_or_ge i (mOnOf e).length with hlt | hge
  · obtain ⟨x, hx, hxi, hd⟩ := at_step (mOnOf e) i (ETy.zero .int) hlt
    rw [hd, colL] at hm
    have hw := w64_succ hlt (hlen)
    have hmem := mOnOf_mem e x (List.mem_of_getElem? hxi)
    clear hpk hpk2
    repeat' ((conv => whnf); first | refine toOb2 ?_ | refine And.intro (fun _ => ?_) (fun _ => ?_) | refine And.intro ?_ ?_ | refine toEx2 ?_ | refine toY ?_ | intro _)
    all_goals try (exfalso; exact Nat.lt_irrefl _ (Nat.lt_of_lt_of_le hlt (ge_of_dec (by assumption))))
    all_goals first | refine Ob2.mk ?_ | refine Ex2.of ((i + 1, if (gSub e x).spare = false then acc ++ [x] else acc)) ?_ ?_ | skip
    all_goals try ((conv => whnf); refine Ob.mk ?_)
    all_goals (try simp only [allP, side, Ctr.reads, dTag_eta, dRoad_eta, dLetter_eta, dAddr_eta, dSub_eta, dHalf_eta, dPiece_eta, dPolicy_eta, dBucket_eta, dOut_eta, dPieces_eta, dEnd_eta, dKnown_eta, dWorld_eta]); all_goals repeat' (first | with_reducible exact rfl | exact trivial | with_reducible assumption | refine And.intro ?_ ?_ | exact (rfl : (_ : SV) = _) | exact (rfl : (_ : List SC) = _) | (show drawOk _ _ _ = true; exact rfl) | (show ((0 : Nat) : Int) = 0; exact rfl))
    all_goals (try simp only [hx, Ctr.reads, dTag_eta, dRoad_eta, dLetter_eta, dAddr_eta, dSub_eta, dHalf_eta, dPiece_eta, dPolicy_eta, dBucket_eta, dOut_eta, dPieces_eta, dEnd_eta, dKnown_eta, dWorld_eta] at *)
    all_goals (try simp only [gSub] at *)
    all_goals first | done | grind [fCarr, gSub, mCarr, mNextSub]
  · have hl : i = (mOnOf e).length := by omega
    subst hl
    rw [List.drop_length, colL] at hm
    repeat' ((conv => whnf); first | refine toOb2 ?_ | refine And.intro (fun _ => ?_) (fun _ => ?_) | refine And.intro ?_ ?_ | refine toEx2 ?_ | refine toY ?_ | intro _)
    all_goals try (exfalso; exact Nat.lt_irrefl _ (Nat.lt_of_lt_of_le (lt_of_dec (by assumption)) hge))
    all_goals first | refine Ob2.mk ?_ | refine Ex2.of (((mOnOf e).length, acc)) ?_ ?_ | skip
    all_goals try ((conv => whnf); refine Ob.mk ?_)
    all_goals (try simp only [allP, side, Ctr.reads, dTag_eta, dRoad_eta, dLetter_eta, dAddr_eta, dSub_eta, dHalf_eta, dPiece_eta, dPolicy_eta, dBucket_eta, dOut_eta, dPieces_eta, dEnd_eta, dKnown_eta, dWorld_eta]); all_goals repeat' (first | with_reducible exact rfl | exact trivial | with_reducible assumption | refine And.intro ?_ ?_ | exact (rfl : (_ : SV) = _) | exact (rfl : (_ : List SC) = _) | (show drawOk _ _ _ = true; exact rfl) | (show ((0 : Nat) : Int) = 0; exact rfl))
    all_goals (try simp only [Ctr.reads, dTag_eta, dRoad_eta, dLetter_eta, dAddr_eta, dSub_eta, dHalf_eta, dPiece_eta, dPolicy_eta, dBucket_eta, dOut_eta, dPieces_eta, dEnd_eta, dKnown_eta, dWorld_eta] at *)
    all_goals (try simp only [List.append_nil] at *)
    all_goals (try (obtain ⟨hm, hm9⟩ := hm; subst hm))
    all_goals first | done | grind [fCarr, gSub, mCarr, mNextSub]
set_option maxHeartbeats 1000000 in
theorem h_impl_carriers : Ctr.holds E 126 (.reads [aEnd] [aRow .int] (fun ((e : DEnd), _) => e.B) fun ((e : DEnd), _) => (mCarr e, ())) := by
  refine fn_ok (Γ := [(31, .reads [aEnd] [aRow .int] (fun ((e : DEnd), _) => e.B) fun ((e : DEnd), _) => (mOnOf e, ()))]) prgOk (gcons h_impl_OnOf gnil) Try.func126 rfl rfl rfl rfl ?_
  rintro ty ⟨(e : DEnd), _⟩ (hp : e.B)
  obtain ⟨hb1, hb2, hb3, hb4, hb5, hb6, hb7⟩ := hp
  refine ⟨[(4, { X := Nat × List Int, inv := fun x => x.1 ≤ (mOnOf e).length ∧ x.2 ++ colL (fCarr e) ((mOnOf e).drop x.1) x.1 = mCarr0 e ∧ x.2.length ≤ x.1, mu := fun x => (mOnOf e).length - x.1, vk := [11, 3], ov := fun x => [.a (.c (.leaf (.int (x.1 : Int)))), .a (.c (.row 192))], bk := [], ob := fun x => [], rk := [192], orr := fun x => [⟨.int, x.2, true, none⟩] })], ?_⟩
  have hlen : (mOnOf e).length ≤ 1073741824 := Nat.le_trans (colL_le _ _ _) hb3
  repeat' ((conv => whnf); first | refine toOb2 ?_ | refine toY ?_ | refine And.intro (fun _ => ?_) (fun _ => ?_) | refine And.intro (toOb2 ?_) ?_ | refine And.intro (?_ : drawOk _ _ _ = true) ?_ | (refine And.intro ⟨?_, ?_⟩ ?_; fail) | intro _)
  (all_goals first | (refine Ob2.mk ?_; (try simp only [allP, side, Ctr.reads, dTag_eta, dRoad_eta, dLetter_eta, dAddr_eta, dSub_eta, dHalf_eta, dPiece_eta, dPolicy_eta, dBucket_eta, dOut_eta, dPieces_eta, dEnd_eta, dKnown_eta, dWorld_eta] at *); (try simp only [Bool.cond_true_left, Bool.cond_false_right, Bool.or_eq_false_iff, Bool.or_eq_true, Bool.and_eq_true, Bool.and_eq_false_imp, Bool.not_eq_true', Bool.not_eq_false', Bool.not_eq_eq_eq_not, Bool.not_true, Bool.not_false, imp_self, implies_true, and_self, and_true, true_and] at *); first | done | trivial | assumption | omega | grind []) | (show drawOk _ _ _ = true; exact rfl) | skip)
  conv => whnf
  refine And.intro ⟨((0, []) : Nat × List Int), Ob.mk ?_, ?_⟩ (fun (x : Nat × List Int) hi => ?_)
  · exact And.intro (Nat.zero_le _) (And.intro (rfl) (Nat.le_refl _))
  · conv => whnf
    refine Ob.mk ?_
    all_goals (try simp only [allP, side, Ctr.reads, dTag_eta, dRoad_eta, dLetter_eta, dAddr_eta, dSub_eta, dHalf_eta, dPiece_eta, dPolicy_eta, dBucket_eta, dOut_eta, dPieces_eta, dEnd_eta, dKnown_eta, dWorld_eta]); all_goals repeat' (first | with_reducible exact rfl | exact trivial | with_reducible assumption | refine And.intro ?_ ?_ | exact (rfl : (_ : SV) = _) | exact (rfl : (_ : List SC) = _) | (show drawOk _ _ _ = true; exact rfl) | (show ((0 : Nat) : Int) = 0; exact rfl))
  obtain ⟨i, acc⟩ := x
  obtain ⟨hi, hm⟩ := hi
  have hi : i ≤ (mOnOf e).length := hi
  have hm : acc ++ colL (fCarr e) ((mOnOf e).drop i) i = mCarr0 e ∧ acc.length ≤ i := hm
  rcases Nat.lt_or_ge i (mOnOf e).length with hlt | hge
  · obtain ⟨x, hx, hxi, hd⟩ := at_step (mOnOf e) i (ETy.zero .int) hlt
    rw [hd, colL] at hm
    have hw := w64_succ hlt (hlen)
    have hmem := mOnOf_mem e x (List.mem_of_getElem? hxi)
    repeat' ((conv => whnf); first | refine toOb2 ?_ | refine And.intro (fun _ => ?_) (fun _ => ?_) | refine And.intro ?_ ?_ | refine toEx2 ?_ | refine toY ?_ | intro _)
    all_goals try (exfalso; exact Nat.lt_irrefl _ (Nat.lt_of_lt_of_le hlt (ge_of_dec (by assumption))))
    all_goals first | refine Ob2.mk ?_ | refine Ex2.of ((i + 1, if (gSub e x).spare = false then acc ++ [x] else acc)) ?_ ?_ | skip
    all_goals try ((conv => whnf); refine Ob.mk ?_)
    all_goals (try simp only [allP, side, Ctr.reads, dTag_eta, dRoad_eta, dLetter_eta, dAddr_eta, dSub_eta, dHalf_eta, dPiece_eta, dPolicy_eta, dBucket_eta, dOut_eta, dPieces_eta, dEnd_eta, dKnown_eta, dWorld_eta]); all_goals repeat' (first | with_reducible exact rfl | exact trivial | with_reducible assumption | refine And.intro ?_ ?_ | exact (rfl : (_ : SV) = _) | exact (rfl : (_ : List SC) = _) | (show drawOk _ _ _ = true; exact rfl) | (show ((0 : Nat) : Int) = 0; exact rfl))
    all_goals (try simp only [hx, Ctr.reads, dTag_eta, dRoad_eta, dLetter_eta, dAddr_eta, dSub_eta, dHalf_eta, dPiece_eta, dPolicy_eta, dBucket_eta, dOut_eta, dPieces_eta, dEnd_eta, dKnown_eta, dWorld_eta] at *)
    all_goals (try simp only [gSub] at *)
    all_goals first | done | grind [fCarr, gSub, mCarr]
  · have hl : i = (mOnOf e).length := by omega
    subst hl
    rw [List.drop_length, colL] at hm
    repeat' ((conv => whnf); first | refine toOb2 ?_ | refine And.intro (fun _ => ?_) (fun _ => ?_) | refine And.intro ?_ ?_ | refine toEx2 ?_ | refine toY ?_ | intro _)
    all_goals try (exfalso; exact Nat.lt_irrefl _ (Nat.lt_of_lt_of_le (lt_of_dec (by assumption)) hge))
    all_goals first | refine Ob2.mk ?_ | refine Ex2.of (((mOnOf e).length, acc)) ?_ ?_ | skip
    all_goals try ((conv => whnf); refine Ob.mk ?_)
    all_goals (try simp only [allP, side, Ctr.reads, dTag_eta, dRoad_eta, dLetter_eta, dAddr_eta, dSub_eta, dHalf_eta, dPiece_eta, dPolicy_eta, dBucket_eta, dOut_eta, dPieces_eta, dEnd_eta, dKnown_eta, dWorld_eta]); all_goals repeat' (first | with_reducible exact rfl | exact trivial | with_reducible assumption | refine And.intro ?_ ?_ | exact (rfl : (_ : SV) = _) | exact (rfl : (_ : List SC) = _) | (show drawOk _ _ _ = true; exact rfl) | (show ((0 : Nat) : Int) = 0; exact rfl))
    all_goals (try simp only [Ctr.reads, dTag_eta, dRoad_eta, dLetter_eta, dAddr_eta, dSub_eta, dHalf_eta, dPiece_eta, dPolicy_eta, dBucket_eta, dOut_eta, dPieces_eta, dEnd_eta, dKnown_eta, dWorld_eta] at *)
    all_goals (try simp only [List.append_nil] at *)
    all_goals first | done | grind [fCarr, gSub, mCarr]
set_option maxHeartbeats 1000000 in
theorem h_impl_NextSub : Ctr.holds E 48 (.reads [aEnd] [aInt] (fun ((e : DEnd), _) => e.B) fun ((e : DEnd), _) => (mNextSub e, ())) := by
  refine fn_ok (Γ := [(126, .reads [aEnd] [aRow .int] (fun ((e : DEnd), _) => e.B) fun ((e : DEnd), _) => (mCarr e, ())), (46, .reads [aEnd] [aBool] (fun ((e : DEnd), _) => e.B) fun ((e : DEnd), _) => (mEndOk e, ()))]) prgOk (gcons h_impl_carriers (gcons h_impl_EndOk gnil)) Try.func48 rfl rfl rfl rfl ?_
  rintro ty ⟨(e : DEnd), _⟩ (hp : e.B)
  have hB := hp
  obtain ⟨hb1, hb2, hb3, hb4, hb5, hb6, hb7⟩ := hp
  refine ⟨[], ?_⟩
  have hpk := fun h : mEndOk e = true => tmod_bd (mCarr e) (endOk_pick h)
  repeat' ((conv => whnf); first | refine toOb2 ?_ | refine And.intro (fun _ => ?_) (fun _ => ?_) | refine And.intro ?_ ?_ | refine toEx2 ?_ | refine toY ?_ | intro _)
  all_goals first | refine Ob2.mk ?_ | (show drawOk _ _ _ = true; exact rfl)
  all_goals (try simp only [allP, side, Ctr.reads, dTag_eta, dRoad_eta, dLetter_eta, dAddr_eta, dSub_eta, dHalf_eta, dPiece_eta, dPolicy_eta, dBucket_eta, dOut_eta, dPieces_eta, dEnd_eta, dKnown_eta, dWorld_eta]); all_goals repeat' (first | with_reducible exact rfl | exact trivial | with_reducible assumption | refine And.intro ?_ ?_ | exact (rfl : (_ : SV) = _) | exact (rfl : (_ : List SC) = _) | (show drawOk _ _ _ = true; exact rfl) | (show ((0 : Nat) : Int) = 0; exact rfl))
  all_goals (try simp only [Ctr.reads, dTag_eta, dRoad_eta, dLetter_eta, dAddr_eta, dSub_eta, dHalf_eta, dPiece_eta, dPolicy_eta, dBucket_eta, dOut_eta, dPieces_eta, dEnd_eta, dKnown_eta, dWorld_eta] at *)
  all_goals first | done | with_reducible assumption | with_reducible rfl | grind [mNextSub]
set_option maxHeartbeats 1000000 in
theorem h_spec_l15Has : Ctr.holds E 134 (.reads [aRow .int, aInt] [aBool] (fun ((l : List Int), _) => l.length ≤ 1073741824) fun ((l : List Int), (n : Int), _) => (mHas l n, ())) := by
  refine fn_ok (Γ := []) prgOk gnil Try.func134 rfl rfl rfl rfl ?_
  rintro ty ⟨(l : List Int), (n : Int), _⟩ (hp : l.length ≤ 1073741824)
  refine ⟨[(2, { X := Nat, inv := fun i => i ≤ l.length ∧ anyL (fun x : Int => x == n) (l.drop i) = mHas l n, mu := fun i => l.length - i, vk := [5], ov := fun i => [.a (.c (.leaf (.int (i : Int))))], bk := [], ob := fun i => [], rk := [], orr := fun i => [] })], ?_⟩
  conv => whnf
  refine And.intro ⟨(0 : Nat), Ob.mk ?_, ?_⟩ (fun (i : Nat) hi => ?_)
  · exact And.intro (Nat.zero_le _) rfl
  · conv => whnf
    refine Ob.mk ?_
    all_goals (try simp only [allP, side, Ctr.reads, dTag_eta, dRoad_eta, dLetter_eta, dAddr_eta, dSub_eta, dHalf_eta, dPiece_eta, dPolicy_eta, dBucket_eta, dOut_eta, dPieces_eta, dEnd_eta, dKnown_eta, dWorld_eta]); all_goals repeat' (first | with_reducible exact rfl | exact trivial | with_reducible assumption | refine And.intro ?_ ?_ | exact (rfl : (_ : SV) = _) | exact (rfl : (_ : List SC) = _) | (show drawOk _ _ _ = true; exact rfl) | (show ((0 : Nat) : Int) = 0; exact rfl))
  obtain ⟨hi, hm⟩ := hi
  have hi : i ≤ l.length := hi
  have hm : anyL (fun x : Int => x == n) (l.drop i) = mHas l n := hm
  rcases Nat.lt_or_ge i l.length with hlt | hge
  · obtain ⟨x, hx, hxi, hd⟩ := at_step l i (ETy.zero .int) hlt
    rw [hd, anyL] at hm
    have hw := w64_succ hlt (hp)
    repeat' ((conv => whnf); first | refine toOb2 ?_ | refine And.intro (fun _ => ?_) (fun _ => ?_) | refine And.intro ?_ ?_ | refine toEx2 ?_ | intro _)
    all_goals try (exfalso; exact Nat.lt_irrefl _ (Nat.lt_of_lt_of_le hlt (ge_of_dec (by assumption))))
    all_goals first | refine Ob2.mk ?_ | refine Ex2.of (i + 1) ?_ ?_ | skip
    all_goals try ((conv => whnf); refine Ob.mk ?_)
    all_goals (try simp only [allP, side, Ctr.reads, dTag_eta, dRoad_eta, dLetter_eta, dAddr_eta, dSub_eta, dHalf_eta, dPiece_eta, dPolicy_eta, dBucket_eta, dOut_eta, dPieces_eta, dEnd_eta, dKnown_eta, dWorld_eta]); all_goals repeat' (first | with_reducible exact rfl | exact trivial | with_reducible assumption | refine And.intro ?_ ?_ | exact (rfl : (_ : SV) = _) | exact (rfl : (_ : List SC) = _) | (show drawOk _ _ _ = true; exact rfl) | (show ((0 : Nat) : Int) = 0; exact rfl))
    all_goals (try simp only [hx, Ctr.reads, dTag_eta, dRoad_eta, dLetter_eta, dAddr_eta, dSub_eta, dHalf_eta, dPiece_eta, dPolicy_eta, dBucket_eta, dOut_eta, dPieces_eta, dEnd_eta, dKnown_eta, dWorld_eta] at *)
    all_goals first | done | grind [mHas]
  · have hl : i = l.length := by omega
    subst hl
    rw [List.drop_length, anyL] at hm
    repeat' ((conv => whnf); first | refine toOb2 ?_ | refine And.intro (fun _ => ?_) (fun _ => ?_) | refine And.intro ?_ ?_ | refine toEx2 ?_ | intro _)
    all_goals try (exfalso; exact Nat.lt_irrefl _ (Nat.lt_of_lt_of_le (lt_of_dec (by assumption)) hge))
    all_goals first | refine Ob2.mk ?_ | refine Ex2.of (l.length + 1) ?_ ?_ | skip
    all_goals try ((conv => whnf); refine Ob.mk ?_)
    all_goals (try simp only [allP, side, Ctr.reads, dTag_eta, dRoad_eta, dLetter_eta, dAddr_eta, dSub_eta, dHalf_eta, dPiece_eta, dPolicy_eta, dBucket_eta, dOut_eta, dPieces_eta, dEnd_eta, dKnown_eta, dWorld_eta]); all_goals repeat' (first | with_reducible exact rfl | exact trivial | with_reducible assumption | refine And.intro ?_ ?_ | exact (rfl : (_ : SV) = _) | exact (rfl : (_ : List SC) = _) | (show drawOk _ _ _ = true; exact rfl) | (show ((0 : Nat) : Int) = 0; exact rfl))
    all_goals (try simp only [Ctr.reads, dTag_eta, dRoad_eta, dLetter_eta, dAddr_eta, dSub_eta, dHalf_eta, dPiece_eta, dPolicy_eta, dBucket_eta, dOut_eta, dPieces_eta, dEnd_eta, dKnown_eta, dWorld_eta] at *)
    all_goals first | done | grind [mHas]
set_option maxHeartbeats 1000000 in
theorem h_impl_hasInt : Ctr.holds E 140 (.reads [aRow .int, aInt] [aBool] (fun ((l : List Int), _) => l.length ≤ 1073741824) fun ((l : List Int), (n : Int), _) => (mHas l n, ())) := by
  refine fn_ok (Γ := []) prgOk gnil Try.func140 rfl rfl rfl rfl ?_
  rintro ty ⟨(l : List Int), (n : Int), _⟩ (hp : l.length ≤ 1073741824)
  refine ⟨[(2, { X := Nat, inv := fun i => i ≤ l.length ∧ anyL (fun x : Int => x == n) (l.drop i) = mHas l n, mu := fun i => l.length - i, vk := [9], ov := fun i => [.a (.c (.leaf (.int (i : Int))))], bk := [], ob := fun i => [], rk := [], orr := fun i => [] })], ?_⟩
  conv => whnf
  refine And.intro ⟨(0 : Nat), Ob.mk ?_, ?_⟩ (fun (i : Nat) hi => ?_)
  · exact And.intro (Nat.zero_le _) rfl
  · conv => whnf
    refine Ob.mk ?_
    all_goals (try simp only [allP, side, Ctr.reads, dTag_eta, dRoad_eta, dLetter_eta, dAddr_eta, dSub_eta, dHalf_eta, dPiece_eta, dPolicy_eta, dBucket_eta, dOut_eta, dPieces_eta, dEnd_eta, dKnown_eta, dWorld_eta]); all_goals repeat' (first | with_reducible exact rfl | exact trivial | with_reducible assumption | refine And.intro ?_ ?_ | exact (rfl : (_ : SV) = _) | exact (rfl : (_ : List SC) = _) | (show drawOk _ _ _ = true; exact rfl) | (show ((0 : Nat) : Int) = 0; exact rfl))
  obtain ⟨hi, hm⟩ := hi
  have hi : i ≤ l.length := hi
  have hm : anyL (fun x : Int => x == n) (l.drop i) = mHas l n := hm
  rcases Nat.lt_or_ge i l.length with hlt | hge
  · obtain ⟨x, hx, hxi, hd⟩ := at_step l i (ETy.zero .int) hlt
    rw [hd, anyL] at hm
    have hw := w64_succ hlt (hp)
    repeat' ((conv => whnf); first | refine toOb2 ?_ | refine And.intro (fun _ => ?_) (fun _ => ?_) | refine And.intro ?_ ?_ | refine toEx2 ?_ | intro _)
    all_goals try (exfalso; exact Nat.lt_irrefl _ (Nat.lt_of_lt_of_le hlt (ge_of_dec (by assumption))))
    all_goals first | refine Ob2.mk ?_ | refine Ex2.of (i + 1) ?_ ?_ | skip
    all_goals try ((conv => whnf); refine Ob.mk ?_)
    all_goals (try simp only [allP, side, Ctr.reads, dTag_eta, dRoad_eta, dLetter_eta, dAddr_eta, dSub_eta, dHalf_eta, dPiece_eta, dPolicy_eta, dBucket_eta, dOut_eta, dPieces_eta, dEnd_eta, dKnown_eta, dWorld_eta]); all_goals repeat' (first | with_reducible exact rfl | exact trivial | with_reducible assumption | refine And.intro ?_ ?_ | exact (rfl : (_ : SV) = _) | exact (rfl : (_ : List SC) = _) | (show drawOk _ _ _ = true; exact rfl) | (show ((0 : Nat) : Int) = 0; exact rfl))
    all_goals (try simp only [hx, Ctr.reads, dTag_eta, dRoad_eta, dLetter_eta, dAddr_eta, dSub_eta, dHalf_eta, dPiece_eta, dPolicy_eta, dBucket_eta, dOut_eta, dPieces_eta, dEnd_eta, dKnown_eta, dWorld_eta] at *)
    all_goals first | done | grind [mHas]
  · have hl : i = l.length := by omega
    subst hl
    rw [List.drop_length, anyL] at hm
    repeat' ((conv => whnf); first | refine toOb2 ?_ | refine And.intro (fun _ => ?_) (fun _ => ?_) | refine And.intro ?_ ?_ | refine toEx2 ?_ | intro _)
    all_goals try (exfalso; exact Nat.lt_irrefl _ (Nat.lt_of_lt_of_le (lt_of_dec (by assumption)) hge))
    all_goals first | refine Ob2.mk ?_ | refine Ex2.of (l.length + 1) ?_ ?_ | skip
    all_goals try ((conv => whnf); refine Ob.mk ?_)
    all_goals (try simp only [allP, side, Ctr.reads, dTag_eta, dRoad_eta, dLetter_eta, dAddr_eta, dSub_eta, dHalf_eta, dPiece_eta, dPolicy_eta, dBucket_eta, dOut_eta, dPieces_eta, dEnd_eta, dKnown_eta, dWorld_eta]); all_goals repeat' (first | with_reducible exact rfl | exact trivial | with_reducible assumption | refine And.intro ?_ ?_ | exact (rfl : (_ : SV) = _) | exact (rfl : (_ : List SC) = _) | (show drawOk _ _ _ = true; exact rfl) | (show ((0 : Nat) : Int) = 0; exact rfl))
    all_goals (try simp only [Ctr.reads, dTag_eta, dRoad_eta, dLetter_eta, dAddr_eta, dSub_eta, dHalf_eta, dPiece_eta, dPolicy_eta, dBucket_eta, dOut_eta, dPieces_eta, dEnd_eta, dKnown_eta, dWorld_eta] at *)
    all_goals first | done | grind [mHas]
set_option maxHeartbeats 1000000 in
theorem h_spec_TakeReady : Ctr.holds E 142 (.reads [aPieces, aInt] [aPieces, aStr] (fun ((p : DPieces), (n : Int), _) => p.list.length ≤ 1073741824 ∧ p.ready.length ≤ 1073741824) fun ((p : DPieces), (n : Int), _) => ((mTakeReady p n).1, (mTakeReady p n).2, ())) := by
  refine fn_ok (Γ := [(174, .reads [aPieces] [aPieces] (fun ((p : DPieces), _) => p.list.length ≤ 1073741824) fun (p, _) => (p, ())), (115, .reads [aPieces] [aBool] (fun ((p : DPieces), _) => p.list.length ≤ 1073741824) fun ((p : DPieces), _) => (mPiecesOk p, ()))]) prgOk (gcons h_spec_l09Copy (gcons h_spec_PiecesOk gnil)) Try.func142 rfl rfl rfl rfl ?_
  rintro ty ⟨(p : DPieces), (n : Int), _⟩ (hp : p.list.length ≤ 1073741824 ∧ p.ready.length ≤ 1073741824)
  obtain ⟨hp, hp2⟩ := hp
  have hwn : 0 ≤ n → n ≤ 1073741824 → w64 (1000000000 - n) = 1000000000 - n := fun h1 h2 => w64_id (by omega) (by omega)
  have hmn : mTakeN p n ≤ 1073741824 := by unfold mTakeN; split <;> omega
  refine ⟨[], ?_⟩
  by_cases hok : mPiecesOk p = true
  · obtain ⟨ho1, ho2⟩ := piecesOk_bd hok
    repeat' ((conv => whnf); first | refine toOb2 ?_ | refine And.intro (fun _ => ?_) (fun _ => ?_) | refine And.intro ?_ ?_ | refine toEx2 ?_ | refine toY ?_ | intro _)
    all_goals first | refine Ob2.mk ?_ | (show drawOk _ _ _ = true; exact rfl)
    all_goals (try simp only [allP, side, Ctr.reads, dTag_eta, dRoad_eta, dLetter_eta, dAddr_eta, dSub_eta, dHalf_eta, dPiece_eta, dPolicy_eta, dBucket_eta, dOut_eta, dPieces_eta, dEnd_eta, dKnown_eta, dWorld_eta]); all_goals repeat' (first | with_reducible exact rfl | exact trivial | with_reducible assumption | refine And.intro ?_ ?_ | exact (rfl : (_ : SV) = _) | exact (rfl : (_ : List SC) = _) | (show drawOk _ _ _ = true; exact rfl) | (show ((0 : Nat) : Int) = 0; exact rfl))
    all_goals (try simp only [Ctr.reads, dTag_eta, dRoad_eta, dLetter_eta, dAddr_eta, dSub_eta, dHalf_eta, dPiece_eta, dPolicy_eta, dBucket_eta, dOut_eta, dPieces_eta, dEnd_eta, dKnown_eta, dWorld_eta] at *)
    all_goals (try simp only [Bool.cond_true_left, Bool.cond_false_right, Bool.or_eq_false_iff, Bool.or_eq_true, Bool.and_eq_true, Bool.and_eq_false_imp, Bool.not_eq_true', Bool.not_eq_false', Bool.not_eq_eq_eq_not, Bool.not_true, Bool.not_false] at *)
    all_goals (try simp only [decide_eq_true_eq, decide_eq_false_iff_not] at *)
    all_goals (try simp (disch := omega) only [w64_id] at *)
    all_goals (try simp (disch := omega) only [w64_id] at *)
    all_goals (try simp only [mTakeReady, mTakeN] at *)
    all_goals (try split at *)
    all_goals (try simp (disch := omega) only [w64_id] at *)
    all_goals (try simp (disch := omega) only [w64_id] at *)
    all_goals first | done | with_reducible assumption | with_reducible rfl | omega | grind [mTakeReady, mTakeN]
  · repeat' ((conv => whnf); first | refine toOb2 ?_ | refine And.intro (fun _ => ?_) (fun _ => ?_) | refine And.intro ?_ ?_ | refine toEx2 ?_ | refine toY ?_ | intro _)
    all_goals first | refine Ob2.mk ?_ | (show drawOk _ _ _ = true; exact rfl)
    all_goals (try simp only [allP, side, Ctr.reads, dTag_eta, dRoad_eta, dLetter_eta, dAddr_eta, dSub_eta, dHalf_eta, dPiece_eta, dPolicy_eta, dBucket_eta, dOut_eta, dPieces_eta, dEnd_eta, dKnown_eta, dWorld_eta]); all_goals repeat' (first | with_reducible exact rfl | exact trivial | with_reducible assumption | refine And.intro ?_ ?_ | exact (rfl : (_ : SV) = _) | exact (rfl : (_ : List SC) = _) | (show drawOk _ _ _ = true; exact rfl) | (show ((0 : Nat) : Int) = 0; exact rfl))
    all_goals (try simp only [Ctr.reads, dTag_eta, dRoad_eta, dLetter_eta, dAddr_eta, dSub_eta, dHalf_eta, dPiece_eta, dPolicy_eta, dBucket_eta, dOut_eta, dPieces_eta, dEnd_eta, dKnown_eta, dWorld_eta] at *)
    all_goals (try simp only [Bool.cond_true_left, Bool.cond_false_right, Bool.or_eq_false_iff, Bool.or_eq_true, Bool.and_eq_true, Bool.and_eq_false_imp, Bool.not_eq_true', Bool.not_eq_false', Bool.not_eq_eq_eq_not, Bool.not_true, Bool.not_false] at *)
    all_goals (try simp only [mTakeReady, mTakeN] at *)
    all_goals (try split at *)
    all_goals (try simp (disch := omega) only [w64_id] at *)
    all_goals (try simp (disch := omega) only [w64_id] at *)
    all_goals first | done | with_reducible assumption | with_reducible rfl | omega | grind [mTakeReady, mTakeN]
set_option maxHeartbeats 1000000 in
theorem h_spec_Read : Ctr.holds E 56 (.reads [aEnd, aInt] [aEnd, aStr] (fun ((e : DEnd), (n : Int), _) => e.B ∧ e.inn.ready.length ≤ 1073741824) fun ((e : DEnd), (n : Int), _) => ((mRead e n).1, (mRead e n).2, ())) := by
  refine fn_ok (Γ := [(127, .reads [aEnd] [aEnd] (fun ((e : DEnd), _) => e.B) fun (e, _) => (e, ())), (45, .reads [aEnd] [aBool] (fun ((e : DEnd), _) => e.B) fun ((e : DEnd), _) => (mEndOk e, ())), (142, .reads [aPieces, aInt] [aPieces, aStr] (fun ((p : DPieces), (n : Int), _) => p.list.length ≤ 1073741824 ∧ p.ready.length ≤ 1073741824) fun ((p : DPieces), (n : Int), _) => ((mTakeReady p n).1, (mTakeReady p n).2, ()))]) prgOk (gcons h_spec_l17Copy (gcons h_spec_EndOk (gcons h_spec_TakeReady gnil))) Try.func56 rfl rfl rfl rfl ?_
  rintro ty ⟨(e : DEnd), (n : Int), _⟩ (hp : e.B ∧ e.inn.ready.length ≤ 1073741824)
  obtain ⟨hp, hp2⟩ := hp
  obtain ⟨hb1, hb2, hb3, hb4, hb5, hb6, hb7⟩ := id hp
  refine ⟨[], ?_⟩
  repeat' ((conv => whnf); first | refine toOb2 ?_ | refine And.intro (fun _ => ?_) (fun _ => ?_) | refine And.intro ?_ ?_ | refine toEx2 ?_ | refine toY ?_ | intro _)
  all_goals first | refine Ob2.mk ?_ | (show drawOk _ _ _ = true; exact rfl)
  all_goals (try simp only [allP, side, Ctr.reads, dTag_eta, dRoad_eta, dLetter_eta, dAddr_eta, dSub_eta, dHalf_eta, dPiece_eta, dPolicy_eta, dBucket_eta, dOut_eta, dPieces_eta, dEnd_eta, dKnown_eta, dWorld_eta]); all_goals repeat' (first | with_reducible exact rfl | exact trivial | with_reducible assumption | refine And.intro ?_ ?_ | exact (rfl : (_ : SV) = _) | exact (rfl : (_ : List SC) = _) | (show drawOk _ _ _ = true; exact rfl) | (show ((0 : Nat) : Int) = 0; exact rfl))
  all_goals (try simp only [Ctr.reads, dTag_eta, dRoad_eta, dLetter_eta, dAddr_eta, dSub_eta, dHalf_eta, dPiece_eta, dPolicy_eta, dBucket_eta, dOut_eta, dPieces_eta, dEnd_eta, dKnown_eta, dWorld_eta] at *)
  all_goals first | done | with_reducible assumption | with_reducible rfl | grind [mRead]
set_option maxHeartbeats 1000000 in
theorem h_impl_TakeReady : Ctr.holds E 143 (.reads [aPieces, aInt] [aPieces, aStr] (fun ((p : DPieces), (n : Int), _) => p.list.length ≤ 1073741824 ∧ p.ready.length ≤ 1073741824) fun ((p : DPieces), (n : Int), _) => ((mTakeReady p n).1, (mTakeReady p n).2, ())) := by
  refine fn_ok (Γ := [(177, .reads [aPieces] [aPieces] (fun ((p : DPieces), _) => p.list.length ≤ 1073741824) fun (p, _) => (p, ())), (122, .reads [aPieces] [aBool] (fun ((p : DPieces), _) => p.list.length ≤ 1073741824) fun ((p : DPieces), _) => (mPiecesOk p, ()))]) prgOk (gcons h_impl_copyPieces (gcons h_impl_PiecesOk gnil)) Try.func143 rfl rfl rfl rfl ?_
  rintro ty ⟨(p : DPieces), (n : Int), _⟩ (hp : p.list.length ≤ 1073741824 ∧ p.ready.length ≤ 1073741824)
  obtain ⟨hp, hp2⟩ := hp
  have hwn : 0 ≤ n → n ≤ 1073741824 → w64 (1000000000 - n) = 1000000000 - n := fun h1 h2 => w64_id (by omega) (by omega)
  have hmn : mTakeN p n ≤ 1073741824 := by unfold mTakeN; split <;> omega
  refine ⟨[], ?_⟩
  by_cases hok : mPiecesOk p = true
  · obtain ⟨ho1, ho2⟩ := piecesOk_bd hok
    repeat' ((conv => whnf); first | refine toOb2 ?_ | refine And.intro (fun _ => ?_) (fun _ => ?_) | refine And.intro ?_ ?_ | refine toEx2 ?_ | refine toY ?_ | intro _)
    all_goals first | refine Ob2.mk ?_ | (show drawOk _ _ _ = true; exact rfl)
    all_goals (try simp only [allP, side, Ctr.reads, dTag_eta, dRoad_eta, dLetter_eta, dAddr_eta, dSub_eta, dHalf_eta, dPiece_eta, dPolicy_eta, dBucket_eta, dOut_eta, dPieces_eta, dEnd_eta, dKnown_eta, dWorld_eta]); all_goals repeat' (first | with_reducible exact rfl | exact trivial | with_reducible assumption | refine And.intro ?_ ?_ | exact (rfl : (_ : SV) = _) | exact (rfl : (_ : List SC) = _) | (show drawOk _ _ _ = true; exact rfl) | (show ((0 : Nat) : Int) = 0; exact rfl))
    all_goals (try simp only [Ctr.reads, dTag_eta, dRoad_eta, dLetter_eta, dAddr_eta, dSub_eta, dHalf_eta, dPiece_eta, dPolicy_eta, dBucket_eta, dOut_eta, dPieces_eta, dEnd_eta, dKnown_eta, dWorld_eta] at *)
    all_goals (try simp only [Bool.cond_true_left, Bool.cond_false_right, Bool.or_eq_false_iff, Bool.or_eq_true, Bool.and_eq_true, Bool.and_eq_false_imp, Bool.not_eq_true', Bool.not_eq_false', Bool.not_eq_eq_eq_not, Bool.not_true, Bool.not_false] at *)
    all_goals (try simp only [decide_eq_true_eq, decide_eq_false_iff_not] at *)
    all_goals (try simp (disch := omega) only [w64_id] at *)
    all_goals (try simp (disch := omega) only [w64_id] at *)
    all_goals (try simp only [mTakeReady, mTakeN] at *)
    all_goals (try split at *)
    all_goals (try simp (disch := omega) only [w64_id] at *)
    all_goals (try simp (disch := omega) only [w64_id] at *)
    all_goals first | done | with_reducible assumption | with_reducible rfl | omega | grind [mTakeReady, mTakeN]
  · repeat' ((conv => whnf); first | refine toOb2 ?_ | refine And.intro (fun _ => ?_) (fun _ => ?_) | refine And.intro ?_ ?_ | refine toEx2 ?_ | refine toY ?_ | intro _)
    all_goals first | refine Ob2.mk ?_ | (show drawOk _ _ _ = true; exact rfl)
    all_goals (try simp only [allP, side, Ctr.reads, dTag_eta, dRoad_eta, dLetter_eta, dAddr_eta, dSub_eta, dHalf_eta, dPiece_eta, dPolicy_eta, dBucket_eta, dOut_eta, dPieces_eta, dEnd_eta, dKnown_eta, dWorld_eta]); all_goals repeat' (first | with_reducible exact rfl | exact trivial | with_reducible assumption | refine And.intro ?_ ?_ | exact (rfl : (_ : SV) = _) | exact (rfl : (_ : List SC) = _) | (show drawOk _ _ _ = true; exact rfl) | (show ((0 : Nat) : Int) = 0; exact rfl))
    all_goals (try simp only [Ctr.reads, dTag_eta, dRoad_eta, dLetter_eta, dAddr_eta, dSub_eta, dHalf_eta, dPiece_eta, dPolicy_eta, dBucket_eta, dOut_eta, dPieces_eta, dEnd_eta, dKnown_eta, dWorld_eta] at *)
    all_goals (try simp only [Bool.cond_true_left, Bool.cond_false_right, Bool.or_eq_false_iff, Bool.or_eq_true, Bool.and_eq_true, Bool.and_eq_false_imp, Bool.not_eq_true', Bool.not_eq_false', Bool.not_eq_eq_eq_not, Bool.not_true, Bool.not_false] at *)
    all_goals (try simp only [mTakeReady, mTakeN] at *)
    all_goals (try split at *)
    all_goals (try simp (disch := omega) only [w64_id] at *)
    all_goals (try simp (disch := omega) only [w64_id] at *)
    all_goals first | done | with_reducible assumption | with_reducible rfl | omega | grind [mTakeReady, mTakeN]
set_option maxHeartbeats 1000000 in
theorem h_impl_Read : Ctr.holds E 57 (.reads [aEnd, aInt] [aEnd, aStr] (fun ((e : DEnd), (n : Int), _) => e.B ∧ e.inn.ready.length ≤ 1073741824) fun ((e : DEnd), (n : Int), _) => ((mRead e n).1, (mRead e n).2, ())) := by
  refine fn_ok (Γ := [(128, .reads [aEnd] [aEnd] (fun ((e : DEnd), _) => e.B) fun (e, _) => (e, ())), (46, .reads [aEnd] [aBool] (fun ((e : DEnd), _) => e.B) fun ((e : DEnd), _) => (mEndOk e, ())), (143, .reads [aPieces, aInt] [aPieces, aStr] (fun ((p : DPieces), (n : Int), _) => p.list.length ≤ 1073741824 ∧ p.ready.length ≤ 1073741824) fun ((p : DPieces), (n : Int), _) => ((mTakeReady p n).1, (mTakeReady p n).2, ()))]) prgOk (gcons h_impl_copyEnd (gcons h_impl_EndOk (gcons h_impl_TakeReady gnil))) Try.func57 rfl rfl rfl rfl ?_
  rintro ty ⟨(e : DEnd), (n : Int), _⟩ (hp : e.B ∧ e.inn.ready.length ≤ 1073741824)
  obtain ⟨hp, hp2⟩ := hp
  obtain ⟨hb1, hb2, hb3, hb4, hb5, hb6, hb7⟩ := id hp
  refine ⟨[], ?_⟩
  repeat' ((conv => whnf); first | refine toOb2 ?_ | refine And.intro (fun _ => ?_) (fun _ => ?_) | refine And.intro ?_ ?_ | refine toEx2 ?_ | refine toY ?_ | intro _)
  all_goals first | refine Ob2.mk ?_ | (show drawOk _ _ _ = true; exact rfl)
  all_goals (try simp only [allP, side, Ctr.reads, dTag_eta, dRoad_eta, dLetter_eta, dAddr_eta, dSub_eta, dHalf_eta, dPiece_eta, dPolicy_eta, dBucket_eta, dOut_eta, dPieces_eta, dEnd_eta, dKnown_eta, dWorld_eta]); all_goals repeat' (first | with_reducible exact rfl | exact trivial | with_reducible assumption | refine And.intro ?_ ?_ | exact (rfl : (_ : SV) = _) | exact (rfl : (_ : List SC) = _) | (show drawOk _ _ _ = true; exact rfl) | (show ((0 : Nat) : Int) = 0; exact rfl))
  all_goals (try simp only [Ctr.reads, dTag_eta, dRoad_eta, dLetter_eta, dAddr_eta, dSub_eta, dHalf_eta, dPiece_eta, dPolicy_eta, dBucket_eta, dOut_eta, dPieces_eta, dEnd_eta, dKnown_eta, dWorld_eta] at *)
  all_goals first | done | with_reducible assumption | with_reducible rfl | grind [mRead]
set_option maxHeartbeats 1000000 in
theorem h_spec_Accept : Ctr.holds E 144 (.reads [aOut, aStr] [aOut, aInt] (fun ((o : DOut), (t : List UInt8), _) => True) fun ((o : DOut), (t : List UInt8), _) => ((mAccept o t).1, (mAccept o t).2, ())) := by
  refine fn_ok (Γ := [(114, .reads [aOut] [aBool] (fun _ => True) fun ((o : DOut), _) => (mOutOk o, ()))]) prgOk (gcons h_spec_OutOk gnil) Try.func144 rfl rfl rfl rfl ?_
  rintro ty ⟨(o : DOut), (t : List UInt8), _⟩ hp
  refine ⟨[], ?_⟩
  by_cases hok : mOutOk o = true
  · obtain ⟨ho1, ho2, ho3, ho4⟩ := outOk_bd hok
    have htl : 0 ≤ (t.length : Int) := by omega
    repeat' ((conv => whnf); first | refine toOb2 ?_ | refine And.intro (fun _ => ?_) (fun _ => ?_) | refine And.intro ?_ ?_ | refine toEx2 ?_ | refine toY ?_ | intro _)
    all_goals first | refine Ob2.mk ?_ | (show drawOk _ _ _ = true; exact rfl)
    all_goals (try simp only [allP, side, Ctr.reads, dTag_eta, dRoad_eta, dLetter_eta, dAddr_eta, dSub_eta, dHalf_eta, dPiece_eta, dPolicy_eta, dBucket_eta, dOut_eta, dPieces_eta, dEnd_eta, dKnown_eta, dWorld_eta]); all_goals repeat' (first | with_reducible exact rfl | exact trivial | with_reducible assumption | refine And.intro ?_ ?_ | exact (rfl : (_ : SV) = _) | exact (rfl : (_ : List SC) = _) | (show drawOk _ _ _ = true; exact rfl) | (show ((0 : Nat) : Int) = 0; exact rfl))
    all_goals (try simp only [Ctr.reads, dTag_eta, dRoad_eta, dLetter_eta, dAddr_eta, dSub_eta, dHalf_eta, dPiece_eta, dPolicy_eta, dBucket_eta, dOut_eta, dPieces_eta, dEnd_eta, dKnown_eta, dWorld_eta] at *)
    all_goals (try simp only [Bool.cond_true_left, Bool.cond_false_right, Bool.or_eq_false_iff, Bool.or_eq_true, Bool.and_eq_true, Bool.and_eq_false_imp, Bool.not_eq_true', Bool.not_eq_false', Bool.not_eq_eq_eq_not, Bool.not_true, Bool.not_false] at *)
    all_goals (try simp only [decide_eq_true_eq, decide_eq_false_iff_not] at *)
    all_goals (try simp (disch := omega) only [w64_id] at *)
    all_goals (try simp (disch := omega) only [w64_id] at *)
    all_goals first | done | with_reducible assumption | with_reducible rfl | omega | grind [mAccept]
  · repeat' ((conv => whnf); first | refine toOb2 ?_ | refine And.intro (fun _ => ?_) (fun _ => ?_) | refine And.intro ?_ ?_ | refine toEx2 ?_ | refine toY ?_ | intro _)
    all_goals first | refine Ob2.mk ?_ | (show drawOk _ _ _ = true; exact rfl)
    all_goals (try simp only [allP, side, Ctr.reads, dTag_eta, dRoad_eta, dLetter_eta, dAddr_eta, dSub_eta, dHalf_eta, dPiece_eta, dPolicy_eta, dBucket_eta, dOut_eta, dPieces_eta, dEnd_eta, dKnown_eta, dWorld_eta]); all_goals repeat' (first | with_reducible exact rfl | exact trivial | with_reducible assumption | refine And.intro ?_ ?_ | exact (rfl : (_ : SV) = _) | exact (rfl : (_ : List SC) = _) | (show drawOk _ _ _ = true; exact rfl) | (show ((0 : Nat) : Int) = 0; exact rfl))
    all_goals (try simp only [Ctr.reads, dTag_eta, dRoad_eta, dLetter_eta, dAddr_eta, dSub_eta, dHalf_eta, dPiece_eta, dPolicy_eta, dBucket_eta, dOut_eta, dPieces_eta, dEnd_eta, dKnown_eta, dWorld_eta] at *)
    all_goals (try simp only [Bool.cond_true_left, Bool.cond_false_right, Bool.or_eq_false_iff, Bool.or_eq_true, Bool.and_eq_true, Bool.and_eq_false_imp, Bool.not_eq_true', Bool.not_eq_false', Bool.not_eq_eq_eq_not, Bool.not_true, Bool.not_false] at *)
    all_goals first | done | with_reducible assumption | with_reducible rfl | omega | grind [mAccept]
set_option maxHeartbeats 1000000 in
theorem h_spec_Write : Ctr.holds E 58 (.reads [aEnd, aStr] [aEnd, aInt] (fun ((e : DEnd), (t : List UInt8), _) => e.B) fun ((e : DEnd), (t : List UInt8), _) => ((mWrite e t).1, (mWrite e t).2, ())) := by
  refine fn_ok (Γ := [(127, .reads [aEnd] [aEnd] (fun ((e : DEnd), _) => e.B) fun (e, _) => (e, ())), (45, .reads [aEnd] [aBool] (fun ((e : DEnd), _) => e.B) fun ((e : DEnd), _) => (mEndOk e, ())), (144, .reads [aOut, aStr] [aOut, aInt] (fun ((o : DOut), (t : List UInt8), _) => True) fun ((o : DOut), (t : List UInt8), _) => ((mAccept o t).1, (mAccept o t).2, ()))]) prgOk (gcons h_spec_l17Copy (gcons h_spec_EndOk (gcons h_spec_Accept gnil))) Try.func58 rfl rfl rfl rfl ?_
  rintro ty ⟨(e : DEnd), (t : List UInt8), _⟩ (hp : e.B)
  obtain ⟨hb1, hb2, hb3, hb4, hb5, hb6, hb7⟩ := id hp
  refine ⟨[], ?_⟩
  repeat' ((conv => whnf); first | refine toOb2 ?_ | refine And.intro (fun _ => ?_) (fun _ => ?_) | refine And.intro ?_ ?_ | refine toEx2 ?_ | refine toY ?_ | intro _)
  all_goals first | refine Ob2.mk ?_ | (show drawOk _ _ _ = true; exact rfl)
  all_goals (try simp only [allP, side, Ctr.reads, dTag_eta, dRoad_eta, dLetter_eta, dAddr_eta, dSub_eta, dHalf_eta, dPiece_eta, dPolicy_eta, dBucket_eta, dOut_eta, dPieces_eta, dEnd_eta, dKnown_eta, dWorld_eta]); all_goals repeat' (first | with_reducible exact rfl | exact trivial | with_reducible assumption | refine And.intro ?_ ?_ | exact (rfl : (_ : SV) = _) | exact (rfl : (_ : List SC) = _) | (show drawOk _ _ _ = true; exact rfl) | (show ((0 : Nat) : Int) = 0; exact rfl))
  all_goals (try simp only [Ctr.reads, dTag_eta, dRoad_eta, dLetter_eta, dAddr_eta, dSub_eta, dHalf_eta, dPiece_eta, dPolicy_eta, dBucket_eta, dOut_eta, dPieces_eta, dEnd_eta, dKnown_eta, dWorld_eta] at *)
  all_goals first | done | with_reducible assumption | with_reducible rfl | grind [mWrite]
set_option maxHeartbeats 1000000 in
theorem h_impl_Accept : Ctr.holds E 145 (.reads [aOut, aStr] [aOut, aInt] (fun ((o : DOut), (t : List UInt8), _) => True) fun ((o : DOut), (t : List UInt8), _) => ((mAccept o t).1, (mAccept o t).2, ())) := by
  refine fn_ok (Γ := [(121, .reads [aOut] [aBool] (fun _ => True) fun ((o : DOut), _) => (mOutOk o, ()))]) prgOk (gcons h_impl_OutOk gnil) Try.func145 rfl rfl rfl rfl ?_
  rintro ty ⟨(o : DOut), (t : List UInt8), _⟩ hp
  refine ⟨[], ?_⟩
  by_cases hok : mOutOk o = true
  · obtain ⟨ho1, ho2, ho3, ho4⟩ := outOk_bd hok
    have htl : 0 ≤ (t.length : Int) := by omega
    repeat' ((conv => whnf); first | refine toOb2 ?_ | refine And.intro (fun _ => ?_) (fun _ => ?_) | refine And.intro ?_ ?_ | refine toEx2 ?_ | refine toY ?_ | intro _)
    all_goals first | refine Ob2.mk ?_ | (show drawOk _ _ _ = true; exact rfl)
    all_goals (try simp only [allP, side, Ctr.reads, dTag_eta, dRoad_eta, dLetter_eta, dAddr_eta, dSub_eta, dHalf_eta, dPiece_eta, dPolicy_eta, dBucket_eta, dOut_eta, dPieces_eta, dEnd_eta, dKnown_eta, dWorld_eta]); all_goals repeat' (first | with_reducible exact rfl | exact trivial | with_reducible assumption | refine And.intro ?_ ?_ | exact (rfl : (_ : SV) = _) | exact (rfl : (_ : List SC) = _) | (show drawOk _ _ _ = true; exact rfl) | (show ((0 : Nat) : Int) = 0; exact rfl))
    all_goals (try simp only [Ctr.reads, dTag_eta, dRoad_eta, dLetter_eta, dAddr_eta, dSub_eta, dHalf_eta, dPiece_eta, dPolicy_eta, dBucket_eta, dOut_eta, dPieces_eta, dEnd_eta, dKnown_eta, dWorld_eta] at *)
    all_goals (try simp only [Bool.cond_true_left, Bool.cond_false_right, Bool.or_eq_false_iff, Bool.or_eq_true, Bool.and_eq_true, Bool.and_eq_false_imp, Bool.not_eq_true', Bool.not_eq_false', Bool.not_eq_eq_eq_not, Bool.not_true, Bool.not_false] at *)
    all_goals (try simp only [decide_eq_true_eq, decide_eq_false_iff_not] at *)
    all_goals (try simp (disch := omega) only [w64_id] at *)
    all_goals (try simp (disch := omega) only [w64_id] at *)
    all_goals first | done | with_reducible assumption | with_reducible rfl | omega | grind [mAccept]
  · repeat' ((conv => whnf); first | refine toOb2 ?_ | refine And.intro (fun _ => ?_) (fun _ => ?_) | refine And.intro ?_ ?_ | refine toEx2 ?_ | refine toY ?_ | intro _)
    all_goals first | refine Ob2.mk ?_ | (show drawOk _ _ _ = true; exact rfl)
    all_goals (try simp only [allP, side, Ctr.reads, dTag_eta, dRoad_eta, dLetter_eta, dAddr_eta, dSub_eta, dHalf_eta, dPiece_eta, dPolicy_eta, dBucket_eta, dOut_eta, dPieces_eta, dEnd_eta, dKnown_eta, dWorld_eta]); all_goals repeat' (first | with_reducible exact rfl | exact trivial | with_reducible assumption | refine And.intro ?_ ?_ | exact (rfl : (_ : SV) = _) | exact (rfl : (_ : List SC) = _) | (show drawOk _ _ _ = true; exact rfl) | (show ((0 : Nat) : Int) = 0; exact rfl))
    all_goals (try simp only [Ctr.reads, dTag_eta, dRoad_eta, dLetter_eta, dAddr_eta, dSub_eta, dHalf_eta, dPiece_eta, dPolicy_eta, dBucket_eta, dOut_eta, dPieces_eta, dEnd_eta, dKnown_eta, dWorld_eta] at *)
    all_goals (try simp only [Bool.cond_true_left, Bool.cond_false_right, Bool.or_eq_false_iff, Bool.or_eq_true, Bool.and_eq_true, Bool.and_eq_false_imp, Bool.not_eq_true', Bool.not_eq_false', Bool.not_eq_eq_eq_not, Bool.not_true, Bool.not_false] at *)
    all_goals first | done | with_reducible assumption | with_reducible rfl | omega | grind [mAccept]
set_option maxHeartbeats 1000000 in
theorem h_impl_Write : Ctr.holds E 59 (.reads [aEnd, aStr] [aEnd, aInt] (fun ((e : DEnd), (t : List UInt8), _) => e.B) fun ((e : DEnd), (t : List UInt8), _) => ((mWrite e t).1, (mWrite e t).2, ())) := by
  refine fn_ok (Γ := [(128, .reads [aEnd] [aEnd] (fun ((e : DEnd), _) => e.B) fun (e, _) => (e, ())), (46, .reads [aEnd] [aBool] (fun ((e : DEnd), _) => e.B) fun ((e : DEnd), _) => (mEndOk e, ())), (145, .reads [aOut, aStr] [aOut, aInt] (fun ((o : DOut), (t : List UInt8), _) => True) fun ((o : DOut), (t : List UInt8), _) => ((mAccept o t).1, (mAccept o t).2, ()))]) prgOk (gcons h_impl_copyEnd (gcons h_impl_EndOk (gcons h_impl_Accept gnil))) Try.func59 rfl rfl rfl rfl ?_
  rintro ty ⟨(e : DEnd), (t : List UInt8), _⟩ (hp : e.B)
  obtain ⟨hb1, hb2, hb3, hb4, hb5, hb6, hb7⟩ := id hp
  refine ⟨[], ?_⟩
  repeat' ((conv => whnf); first | refine toOb2 ?_ | refine And.intro (fun _ => ?_) (fun _ => ?_) | refine And.intro ?_ ?_ | refine toEx2 ?_ | refine toY ?_ | intro _)
  all_goals first | refine Ob2.mk ?_ | (show drawOk _ _ _ = true; exact rfl)
  all_goals (try simp only [allP, side, Ctr.reads, dTag_eta, dRoad_eta, dLetter_eta, dAddr_eta, dSub_eta, dHalf_eta, dPiece_eta, dPolicy_eta, dBucket_eta, dOut_eta, dPieces_eta, dEnd_eta, dKnown_eta, dWorld_eta]); all_goals repeat' (first | with_reducible exact rfl | exact trivial | with_reducible assumption | refine And.intro ?_ ?_ | exact (rfl : (_ : SV) = _) | exact (rfl : (_ : List SC) = _) | (show drawOk _ _ _ = true; exact rfl) | (show ((0 : Nat) : Int) = 0; exact rfl))
  all_goals (try simp only [Ctr.reads, dTag_eta, dRoad_eta, dLetter_eta, dAddr_eta, dSub_eta, dHalf_eta, dPiece_eta, dPolicy_eta, dBucket_eta, dOut_eta, dPieces_eta, dEnd_eta, dKnown_eta, dWorld_eta] at *)
  all_goals first | done | with_reducible assumption | with_reducible rfl | grind [mWrite]
set_option maxHeartbeats 1000000 in
theorem h_spec_AddOwn : Ctr.holds E 60 (.reads [aEnd, aAddr] [aEnd, aBool] (fun ((e : DEnd), (a : DAddr), _) => e.B ∧ e.own.length ≤ 1073741823) fun ((e : DEnd), (a : DAddr), _) => ((mAddOwn e a).1, (mAddOwn e a).2, ())) := by
  refine fn_ok (Γ := [(127, .reads [aEnd] [aEnd] (fun ((e : DEnd), _) => e.B) fun (e, _) => (e, ())), (98, .reads [aRow .addr, aAddr] [aRow .addr, aBool] (fun ((l : List DAddr), _) => l.length ≤ 1073741823) fun ((l : List DAddr), (a : DAddr), _) => ((mPutAddr l a).1, (mPutAddr l a).2, ())), (45, .reads [aEnd] [aBool] (fun ((e : DEnd), _) => e.B) fun ((e : DEnd), _) => (mEndOk e, ())), (146, .reads [aRow .addr, aInt] [aInt] (fun ((l : List DAddr), _) => l.length ≤ 1073741824) fun ((l : List DAddr), (n : Int), _) => (mAddrAt l n, ())), (134, .reads [aRow .int, aInt] [aBool] (fun ((l : List Int), _) => l.length ≤ 1073741824) fun ((l : List Int), (n : Int), _) => (mHas l n, ()))]) prgOk (gcons h_spec_l17Copy (gcons h_spec_PutAddr (gcons h_spec_EndOk (gcons h_spec_AddrAt (gcons h_spec_l15Has gnil))))) Try.func60 rfl rfl rfl rfl ?_
  rintro ty ⟨(e : DEnd), (a : DAddr), _⟩ (hp : e.B ∧ e.own.length ≤ 1073741823)
  obtain ⟨hp, hp2⟩ := hp
  obtain ⟨hb1, hb2, hb3, hb4, hb5, hb6, hb7⟩ := id hp
  have hno := @mAddOwn_no e a
  have hat := mAddrAt_bd e.own a.id
  refine ⟨[], ?_⟩
  repeat' ((conv => whnf); first | refine toOb2 ?_ | refine And.intro (fun _ => ?_) (fun _ => ?_) | refine And.intro ?_ ?_ | refine toEx2 ?_ | refine toY ?_ | intro _)
  all_goals first | refine Ob2.mk ?_ | (show drawOk _ _ _ = true; exact rfl)
  all_goals (try simp only [allP, side, Ctr.reads, dTag_eta, dRoad_eta, dLetter_eta, dAddr_eta, dSub_eta, dHalf_eta, dPiece_eta, dPolicy_eta, dBucket_eta, dOut_eta, dPieces_eta, dEnd_eta, dKnown_eta, dWorld_eta]); all_goals repeat' (first | with_reducible exact rfl | exact trivial | with_reducible assumption | refine And.intro ?_ ?_ | exact (rfl : (_ : SV) = _) | exact (rfl : (_ : List SC) = _) | (show drawOk _ _ _ = true; exact rfl) | (show ((0 : Nat) : Int) = 0; exact rfl))
  all_goals (try simp only [Ctr.reads, dTag_eta, dRoad_eta, dLetter_eta, dAddr_eta, dSub_eta, dHalf_eta, dPiece_eta, dPolicy_eta, dBucket_eta, dOut_eta, dPieces_eta, dEnd_eta, dKnown_eta, dWorld_eta] at *)
  all_goals (try simp only [Bool.cond_true_left, Bool.cond_false_right, Bool.or_eq_false_iff, Bool.or_eq_true, Bool.and_eq_true, Bool.and_eq_false_imp, Bool.not_eq_true', Bool.not_eq_false', Bool.not_eq_eq_eq_not, Bool.not_true, Bool.not_false] at *)
  all_goals first | done | with_reducible assumption | with_reducible rfl | omega | grind [mAddOwn]
set_option maxHeartbeats 1000000 in
theorem h_impl_PutAddr : Ctr.holds E 148 (.reads [aRow .addr, aAddr] [aRow .addr, aBool] (fun ((l : List DAddr), _) => l.length ≤ 1073741823) fun ((l : List DAddr), (a : DAddr), _) => ((mPutAddr l a).1, (mPutAddr l a).2, ())) := by
  refine fn_ok (Γ := [(175, .reads [aRow .addr] [aRow .addr] (fun ((a : List DAddr), _) => a.length ≤ 1073741824) fun (a, _) => (a, ())), (147, .reads [aRow .addr, aInt] [aInt] (fun ((l : List DAddr), _) => l.length ≤ 1073741824) fun ((l : List DAddr), (n : Int), _) => (mAddrAt l n, ())), (104, .reads [aRow .addr] [aBool] (fun ((l : List DAddr), _) => l.length ≤ 1073741824) fun ((l : List DAddr), _) => (mAddrsOk l, ()))]) prgOk (gcons h_impl_copyAddrs (gcons h_impl_AddrAt (gcons h_impl_AddrsOk gnil))) Try.func148 rfl rfl rfl rfl ?_
  rintro ty ⟨(l : List DAddr), (a : DAddr), _⟩ (hp : l.length ≤ 1073741823)
  have hpb := mAddrAt_bd l a.id
  have hpl := mPutL_len l a
  have hbig := @mPutAddr_big l a
  refine ⟨[(6, { X := Nat, inv := fun i => i ≤ l.length ∧ plL a.id (l.drop i) i = plL a.id l 0, mu := fun i => l.length - i, vk := [7], ov := fun i => [.a (.c (.leaf (.int (i : Int))))], bk := [], ob := fun i => [], rk := [], orr := fun i => [] })], ?_⟩
  repeat' ((conv => whnf); first | refine toOb2 ?_ | refine toY ?_ | refine And.intro (fun _ => ?_) (fun _ => ?_) | refine And.intro (toOb2 ?_) ?_ | refine And.intro (?_ : drawOk _ _ _ = true) ?_ | (refine And.intro ⟨?_, ?_⟩ ?_; fail) | intro _)
  (all_goals first | (refine Ob2.mk ?_; (try simp only [allP, side, Ctr.reads, dTag_eta, dRoad_eta, dLetter_eta, dAddr_eta, dSub_eta, dHalf_eta, dPiece_eta, dPolicy_eta, dBucket_eta, dOut_eta, dPieces_eta, dEnd_eta, dKnown_eta, dWorld_eta, List.length_set, List.nil_append] at *); (try simp only [Bool.cond_true_left, Bool.cond_false_right, Bool.or_eq_false_iff, Bool.or_eq_true, Bool.and_eq_true, Bool.and_eq_false_imp, Bool.not_eq_true', Bool.not_eq_false', Bool.not_eq_eq_eq_not, Bool.not_true, Bool.not_false, imp_self, implies_true, and_self, and_true, true_and] at *); (try subst_vars); first | done | trivial | assumption | omega | grind [mPutAddr, mPutL]) | (show drawOk _ _ _ = true; exact rfl) | skip)
  conv => whnf
  refine And.intro ⟨(0 : Nat), Ob.mk ?_, ?_⟩ (fun (i : Nat) hi => ?_)
  · exact And.intro (Nat.zero_le _) rfl
  · conv => whnf
    refine Ob.mk ?_
    all_goals (try simp only [allP, side, Ctr.reads, dTag_eta, dRoad_eta, dLetter_eta, dAddr_eta, dSub_eta, dHalf_eta, dPiece_eta, dPolicy_eta, dBucket_eta, dOut_eta, dPieces_eta, dEnd_eta, dKnown_eta, dWorld_eta]); all_goals repeat' (first | with_reducible exact rfl | exact trivial | with_reducible assumption | refine And.intro ?_ ?_ | exact (rfl : (_ : SV) = _) | exact (rfl : (_ : List SC) = _) | (show drawOk _ _ _ = true; exact rfl) | (show ((0 : Nat) : Int) = 0; exact rfl))
  obtain ⟨hi, hm⟩ := hi
  have hi : i ≤ l.length := hi
  have hm : plL a.id (l.drop i) i = plL a.id l 0 := hm
  rcases Nat.lt_or_ge i l.length with hlt | hge
  · obtain ⟨x, hx, hxi, hd⟩ := at_step l i (ETy.zero .addr) hlt
    rw [hd, plL] at hm
    have hw := w64_succ hlt ((by omega))
    repeat' ((conv => whnf); first | refine toOb2 ?_ | refine And.intro (fun _ => ?_) (fun _ => ?_) | refine And.intro ?_ ?_ | refine toEx2 ?_ | refine toY ?_ | intro _)
    all_goals try (exfalso; exact Nat.lt_irrefl _ (Nat.lt_of_lt_of_le hlt (ge_of_dec (by assumption))))
    all_goals first | refine Ob2.mk ?_ | refine Ex2.of (i + 1) ?_ ?_ | skip
    all_goals try ((conv => whnf); refine Ob.mk ?_)
    all_goals (try simp only [allP, side, Ctr.reads, dTag_eta, dRoad_eta, dLetter_eta, dAddr_eta, dSub_eta, dHalf_eta, dPiece_eta, dPolicy_eta, dBucket_eta, dOut_eta, dPieces_eta, dEnd_eta, dKnown_eta, dWorld_eta]); all_goals repeat' (first | with_reducible exact rfl | exact trivial | with_reducible assumption | refine And.intro ?_ ?_ | exact (rfl : (_ : SV) = _) | exact (rfl : (_ : List SC) = _) | (show drawOk _ _ _ = true; exact rfl) | (show ((0 : Nat) : Int) = 0; exact rfl))
    all_goals (try simp only [hx, List.nil_append, List.append_assoc, List.length_append, List.length_take, List.length_drop, List.length_cons, List.length_nil, Ctr.reads, dTag_eta, dRoad_eta, dLetter_eta, dAddr_eta, dSub_eta, dHalf_eta, dPiece_eta, dPolicy_eta, dBucket_eta, dOut_eta, dPieces_eta, dEnd_eta, dKnown_eta, dWorld_eta] at *)
    all_goals first | done | grind [mPutAddr, mPutL]
  · have hl : i = l.length := by omega
    subst hl
    rw [List.drop_length, plL] at hm
    repeat' ((conv => whnf); first | refine toOb2 ?_ | refine And.intro (fun _ => ?_) (fun _ => ?_) | refine And.intro ?_ ?_ | refine toEx2 ?_ | refine toY ?_ | intro _)
    all_goals try (exfalso; exact Nat.lt_irrefl _ (Nat.lt_of_lt_of_le (lt_of_dec (by assumption)) hge))
    all_goals first | refine Ob2.mk ?_ | refine Ex2.of (l.length + 1) ?_ ?_ | skip
    all_goals try ((conv => whnf); refine Ob.mk ?_)
    all_goals (try simp only [allP, side, Ctr.reads, dTag_eta, dRoad_eta, dLetter_eta, dAddr_eta, dSub_eta, dHalf_eta, dPiece_eta, dPolicy_eta, dBucket_eta, dOut_eta, dPieces_eta, dEnd_eta, dKnown_eta, dWorld_eta]); all_goals repeat' (first | with_reducible exact rfl | exact trivial | with_reducible assumption | refine And.intro ?_ ?_ | exact (rfl : (_ : SV) = _) | exact (rfl : (_ : List SC) = _) | (show drawOk _ _ _ = true; exact rfl) | (show ((0 : Nat) : Int) = 0; exact rfl))
    all_goals (try simp only [List.nil_append, List.append_assoc, List.length_append, List.length_take, List.length_drop, List.length_cons, List.length_nil, Ctr.reads, dTag_eta, dRoad_eta, dLetter_eta, dAddr_eta, dSub_eta, dHalf_eta, dPiece_eta, dPolicy_eta, dBucket_eta, dOut_eta, dPieces_eta, dEnd_eta, dKnown_eta, dWorld_eta] at *)
    all_goals first | done | grind [mPutAddr, mPutL]
set_option maxHeartbeats 1000000 in
theorem h_impl_AddOwn : Ctr.holds E 62 (.reads [aEnd, aAddr] [aEnd, aBool] (fun ((e : DEnd), (a : DAddr), _) => e.B ∧ e.own.length ≤ 1073741823) fun ((e : DEnd), (a : DAddr), _) => ((mAddOwn e a).1, (mAddOwn e a).2, ())) := by
  refine fn_ok (Γ := [(128, .reads [aEnd] [aEnd] (fun ((e : DEnd), _) => e.B) fun (e, _) => (e, ())), (46, .reads [aEnd] [aBool] (fun ((e : DEnd), _) => e.B) fun ((e : DEnd), _) => (mEndOk e, ())), (147, .reads [aRow .addr, aInt] [aInt] (fun ((l : List DAddr), _) => l.length ≤ 1073741824) fun ((l : List DAddr), (n : Int), _) => (mAddrAt l n, ())), (140, .reads [aRow .int, aInt] [aBool] (fun ((l : List Int), _) => l.length ≤ 1073741824) fun ((l : List Int), (n : Int), _) => (mHas l n, ())), (148, .reads [aRow .addr, aAddr] [aRow .addr, aBool] (fun ((l : List DAddr), _) => l.length ≤ 1073741823) fun ((l : List DAddr), (a : DAddr), _) => ((mPutAddr l a).1, (mPutAddr l a).2, ()))]) prgOk (gcons h_impl_copyEnd (gcons h_impl_EndOk (gcons h_impl_AddrAt (gcons h_impl_hasInt (gcons h_impl_PutAddr gnil))))) Try.func62 rfl rfl rfl rfl ?_
  rintro ty ⟨(e : DEnd), (a : DAddr), _⟩ (hp : e.B ∧ e.own.length ≤ 1073741823)
  obtain ⟨hp, hp2⟩ := hp
  obtain ⟨hb1, hb2, hb3, hb4, hb5, hb6, hb7⟩ := id hp
  have hno := @mAddOwn_no e a
  have hat := mAddrAt_bd e.own a.id
  refine ⟨[], ?_⟩
  repeat' ((conv => whnf); first | refine toOb2 ?_ | refine And.intro (fun _ => ?_) (fun _ => ?_) | refine And.intro ?_ ?_ | refine toEx2 ?_ | refine toY ?_ | intro _)
  all_goals first | refine Ob2.mk ?_ | (show drawOk _ _ _ = true; exact rfl)
  all_goals (try simp only [allP, side, Ctr.reads, dTag_eta, dRoad_eta, dLetter_eta, dAddr_eta, dSub_eta, dHalf_eta, dPiece_eta, dPolicy_eta, dBucket_eta, dOut_eta, dPieces_eta, dEnd_eta, dKnown_eta, dWorld_eta]); all_goals repeat' (first | with_reducible exact rfl | exact trivial | with_reducible assumption | refine And.intro ?_ ?_ | exact (rfl : (_ : SV) = _) | exact (rfl : (_ : List SC) = _) | (show drawOk _ _ _ = true; exact rfl) | (show ((0 : Nat) : Int) = 0; exact rfl))
  all_goals (try simp only [Ctr.reads, dTag_eta, dRoad_eta, dLetter_eta, dAddr_eta, dSub_eta, dHalf_eta, dPiece_eta, dPolicy_eta, dBucket_eta, dOut_eta, dPieces_eta, dEnd_eta, dKnown_eta, dWorld_eta] at *)
  all_goals (try simp only [Bool.cond_true_left, Bool.cond_false_right, Bool.or_eq_false_iff, Bool.or_eq_true, Bool.and_eq_true, Bool.and_eq_false_imp, Bool.not_eq_true', Bool.not_eq_false', Bool.not_eq_eq_eq_not, Bool.not_true, Bool.not_false] at *)
  all_goals first | done | with_reducible assumption | with_reducible rfl | omega | grind [mAddOwn]
set_option maxHeartbeats 1000000 in
theorem h_spec_UntoldOf : Ctr.holds E 149 (.reads [aRow .addr] [aRow .int] (fun ((l : List DAddr), _) => l.length ≤ 1073741824) fun ((l : List DAddr), _) => (mUntold l, ())) := by
  refine fn_ok (Γ := []) prgOk gnil Try.func149 rfl rfl rfl rfl ?_
  rintro ty ⟨(l : List DAddr), _⟩ (hp : l.length ≤ 1073741824)
  refine ⟨[(3, { X := Nat × List Int, inv := fun x => x.1 ≤ l.length ∧ x.2 ++ colL (fUntold) (l.drop x.1) x.1 = mUntold l ∧ x.2.length ≤ x.1, mu := fun x => l.length - x.1, vk := [4, 3, 5], ov := fun x => [.a (.c (.leaf (.int (x.1 : Int)))), .a (.c (.row 320)), .any], bk := [], ob := fun x => [], rk := [320], orr := fun x => [⟨.int, x.2, true, none⟩] })], ?_⟩
  conv => whnf
  refine And.intro ⟨((0, []) : Nat × List Int), Ob.mk ?_, ?_⟩ (fun (x : Nat × List Int) hi => ?_)
  · exact And.intro (Nat.zero_le _) (And.intro (rfl) (Nat.le_refl _))
  · conv => whnf
    refine Ob.mk ?_
    all_goals (try simp only [allP, side, Ctr.reads, dTag_eta, dRoad_eta, dLetter_eta, dAddr_eta, dSub_eta, dHalf_eta, dPiece_eta, dPolicy_eta, dBucket_eta, dOut_eta, dPieces_eta, dEnd_eta, dKnown_eta, dWorld_eta]); all_goals repeat' (first | with_reducible exact rfl | exact trivial | with_reducible assumption | refine And.intro ?_ ?_ | exact (rfl : (_ : SV) = _) | exact (rfl : (_ : List SC) = _) | (show drawOk _ _ _ = true; exact rfl) | (show ((0 : Nat) : Int) = 0; exact rfl))
  obtain ⟨i, acc⟩ := x
  obtain ⟨hi, hm⟩ := hi
  have hi : i ≤ l.length := hi
  have hm : acc ++ colL (fUntold) (l.drop i) i = mUntold l ∧ acc.length ≤ i := hm
  rcases Nat.lt_or_ge i l.length with hlt | hge
  · obtain ⟨x, hx, hxi, hd⟩ := at_step l i (ETy.zero .addr) hlt
    rw [hd, colL] at hm
    have hw := w64_succ hlt (hp)
    repeat' ((conv => whnf); first | refine toOb2 ?_ | refine And.intro (fun _ => ?_) (fun _ => ?_) | refine And.intro ?_ ?_ | refine toEx2 ?_ | intro _)
    all_goals try (exfalso; exact Nat.lt_irrefl _ (Nat.lt_of_lt_of_le hlt (ge_of_dec (by assumption))))
    all_goals first | refine Ob2.mk ?_ | refine Ex2.of ((i + 1, if x.told = false then acc ++ [x.id] else acc)) ?_ ?_ | skip
    all_goals try ((conv => whnf); refine Ob.mk ?_)
    all_goals (try simp only [allP, side, Ctr.reads, dTag_eta, dRoad_eta, dLetter_eta, dAddr_eta, dSub_eta, dHalf_eta, dPiece_eta, dPolicy_eta, dBucket_eta, dOut_eta, dPieces_eta, dEnd_eta, dKnown_eta, dWorld_eta]); all_goals repeat' (first | with_reducible exact rfl | exact trivial | with_reducible assumption | refine And.intro ?_ ?_ | exact (rfl : (_ : SV) = _) | exact (rfl : (_ : List SC) = _) | (show drawOk _ _ _ = true; exact rfl) | (show ((0 : Nat) : Int) = 0; exact rfl))
    all_goals (try simp only [hx, Ctr.reads, dTag_eta, dRoad_eta, dLetter_eta, dAddr_eta, dSub_eta, dHalf_eta, dPiece_eta, dPolicy_eta, dBucket_eta, dOut_eta, dPieces_eta, dEnd_eta, dKnown_eta, dWorld_eta] at *)
    all_goals first | done | grind [fUntold, mUntold]
  · have hl : i = l.length := by omega
    subst hl
    rw [List.drop_length, colL] at hm
    repeat' ((conv => whnf); first | refine toOb2 ?_ | refine And.intro (fun _ => ?_) (fun _ => ?_) | refine And.intro ?_ ?_ | refine toEx2 ?_ | intro _)
    all_goals try (exfalso; exact Nat.lt_irrefl _ (Nat.lt_of_lt_of_le (lt_of_dec (by assumption)) hge))
    all_goals first | refine Ob2.mk ?_ | refine Ex2.of ((l.length, acc)) ?_ ?_ | skip
    all_goals try ((conv => whnf); refine Ob.mk ?_)
    all_goals (try simp only [allP, side, Ctr.reads, dTag_eta, dRoad_eta, dLetter_eta, dAddr_eta, dSub_eta, dHalf_eta, dPiece_eta, dPolicy_eta, dBucket_eta, dOut_eta, dPieces_eta, dEnd_eta, dKnown_eta, dWorld_eta]); all_goals repeat' (first | with_reducible exact rfl | exact trivial | with_reducible assumption | refine And.intro ?_ ?_ | exact (rfl : (_ : SV) = _) | exact (rfl : (_ : List SC) = _) | (show drawOk _ _ _ = true; exact rfl) | (show ((0 : Nat) : Int) = 0; exact rfl))
    all_goals (try simp only [Ctr.reads, dTag_eta, dRoad_eta, dLetter_eta, dAddr_eta, dSub_eta, dHalf_eta, dPiece_eta, dPolicy_eta, dBucket_eta, dOut_eta, dPieces_eta, dEnd_eta, dKnown_eta, dWorld_eta] at *)
    all_goals first | done | grind [fUntold, mUntold]
set_option maxHeartbeats 1000000 in
theorem h_spec_TagAddr : Ctr.holds E 151 (.reads [aInt, aInt, aInt, aInt] [aTag] (fun ((m : Int), (t : Int), (i : Int), (a : Int), _) => True) fun ((m : Int), (t : Int), (i : Int), (a : Int), _) => (mTagAddr m t i a, ())) := by
  refine fn_ok (Γ := []) prgOk gnil Try.func151 rfl rfl rfl rfl ?_
  rintro ty ⟨(m : Int), (t : Int), (i : Int), (a : Int), _⟩ hp
  refine ⟨[], ?_⟩
  repeat' ((conv => whnf); first | refine toOb2 ?_ | refine And.intro (fun _ => ?_) (fun _ => ?_) | refine And.intro ?_ ?_ | refine toEx2 ?_ | intro _)
  all_goals first | refine Ob2.mk ?_ | (show drawOk _ _ _ = true; exact rfl)
  all_goals (try simp only [allP, side, Ctr.reads, dTag_eta, dRoad_eta, dLetter_eta, dAddr_eta, dSub_eta, dHalf_eta, dPiece_eta, dPolicy_eta, dBucket_eta, dOut_eta, dPieces_eta, dEnd_eta, dKnown_eta, dWorld_eta]); all_goals repeat' (first | with_reducible exact rfl | exact trivial | with_reducible assumption | refine And.intro ?_ ?_ | exact (rfl : (_ : SV) = _) | exact (rfl : (_ : List SC) = _) | (show drawOk _ _ _ = true; exact rfl) | (show ((0 : Nat) : Int) = 0; exact rfl))
  all_goals (try simp only [Ctr.reads, dTag_eta, dRoad_eta, dLetter_eta, dAddr_eta, dSub_eta, dHalf_eta, dPiece_eta, dPolicy_eta, dBucket_eta, dOut_eta, dPieces_eta, dEnd_eta, dKnown_eta, dWorld_eta] at *)
  all_goals first | done | with_reducible assumption | with_reducible rfl | grind [mTagAddr]
set_option maxHeartbeats 1000000 in
theorem h_spec_TellAddrs : Ctr.holds E 63 (.reads [aEnd] [aRow .letter] (fun ((e : DEnd), _) => e.B) fun ((e : DEnd), _) => (mTellAddrs e, ())) := by
  refine fn_ok (Γ := [(30, .reads [aEnd] [aRow .int] (fun ((e : DEnd), _) => e.B) fun ((e : DEnd), _) => (mOnOf e, ())), (45, .reads [aEnd] [aBool] (fun ((e : DEnd), _) => e.B) fun ((e : DEnd), _) => (mEndOk e, ())), (149, .reads [aRow .addr] [aRow .int] (fun ((l : List DAddr), _) => l.length ≤ 1073741824) fun ((l : List DAddr), _) => (mUntold l, ())), (146, .reads [aRow .addr, aInt] [aInt] (fun ((l : List DAddr), _) => l.length ≤ 1073741824) fun ((l : List DAddr), (n : Int), _) => (mAddrAt l n, ())), (151, .reads [aInt, aInt, aInt, aInt] [aTag] (fun ((m : Int), (t : Int), (i : Int), (a : Int), _) => True) fun ((m : Int), (t : Int), (i : Int), (a : Int), _) => (mTagAddr m t i a, ())), (150, .reads [aRoad, aLetter] [aLetter] (fun _ => True) fun ((r : DRoad), (x : DLetter), _) => (mBetween r x, ()))]) prgOk (gcons h_spec_OnOf (gcons h_spec_EndOk (gcons h_spec_UntoldOf (gcons h_spec_AddrAt (gcons h_spec_TagAddr (gcons h_spec_Between gnil)))))) Try.func63 rfl rfl rfl rfl ?_
  rintro ty ⟨(e : DEnd), _⟩ (hp : e.B)
  obtain ⟨hb1, hb2, hb3, hb4, hb5, hb6, hb7⟩ := hp
  refine ⟨[(8, { X := Nat × List DLetter, inv := fun x => x.1 ≤ (mUntold e.own).length ∧ x.2 ++ colL (fTellId e) ((mUntold e.own).drop x.1) x.1 = colL (fTellId e) (mUntold e.own) 0 ∧ x.2.length ≤ x.1, mu := fun x => (mUntold e.own).length - x.1, vk := [7, 3, 9], ov := fun x => [.a (.c (.leaf (.int (x.1 : Int)))), .a (.c (.row 576)), .any], bk := [], ob := fun x => [], rk := [576], orr := fun x => [⟨.letter, x.2, true, none⟩] })], ?_⟩
  have hlen : (mOnOf e).length ≤ 1073741824 := Nat.le_trans (colL_le _ _ _) hb3
  have hon : (mOnOf e).length ≠ 0 → 0 ≤ (mOnOf e).getD 0 (ETy.zero .int) ∧ (mOnOf e).getD 0 (ETy.zero .int) < (e.subs.length : Int) := fun h => mOnOf_mem e _ (by rw [List.getD, List.getElem?_eq_getElem (by omega)]; exact List.getElem_mem _)
  have htl : (mUntold e.own).length ≤ 1073741824 := Nat.le_trans (colL_le _ _ _) hb1
  have hte := fun (h : mEndOk e = true) => tell_eq e (endOk_parts h).1
  have hbd := fun (h : mEndOk e = true) => untold_bd e (endOk_parts h).1
  repeat' ((conv => whnf); first | refine toOb2 ?_ | refine toY ?_ | refine And.intro (fun _ => ?_) (fun _ => ?_) | refine And.intro (toOb2 ?_) ?_ | refine And.intro (?_ : drawOk _ _ _ = true) ?_ | (refine And.intro ⟨?_, ?_⟩ ?_; fail) | intro _)
  (all_goals first | (refine Ob2.mk ?_; (try simp only [allP, side, Ctr.reads, dTag_eta, dRoad_eta, dLetter_eta, dAddr_eta, dSub_eta, dHalf_eta, dPiece_eta, dPolicy_eta, dBucket_eta, dOut_eta, dPieces_eta, dEnd_eta, dKnown_eta, dWorld_eta] at *); (try simp only [Bool.cond_true_left, Bool.cond_false_right, Bool.or_eq_false_iff, Bool.or_eq_true, Bool.and_eq_true, Bool.and_eq_false_imp, Bool.not_eq_true', Bool.not_eq_false', Bool.not_eq_eq_eq_not, Bool.not_true, Bool.not_false, imp_self, implies_true, and_self, and_true, true_and] at *); (try simp only [show (0 : Int).toNat = 0 from rfl] at *); first | done | trivial | assumption | omega | grind [mTellAddrs]) | (show drawOk _ _ _ = true; exact rfl) | skip)
  conv => whnf
  refine And.intro ⟨((0, []) : Nat × List DLetter), Ob.mk ?_, ?_⟩ (fun (x : Nat × List DLetter) hi => ?_)
  · exact And.intro (Nat.zero_le _) (And.intro (rfl) (Nat.le_refl _))
  · conv => whnf
    refine Ob.mk ?_
    all_goals (try simp only [allP, side, Ctr.reads, dTag_eta, dRoad_eta, dLetter_eta, dAddr_eta, dSub_eta, dHalf_eta, dPiece_eta, dPolicy_eta, dBucket_eta, dOut_eta, dPieces_eta, dEnd_eta, dKnown_eta, dWorld_eta]); all_goals repeat' (first | with_reducible exact rfl | exact trivial | with_reducible assumption | refine And.intro ?_ ?_ | exact (rfl : (_ : SV) = _) | exact (rfl : (_ : List SC) = _) | (show drawOk _ _ _ = true; exact rfl) | (show ((0 : Nat) : Int) = 0; exact rfl))
  obtain ⟨i, acc⟩ := x
  obtain ⟨hi, hm⟩ := hi
  have hi : i ≤ (mUntold e.own).length := hi
  have hm : acc ++ colL (fTellId e) ((mUntold e.own).drop i) i = colL (fTellId e) (mUntold e.own) 0 ∧ acc.length ≤ i := hm
  rcases Nat.lt_or_ge i (mUntold e.own).length with hlt | hge
  · obtain ⟨x, hx, hxi, hd⟩ := at_step (mUntold e.own) i (ETy.zero .int) hlt
    rw [hd, colL] at hm
    have hw := w64_succ hlt (htl)
    clear hon hte
    have hmem := fun (h : mEndOk e = true) => hbd h x (List.mem_of_getElem? hxi)
    clear hbd
    repeat' ((conv => whnf); first | refine toOb2 ?_ | refine And.intro (fun _ => ?_) (fun _ => ?_) | refine And.intro ?_ ?_ | refine toEx2 ?_ | refine toY ?_ | intro _)
    all_goals try (exfalso; exact Nat.lt_irrefl _ (Nat.lt_of_lt_of_le hlt (ge_of_dec (by assumption))))
    all_goals first | refine Ob2.mk ?_ | refine Ex2.of ((i + 1, acc ++ [mTellOne e (gA e.own (mAddrAt e.own x).toNat)])) ?_ ?_ | skip
    all_goals try ((conv => whnf); refine Ob.mk ?_)
    all_goals (try simp only [allP, side, Ctr.reads, dTag_eta, dRoad_eta, dLetter_eta, dAddr_eta, dSub_eta, dHalf_eta, dPiece_eta, dPolicy_eta, dBucket_eta, dOut_eta, dPieces_eta, dEnd_eta, dKnown_eta, dWorld_eta]); all_goals repeat' (first | with_reducible exact rfl | exact trivial | with_reducible assumption | refine And.intro ?_ ?_ | exact (rfl : (_ : SV) = _) | exact (rfl : (_ : List SC) = _) | (show drawOk _ _ _ = true; exact rfl) | (show ((0 : Nat) : Int) = 0; exact rfl))
    all_goals (try simp only [hx, mTellOne, gSub, gA, show (0 : Int).toNat = 0 from rfl, mBetween, mTagAddr, Ctr.reads, dTag_eta, dRoad_eta, dLetter_eta, dAddr_eta, dSub_eta, dHalf_eta, dPiece_eta, dPolicy_eta, dBucket_eta, dOut_eta, dPieces_eta, dEnd_eta, dKnown_eta, dWorld_eta] at *)
    all_goals (try simp only [Bool.cond_true_left, Bool.cond_false_right, Bool.or_eq_false_iff, Bool.or_eq_true, Bool.and_eq_true, Bool.and_eq_false_imp, Bool.not_eq_true', Bool.not_eq_false', Bool.not_eq_eq_eq_not, Bool.not_true, Bool.not_false] at *)
    all_goals first | done | grind [fTellId, mTellOne, gSub, mTellAddrs, mBetween, mTagAddr]
  · have hl : i = (mUntold e.own).length := by omega
    subst hl
    rw [List.drop_length, colL] at hm
    repeat' ((conv => whnf); first | refine toOb2 ?_ | refine And.intro (fun _ => ?_) (fun _ => ?_) | refine And.intro ?_ ?_ | refine toEx2 ?_ | refine toY ?_ | intro _)
    all_goals try (exfalso; exact Nat.lt_irrefl _ (Nat.lt_of_lt_of_le (lt_of_dec (by assumption)) hge))
    all_goals first | refine Ob2.mk ?_ | refine Ex2.of (((mUntold e.own).length, acc)) ?_ ?_ | skip
    all_goals try ((conv => whnf); refine Ob.mk ?_)
    all_goals (try simp only [allP, side, Ctr.reads, dTag_eta, dRoad_eta, dLetter_eta, dAddr_eta, dSub_eta, dHalf_eta, dPiece_eta, dPolicy_eta, dBucket_eta, dOut_eta, dPieces_eta, dEnd_eta, dKnown_eta, dWorld_eta]); all_goals repeat' (first | with_reducible exact rfl | exact trivial | with_reducible assumption | refine And.intro ?_ ?_ | exact (rfl : (_ : SV) = _) | exact (rfl : (_ : List SC) = _) | (show drawOk _ _ _ = true; exact rfl) | (show ((0 : Nat) : Int) = 0; exact rfl))
    all_goals (try simp only [mTellOne, gSub, gA, show (0 : Int).toNat = 0 from rfl, mBetween, mTagAddr, Ctr.reads, dTag_eta, dRoad_eta, dLetter_eta, dAddr_eta, dSub_eta, dHalf_eta, dPiece_eta, dPolicy_eta, dBucket_eta, dOut_eta, dPieces_eta, dEnd_eta, dKnown_eta, dWorld_eta] at *)
    all_goals (try simp only [List.append_nil] at *)
    all_goals (try simp only [Bool.cond_true_left, Bool.cond_false_right, Bool.or_eq_false_iff, Bool.or_eq_true, Bool.and_eq_true, Bool.and_eq_false_imp, Bool.not_eq_true', Bool.not_eq_false', Bool.not_eq_eq_eq_not, Bool.not_true, Bool.not_false] at *)
    all_goals first | done | grind [fTellId, mTellOne, gSub, mTellAddrs, mBetween, mTagAddr]
set_option maxHeartbeats 1000000 in
theorem h_impl_TagAddr : Ctr.holds E 153 (.reads [aInt, aInt, aInt, aInt] [aTag] (fun ((m : Int), (t : Int), (i : Int), (a : Int), _) => True) fun ((m : Int), (t : Int), (i : Int), (a : Int), _) => (mTagAddr m t i a, ())) := by
  refine fn_ok (Γ := []) prgOk gnil Try.func153 rfl rfl rfl rfl ?_
  rintro ty ⟨(m : Int), (t : Int), (i : Int), (a : Int), _⟩ hp
  refine ⟨[], ?_⟩
  repeat' ((conv => whnf); first | refine toOb2 ?_ | refine And.intro (fun _ => ?_) (fun _ => ?_) | refine And.intro ?_ ?_ | refine toEx2 ?_ | intro _)
  all_goals first | refine Ob2.mk ?_ | (show drawOk _ _ _ = true; exact rfl)
  all_goals (try simp only [allP, side, Ctr.reads, dTag_eta, dRoad_eta, dLetter_eta, dAddr_eta, dSub_eta, dHalf_eta, dPiece_eta, dPolicy_eta, dBucket_eta, dOut_eta, dPieces_eta, dEnd_eta, dKnown_eta, dWorld_eta]); all_goals repeat' (first | with_reducible exact rfl | exact trivial | with_reducible assumption | refine And.intro ?_ ?_ | exact (rfl : (_ : SV) = _) | exact (rfl : (_ : List SC) = _) | (show drawOk _ _ _ = true; exact rfl) | (show ((0 : Nat) : Int) = 0; exact rfl))
  all_goals (try simp only [Ctr.reads, dTag_eta, dRoad_eta, dLetter_eta, dAddr_eta, dSub_eta, dHalf_eta, dPiece_eta, dPolicy_eta, dBucket_eta, dOut_eta, dPieces_eta, dEnd_eta, dKnown_eta, dWorld_eta] at *)
  all_goals first | done | with_reducible assumption | with_reducible rfl | grind [mTagAddr]
set_option maxHeartbeats 1000000 in
theorem h_impl_TellAddrs : Ctr.holds E 64 (.reads [aEnd] [aRow .letter] (fun ((e : DEnd), _) => e.B) fun ((e : DEnd), _) => (mTellAddrs e, ())) := by
  refine fn_ok (Γ := [(31, .reads [aEnd] [aRow .int] (fun ((e : DEnd), _) => e.B) fun ((e : DEnd), _) => (mOnOf e, ())), (46, .reads [aEnd] [aBool] (fun ((e : DEnd), _) => e.B) fun ((e : DEnd), _) => (mEndOk e, ())), (153, .reads [aInt, aInt, aInt, aInt] [aTag] (fun ((m : Int), (t : Int), (i : Int), (a : Int), _) => True) fun ((m : Int), (t : Int), (i : Int), (a : Int), _) => (mTagAddr m t i a, ())), (152, .reads [aRoad, aLetter] [aLetter] (fun _ => True) fun ((r : DRoad), (x : DLetter), _) => (mBetween r x, ()))]) prgOk (gcons h_impl_OnOf (gcons h_impl_EndOk (gcons h_impl_TagAddr (gcons h_impl_Between gnil)))) Try.func64 rfl rfl rfl rfl ?_
  rintro ty ⟨(e : DEnd), _⟩ (hp : e.B)
  obtain ⟨hb1, hb2, hb3, hb4, hb5, hb6, hb7⟩ := hp
  refine ⟨[(7, { X := Nat × List DLetter, inv := fun x => x.1 ≤ e.own.length ∧ x.2 ++ colL (fTell e) (e.own.drop x.1) x.1 = colL (fTell e) e.own 0 ∧ x.2.length ≤ x.1, mu := fun x => e.own.length - x.1, vk := [33, 5], ov := fun x => [.a (.c (.leaf (.int (x.1 : Int)))), .a (.c (.row 320))], bk := [], ob := fun x => [], rk := [320], orr := fun x => [⟨.letter, x.2, true, none⟩] })], ?_⟩
  have hlen : (mOnOf e).length ≤ 1073741824 := Nat.le_trans (colL_le _ _ _) hb3
  have hon : (mOnOf e).length ≠ 0 → 0 ≤ (mOnOf e).getD 0 (ETy.zero .int) ∧ (mOnOf e).getD 0 (ETy.zero .int) < (e.subs.length : Int) := fun h => mOnOf_mem e _ (by rw [List.getD, List.getElem?_eq_getElem (by omega)]; exact List.getElem_mem _)
  repeat' ((conv => whnf); first | refine toOb2 ?_ | refine toY ?_ | refine And.intro (fun _ => ?_) (fun _ => ?_) | refine And.intro (toOb2 ?_) ?_ | refine And.intro (?_ : drawOk _ _ _ = true) ?_ | (refine And.intro ⟨?_, ?_⟩ ?_; fail) | intro _)
  (all_goals first | (refine Ob2.mk ?_; (try simp only [allP, side, Ctr.reads, dTag_eta, dRoad_eta, dLetter_eta, dAddr_eta, dSub_eta, dHalf_eta, dPiece_eta, dPolicy_eta, dBucket_eta, dOut_eta, dPieces_eta, dEnd_eta, dKnown_eta, dWorld_eta] at *); (try simp only [Bool.cond_true_left, Bool.cond_false_right, Bool.or_eq_false_iff, Bool.or_eq_true, Bool.and_eq_true, Bool.and_eq_false_imp, Bool.not_eq_true', Bool.not_eq_false', Bool.not_eq_eq_eq_not, Bool.not_true, Bool.not_false, imp_self, implies_true, and_self, and_true, true_and] at *); (try simp only [show (0 : Int).toNat = 0 from rfl] at *); first | done | trivial | assumption | omega | grind [mTellAddrs]) | (show drawOk _ _ _ = true; exact rfl) | skip)
  conv => whnf
  refine And.intro ⟨((0, []) : Nat × List DLetter), Ob.mk ?_, ?_⟩ (fun (x : Nat × List DLetter) hi => ?_)
  · exact And.intro (Nat.zero_le _) (And.intro (rfl) (Nat.le_refl _))
  · conv => whnf
    refine Ob.mk ?_
    all_goals (try simp only [allP, side, Ctr.reads, dTag_eta, dRoad_eta, dLetter_eta, dAddr_eta, dSub_eta, dHalf_eta, dPiece_eta, dPolicy_eta, dBucket_eta, dOut_eta, dPieces_eta, dEnd_eta, dKnown_eta, dWorld_eta]); all_goals repeat' (first | with_reducible exact rfl | exact trivial | with_reducible assumption | refine And.intro ?_ ?_ | exact (rfl : (_ : SV) = _) | exact (rfl : (_ : List SC) = _) | (show drawOk _ _ _ = true; exact rfl) | (show ((0 : Nat) : Int) = 0; exact rfl))
  obtain ⟨i, acc⟩ := x
  obtain ⟨hi, hm⟩ := hi
  have hi : i ≤ e.own.length := hi
  have hm : acc ++ colL (fTell e) (e.own.drop i) i = colL (fTell e) e.own 0 ∧ acc.length ≤ i := hm
  rcases Nat.lt_or_ge i e.own.length with hlt | hge
  · obtain ⟨x, hx, hxi, hd⟩ := at_step e.own i (ETy.zero .addr) hlt
    rw [hd, colL] at hm
    have hw := w64_succ hlt (hb1)
    clear hon
    repeat' ((conv => whnf); first | refine toOb2 ?_ | refine And.intro (fun _ => ?_) (fun _ => ?_) | refine And.intro ?_ ?_ | refine toEx2 ?_ | refine toY ?_ | intro _)
    all_goals try (exfalso; exact Nat.lt_irrefl _ (Nat.lt_of_lt_of_le hlt (ge_of_dec (by assumption))))
    all_goals first | refine Ob2.mk ?_ | refine Ex2.of ((i + 1, if x.told = false then acc ++ [mTellOne e x] else acc)) ?_ ?_ | skip
    all_goals try ((conv => whnf); refine Ob.mk ?_)
    all_goals (try simp only [allP, side, Ctr.reads, dTag_eta, dRoad_eta, dLetter_eta, dAddr_eta, dSub_eta, dHalf_eta, dPiece_eta, dPolicy_eta, dBucket_eta, dOut_eta, dPieces_eta, dEnd_eta, dKnown_eta, dWorld_eta]); all_goals repeat' (first | with_reducible exact rfl | exact trivial | with_reducible assumption | refine And.intro ?_ ?_ | exact (rfl : (_ : SV) = _) | exact (rfl : (_ : List SC) = _) | (show drawOk _ _ _ = true; exact rfl) | (show ((0 : Nat) : Int) = 0; exact rfl))
    all_goals (try simp only [hx, mTellOne, gSub, show (0 : Int).toNat = 0 from rfl, mBetween, mTagAddr, Ctr.reads, dTag_eta, dRoad_eta, dLetter_eta, dAddr_eta, dSub_eta, dHalf_eta, dPiece_eta, dPolicy_eta, dBucket_eta, dOut_eta, dPieces_eta, dEnd_eta, dKnown_eta, dWorld_eta] at *)
    all_goals first | done | grind [fTell, mTellOne, gSub, mTellAddrs, mBetween, mTagAddr]
  · have hl : i = e.own.length := by omega
    subst hl
    rw [List.drop_length, colL] at hm
    repeat' ((conv => whnf); first | refine toOb2 ?_ | refine And.intro (fun _ => ?_) (fun _ => ?_) | refine And.intro ?_ ?_ | refine toEx2 ?_ | refine toY ?_ | intro _)
    all_goals try (exfalso; exact Nat.lt_irrefl _ (Nat.lt_of_lt_of_le (lt_of_dec (by assumption)) hge))
    all_goals first | refine Ob2.mk ?_ | refine Ex2.of ((e.own.length, acc)) ?_ ?_ | skip
    all_goals try ((conv => whnf); refine Ob.mk ?_)
    all_goals (try simp only [allP, side, Ctr.reads, dTag_eta, dRoad_eta, dLetter_eta, dAddr_eta, dSub_eta, dHalf_eta, dPiece_eta, dPolicy_eta, dBucket_eta, dOut_eta, dPieces_eta, dEnd_eta, dKnown_eta, dWorld_eta]); all_goals repeat' (first | with_reducible exact rfl | exact trivial | with_reducible assumption | refine And.intro ?_ ?_ | exact (rfl : (_ : SV) = _) | exact (rfl : (_ : List SC) = _) | (show drawOk _ _ _ = true; exact rfl) | (show ((0 : Nat) : Int) = 0; exact rfl))
    all_goals (try simp only [mTellOne, gSub, show (0 : Int).toNat = 0 from rfl, mBetween, mTagAddr, Ctr.reads, dTag_eta, dRoad_eta, dLetter_eta, dAddr_eta, dSub_eta, dHalf_eta, dPiece_eta, dPolicy_eta, dBucket_eta, dOut_eta, dPieces_eta, dEnd_eta, dKnown_eta, dWorld_eta] at *)
    all_goals (try simp only [List.append_nil] at *)
    all_goals (try simp only [Bool.cond_true_left, Bool.cond_false_right, Bool.or_eq_false_iff, Bool.or_eq_true, Bool.and_eq_true, Bool.and_eq_false_imp, Bool.not_eq_true', Bool.not_eq_false', Bool.not_eq_eq_eq_not, Bool.not_true, Bool.not_false] at *)
    all_goals first | done | grind [fTell, mTellOne, gSub, mTellAddrs, mBetween, mTagAddr]
end Go.Proofs.Ytjlbibidgdnjdaa
