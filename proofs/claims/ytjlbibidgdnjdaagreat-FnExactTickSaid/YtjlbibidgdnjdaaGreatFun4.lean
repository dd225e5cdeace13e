/- Contracts of functions of the program, each shown over the text. -/
import Derived.Test.YtjlbibidgdnjdaaGreatFun3
set_option linter.unusedVariables false
set_option linter.unusedSimpArgs false
set_option maxRecDepth 100000
namespace Go.Proofs.YtjlbibidgdnjdaaGreat
open Go.Eng
set_option maxHeartbeats 1000000 in
theorem h_spec_UntoldOf : Ctr.holds E 289 (.reads [aRow .addr] [aRow .int] (fun ((l : List DAddr), _) => l.length ≤ 1073741824) fun ((l : List DAddr), _) => (mUntold l, ())) := by
  refine fn_ok (Γ := []) prgOk gnil Tryz.func289 rfl rfl rfl rfl ?_
  rintro ty ⟨(l : List DAddr), _⟩ (hp : l.length ≤ 1073741824)
  refine ⟨[(3, { X := Nat × List Int, inv := fun x => x.1 ≤ l.length ∧ x.2 ++ colL (fUntold) (l.drop x.1) x.1 = mUntold l ∧ x.2.length ≤ x.1, mu := fun x => l.length - x.1, vk := [4, 3, 5], ov := fun x => [.a (.c (.leaf (.int (x.1 : Int)))), .a (.c (.row 320)), .any], bk := [], ob := fun x => [], rk := [320], orr := fun x => [⟨.int, x.2, true, none⟩] })], ?_⟩
  conv => whnf
  refine And.intro ⟨((0, []) : Nat × List Int), Ob.mk ?_, ?_⟩ (fun (x : Nat × List Int) hi => ?_)
  · exact And.intro (Nat.zero_le _) (And.intro (rfl) (Nat.le_refl _))
  · conv => whnf
    refine Ob.mk ?_
    all_goals (try simp only [allP, side, Ctr.reads, dTag_eta, dRoad_eta, dLetter_eta, dAddr_eta, dSub_eta, dHalf_eta, dPiece_eta, dPolicy_eta, dBucket_eta, dOut_eta, dPieces_eta, dEnd_eta, dKnown_eta, dWorld_eta]); all_goals repeat' (first | with_reducible exact rfl | exact trivial | with_reducible assumption | refine And.intro ?_ ?_ | exact (rfl : (_ : SV) = _) | exact (rfl : (_ : List SC) = _) | (show drawOk _ _ _ = true; exact rfl) | (show ((0 : Nat) : Int) = 0; exact rfl))
  obtain ⟨i, acc⟩ := x
  obtain ⟨hi, hm⟩ := hi
  have hi : i ≤ l.length := hi
  have hm : acc ++ colL (fUntold) (l.drop i) i = mUntold l ∧ acc.length ≤ i := hm
  rcases Nat.lt_or_ge i l.length with hlt | hge
  · obtain ⟨x, hx, hxi, hd⟩ := at_step l i (ETy.zero .addr) hlt
    rw [hd, colL] at hm
    have hw := w64_succ hlt (hp)
    repeat' ((conv => whnf); first | refine toOb2 ?_ | refine And.intro (fun _ => ?_) (fun _ => ?_) | refine And.intro ?_ ?_ | refine toEx2 ?_ | intro _)
    all_goals try (exfalso; exact Nat.lt_irrefl _ (Nat.lt_of_lt_of_le hlt (ge_of_dec (by assumption))))
    all_goals first | refine Ob2.mk ?_ | refine Ex2.of ((i + 1, if x.told = false then acc ++ [x.id] else acc)) ?_ ?_ | skip
    all_goals try ((conv => whnf); refine Ob.mk ?_)
    all_goals (try simp only [allP, side, Ctr.reads, dTag_eta, dRoad_eta, dLetter_eta, dAddr_eta, dSub_eta, dHalf_eta, dPiece_eta, dPolicy_eta, dBucket_eta, dOut_eta, dPieces_eta, dEnd_eta, dKnown_eta, dWorld_eta]); all_goals repeat' (first | with_reducible exact rfl | exact trivial | with_reducible assumption | refine And.intro ?_ ?_ | exact (rfl : (_ : SV) = _) | exact (rfl : (_ : List SC) = _) | (show drawOk _ _ _ = true; exact rfl) | (show ((0 : Nat) : Int) = 0; exact rfl))
    all_goals (try simp only [hx, Ctr.reads, dTag_eta, dRoad_eta, dLetter_eta, dAddr_eta, dSub_eta, dHalf_eta, dPiece_eta, dPolicy_eta, dBucket_eta, dOut_eta, dPieces_eta, dEnd_eta, dKnown_eta, dWorld_eta] at *)
    all_goals first | done | grind [fUntold, mUntold]
  · have hl : i = l.length := by omega
    subst hl
    rw [List.drop_length, colL] at hm
    repeat' ((conv => whnf); first | refine toOb2 ?_ | refine And.intro (fun _ => ?_) (fun _ => ?_) | refine And.intro ?_ ?_ | refine toEx2 ?_ | intro _)
    all_goals try (exfalso; exact Nat.lt_irrefl _ (Nat.lt_of_lt_of_le (lt_of_dec (by assumption)) hge))
    all_goals first | refine Ob2.mk ?_ | refine Ex2.of ((l.length, acc)) ?_ ?_ | skip
    all_goals try ((conv => whnf); refine Ob.mk ?_)
    all_goals (try simp only [allP, side, Ctr.reads, dTag_eta, dRoad_eta, dLetter_eta, dAddr_eta, dSub_eta, dHalf_eta, dPiece_eta, dPolicy_eta, dBucket_eta, dOut_eta, dPieces_eta, dEnd_eta, dKnown_eta, dWorld_eta]); all_goals repeat' (first | with_reducible exact rfl | exact trivial | with_reducible assumption | refine And.intro ?_ ?_ | exact (rfl : (_ : SV) = _) | exact (rfl : (_ : List SC) = _) | (show drawOk _ _ _ = true; exact rfl) | (show ((0 : Nat) : Int) = 0; exact rfl))
    all_goals (try simp only [Ctr.reads, dTag_eta, dRoad_eta, dLetter_eta, dAddr_eta, dSub_eta, dHalf_eta, dPiece_eta, dPolicy_eta, dBucket_eta, dOut_eta, dPieces_eta, dEnd_eta, dKnown_eta, dWorld_eta] at *)
    all_goals first | done | grind [fUntold, mUntold]
set_option maxHeartbeats 1000000 in
theorem h_spec_TagAddr : Ctr.holds E 188 (.reads [aInt, aInt, aInt, aInt] [aTag] (fun ((m : Int), (t : Int), (i : Int), (a : Int), _) => True) fun ((m : Int), (t : Int), (i : Int), (a : Int), _) => (mTagAddr m t i a, ())) := by
  refine fn_ok (Γ := []) prgOk gnil Tryz.func188 rfl rfl rfl rfl ?_
  rintro ty ⟨(m : Int), (t : Int), (i : Int), (a : Int), _⟩ hp
  refine ⟨[], ?_⟩
  repeat' ((conv => whnf); first | refine toOb2 ?_ | refine And.intro (fun _ => ?_) (fun _ => ?_) | refine And.intro ?_ ?_ | refine toEx2 ?_ | intro _)
  all_goals first | refine Ob2.mk ?_ | (show drawOk _ _ _ = true; exact rfl)
  all_goals (try simp only [allP, side, Ctr.reads, dTag_eta, dRoad_eta, dLetter_eta, dAddr_eta, dSub_eta, dHalf_eta, dPiece_eta, dPolicy_eta, dBucket_eta, dOut_eta, dPieces_eta, dEnd_eta, dKnown_eta, dWorld_eta]); all_goals repeat' (first | with_reducible exact rfl | exact trivial | with_reducible assumption | refine And.intro ?_ ?_ | exact (rfl : (_ : SV) = _) | exact (rfl : (_ : List SC) = _) | (show drawOk _ _ _ = true; exact rfl) | (show ((0 : Nat) : Int) = 0; exact rfl))
  all_goals (try simp only [Ctr.reads, dTag_eta, dRoad_eta, dLetter_eta, dAddr_eta, dSub_eta, dHalf_eta, dPiece_eta, dPolicy_eta, dBucket_eta, dOut_eta, dPieces_eta, dEnd_eta, dKnown_eta, dWorld_eta] at *)
  all_goals first | done | with_reducible assumption | with_reducible rfl | grind [mTagAddr]
set_option maxHeartbeats 1000000 in
theorem h_spec_TellAddrs : Ctr.holds E 229 (.reads [aEnd] [aRow .letter] (fun ((e : DEnd), _) => e.B) fun ((e : DEnd), _) => (mTellAddrs e, ())) := by
  refine fn_ok (Γ := [(169, .reads [aEnd] [aRow .int] (fun ((e : DEnd), _) => e.B) fun ((e : DEnd), _) => (mOnOf e, ())), (100, .reads [aEnd] [aBool] (fun ((e : DEnd), _) => e.B) fun ((e : DEnd), _) => (mEndOk e, ())), (289, .reads [aRow .addr] [aRow .int] (fun ((l : List DAddr), _) => l.length ≤ 1073741824) fun ((l : List DAddr), _) => (mUntold l, ())), (151, .reads [aRow .addr, aInt] [aInt] (fun ((l : List DAddr), _) => l.length ≤ 1073741824) fun ((l : List DAddr), (n : Int), _) => (mAddrAt l n, ())), (188, .reads [aInt, aInt, aInt, aInt] [aTag] (fun ((m : Int), (t : Int), (i : Int), (a : Int), _) => True) fun ((m : Int), (t : Int), (i : Int), (a : Int), _) => (mTagAddr m t i a, ())), (137, .reads [aRoad, aLetter] [aLetter] (fun _ => True) fun ((r : DRoad), (x : DLetter), _) => (mBetween r x, ()))]) prgOk (gcons h_spec_OnOf (gcons h_spec_EndOk (gcons h_spec_UntoldOf (gcons h_spec_AddrAt (gcons h_spec_TagAddr (gcons h_spec_Between gnil)))))) Tryz.func229 rfl rfl rfl rfl ?_
  rintro ty ⟨(e : DEnd), _⟩ (hp : e.B)
  obtain ⟨hb1, hb2, hb3, hb4, hb5, hb6, hb7⟩ := hp
  refine ⟨[(8, { X := Nat × List DLetter, inv := fun x => x.1 ≤ (mUntold e.own).length ∧ x.2 ++ colL (fTellId e) ((mUntold e.own).drop x.1) x.1 = colL (fTellId e) (mUntold e.own) 0 ∧ x.2.length ≤ x.1, mu := fun x => (mUntold e.own).length - x.1, vk := [7, 3, 9], ov := fun x => [.a (.c (.leaf (.int (x.1 : Int)))), .a (.c (.row 576)), .any], bk := [], ob := fun x => [], rk := [576], orr := fun x => [⟨.letter, x.2, true, none⟩] })], ?_⟩
  have hlen : (mOnOf e).length ≤ 1073741824 := Nat.le_trans (colL_le _ _ _) hb3
  have hon : (mOnOf e).length ≠ 0 → 0 ≤ (mOnOf e).getD 0 (ETy.zero .int) ∧ (mOnOf e).getD 0 (ETy.zero .int) < (e.subs.length : Int) := fun h => mOnOf_mem e _ (by rw [List.getD, List.getElem?_eq_getElem (by omega)]; exact List.getElem_mem _)
  have htl : (mUntold e.own).length ≤ 1073741824 := Nat.le_trans (colL_le _ _ _) hb1
  have hte := fun (h : mEndOk e = true) => tell_eq e (endOk_parts h).1
  have hbd := fun (h : mEndOk e = true) => untold_bd e (endOk_parts h).1
  repeat' ((conv => whnf); first | refine toOb2 ?_ | refine toY ?_ | refine And.intro (fun _ => ?_) (fun _ => ?_) | refine And.intro (toOb2 ?_) ?_ | refine And.intro (?_ : drawOk _ _ _ = true) ?_ | (refine And.intro ⟨?_, ?_⟩ ?_; fail) | intro _)
  (all_goals first | (refine Ob2.mk ?_; (try simp only [allP, side, Ctr.reads, dTag_eta, dRoad_eta, dLetter_eta, dAddr_eta, dSub_eta, dHalf_eta, dPiece_eta, dPolicy_eta, dBucket_eta, dOut_eta, dPieces_eta, dEnd_eta, dKnown_eta, dWorld_eta] at *); (try simp only [Bool.cond_true_left, Bool.cond_false_right, Bool.or_eq_false_iff, Bool.or_eq_true, Bool.and_eq_true, Bool.and_eq_false_imp, Bool.not_eq_true', Bool.not_eq_false', Bool.not_eq_eq_eq_not, Bool.not_true, Bool.not_false, imp_self, implies_true, and_self, and_true, true_and] at *); (try simp only [show (0 : Int).toNat = 0 from rfl] at *); first | done | trivial | assumption | omega | grind [mTellAddrs]) | (show drawOk _ _ _ = true; exact rfl) | skip)
  conv => whnf
  refine And.intro ⟨((0, []) : Nat × List DLetter), Ob.mk ?_, ?_⟩ (fun (x : Nat × List DLetter) hi => ?_)
  · exact And.intro (Nat.zero_le _) (And.intro (rfl) (Nat.le_refl _))
  · conv => whnf
    refine Ob.mk ?_
    all_goals (try simp only [allP, side, Ctr.reads, dTag_eta, dRoad_eta, dLetter_eta, dAddr_eta, dSub_eta, dHalf_eta, dPiece_eta, dPolicy_eta, dBucket_eta, dOut_eta, dPieces_eta, dEnd_eta, dKnown_eta, dWorld_eta]); all_goals repeat' (first | with_reducible exact rfl | exact trivial | with_reducible assumption | refine And.intro ?_ ?_ | exact (rfl : (_ : SV) = _) | exact (rfl : (_ : List SC) = _) | (show drawOk _ _ _ = true; exact rfl) | (show ((0 : Nat) : Int) = 0; exact rfl))
  obtain ⟨i, acc⟩ := x
  obtain ⟨hi, hm⟩ := hi
  have hi : i ≤ (mUntold e.own).length := hi
  have hm : acc ++ colL (fTellId e) ((mUntold e.own).drop i) i = colL (fTellId e) (mUntold e.own) 0 ∧ acc.length ≤ i := hm
  rcases Nat.lt_or_ge i (mUntold e.own).length with hlt | hge
  · obtain ⟨x, hx, hxi, hd⟩ := at_step (mUntold e.own) i (ETy.zero .int) hlt
    rw [hd, colL] at hm
    have hw := w64_succ hlt (htl)
    clear hon hte
    have hmem := fun (h : mEndOk e = true) => hbd h x (List.mem_of_getElem? hxi)
    clear hbd
    repeat' ((conv => whnf); first | refine toOb2 ?_ | refine And.intro (fun _ => ?_) (fun _ => ?_) | refine And.intro ?_ ?_ | refine toEx2 ?_ | refine toY ?_ | intro _)
    all_goals try (exfalso; exact Nat.lt_irrefl _ (Nat.lt_of_lt_of_le hlt (ge_of_dec (by assumption))))
    all_goals first | refine Ob2.mk ?_ | refine Ex2.of ((i + 1, acc ++ [mTellOne e (gA e.own (mAddrAt e.own x).toNat)])) ?_ ?_ | skip
    all_goals try ((conv => whnf); refine Ob.mk ?_)
    all_goals (try simp only [allP, side, Ctr.reads, dTag_eta, dRoad_eta, dLetter_eta, dAddr_eta, dSub_eta, dHalf_eta, dPiece_eta, dPolicy_eta, dBucket_eta, dOut_eta, dPieces_eta, dEnd_eta, dKnown_eta, dWorld_eta]); all_goals repeat' (first | with_reducible exact rfl | exact trivial | with_reducible assumption | refine And.intro ?_ ?_ | exact (rfl : (_ : SV) = _) | exact (rfl : (_ : List SC) = _) | (show drawOk _ _ _ = true; exact rfl) | (show ((0 : Nat) : Int) = 0; exact rfl))
    all_goals (try simp only [hx, mTellOne, gSub, gA, show (0 : Int).toNat = 0 from rfl, mBetween, mTagAddr, Ctr.reads, dTag_eta, dRoad_eta, dLetter_eta, dAddr_eta, dSub_eta, dHalf_eta, dPiece_eta, dPolicy_eta, dBucket_eta, dOut_eta, dPieces_eta, dEnd_eta, dKnown_eta, dWorld_eta] at *)
    all_goals (try simp only [Bool.cond_true_left, Bool.cond_false_right, Bool.or_eq_false_iff, Bool.or_eq_true, Bool.and_eq_true, Bool.and_eq_false_imp, Bool.not_eq_true', Bool.not_eq_false', Bool.not_eq_eq_eq_not, Bool.not_true, Bool.not_false] at *)
    all_goals first | done | grind [fTellId, mTellOne, gSub, mTellAddrs, mBetween, mTagAddr]
  · have hl : i = (mUntold e.own).length := by omega
    subst hl
    rw [List.drop_length, colL] at hm
    repeat' ((conv => whnf); first | refine toOb2 ?_ | refine And.intro (fun _ => ?_) (fun _ => ?_) | refine And.intro ?_ ?_ | refine toEx2 ?_ | refine toY ?_ | intro _)
    all_goals try (exfalso; exact Nat.lt_irrefl _ (Nat.lt_of_lt_of_le (lt_of_dec (by assumption)) hge))
    all_goals first | refine Ob2.mk ?_ | refine Ex2.of (((mUntold e.own).length, acc)) ?_ ?_ | skip
    all_goals try ((conv => whnf); refine Ob.mk ?_)
    all_goals (try simp only [allP, side, Ctr.reads, dTag_eta, dRoad_eta, dLetter_eta, dAddr_eta, dSub_eta, dHalf_eta, dPiece_eta, dPolicy_eta, dBucket_eta, dOut_eta, dPieces_eta, dEnd_eta, dKnown_eta, dWorld_eta]); all_goals repeat' (first | with_reducible exact rfl | exact trivial | with_reducible assumption | refine And.intro ?_ ?_ | exact (rfl : (_ : SV) = _) | exact (rfl : (_ : List SC) = _) | (show drawOk _ _ _ = true; exact rfl) | (show ((0 : Nat) : Int) = 0; exact rfl))
    all_goals (try simp only [mTellOne, gSub, gA, show (0 : Int).toNat = 0 from rfl, mBetween, mTagAddr, Ctr.reads, dTag_eta, dRoad_eta, dLetter_eta, dAddr_eta, dSub_eta, dHalf_eta, dPiece_eta, dPolicy_eta, dBucket_eta, dOut_eta, dPieces_eta, dEnd_eta, dKnown_eta, dWorld_eta] at *)
    all_goals (try simp only [List.append_nil] at *)
    all_goals (try simp only [Bool.cond_true_left, Bool.cond_false_right, Bool.or_eq_false_iff, Bool.or_eq_true, Bool.and_eq_true, Bool.and_eq_false_imp, Bool.not_eq_true', Bool.not_eq_false', Bool.not_eq_eq_eq_not, Bool.not_true, Bool.not_false] at *)
    all_goals first | done | grind [fTellId, mTellOne, gSub, mTellAddrs, mBetween, mTagAddr]
set_option maxHeartbeats 1000000 in
theorem h_spec_NextSub : Ctr.holds E 173 (.reads [aEnd] [aInt] (fun ((e : DEnd), _) => e.B) fun ((e : DEnd), _) => (mNextSub e, ())) := by
  refine fn_ok (Γ := [(100, .reads [aEnd] [aBool] (fun ((e : DEnd), _) => e.B) fun ((e : DEnd), _) => (mEndOk e, ())), (169, .reads [aEnd] [aRow .int] (fun ((e : DEnd), _) => e.B) fun ((e : DEnd), _) => (mOnOf e, ()))]) prgOk (gcons h_spec_EndOk (gcons h_spec_OnOf gnil)) Tryz.func173 rfl rfl rfl rfl ?_
  rintro ty ⟨(e : DEnd), _⟩ (hp : e.B)
  obtain ⟨hb1, hb2, hb3, hb4, hb5, hb6, hb7⟩ := hp
  refine ⟨[(6, { X := Nat × List Int, inv := fun x => x.1 ≤ (mOnOf e).length ∧ x.2 ++ colL (fCarr e) ((mOnOf e).drop x.1) x.1 = mCarr0 e ∧ x.2.length ≤ x.1, mu := fun x => (mOnOf e).length - x.1, vk := [5, 4, 11], ov := fun x => [.a (.c (.leaf (.int (x.1 : Int)))), .a (.c (.row 704)), .any], bk := [], ob := fun x => [], rk := [704], orr := fun x => [⟨.int, x.2, true, none⟩] })], ?_⟩
  have hlen : (mOnOf e).length ≤ 1073741824 := Nat.le_trans (colL_le _ _ _) hb3
  have hpk := fun (h : mEndOk e = true) => tmod_bd (mOnOf e) (endOk_pick h)
  have hpk2 := fun (h : mEndOk e = true) => tmod_bd (mCarr0 e) (endOk_pick h)
  repeat' ((conv => whnf); first | refine toOb2 ?_ | refine toY ?_ | refine And.intro (fun _ => ?_) (fun _ => ?_) | refine And.intro (toOb2 ?_) ?_ | refine And.intro (?_ : drawOk _ _ _ = true) ?_ | (refine And.intro ⟨?_, ?_⟩ ?_; fail) | intro _)
  (all_goals first | (refine Ob2.mk ?_; (try simp only [allP, side, Ctr.reads, dTag_eta, dRoad_eta, dLetter_eta, dAddr_eta, dSub_eta, dHalf_eta, dPiece_eta, dPolicy_eta, dBucket_eta, dOut_eta, dPieces_eta, dEnd_eta, dKnown_eta, dWorld_eta] at *); (try simp only [Bool.cond_true_left, Bool.cond_false_right, Bool.or_eq_false_iff, Bool.or_eq_true, Bool.and_eq_true, Bool.and_eq_false_imp, Bool.not_eq_true', Bool.not_eq_false', Bool.not_eq_eq_eq_not, Bool.not_true, Bool.not_false, imp_self, implies_true, and_self, and_true, true_and] at *); first | done | trivial | assumption | omega | grind [mNextSub]) | (show drawOk _ _ _ = true; exact rfl) | skip)
  conv => whnf
  refine And.intro ⟨((0, []) : Nat × List Int), Ob.mk ?_, ?_⟩ (fun (x : Nat × List Int) hi => ?_)
  · exact And.intro (Nat.zero_le _) (And.intro (rfl) (Nat.le_refl _))
  · conv => whnf
    refine Ob.mk ?_
    all_goals (try simp only [allP, side, Ctr.reads, dTag_eta, dRoad_eta, dLetter_eta, dAddr_eta, dSub_eta, dHalf_eta, dPiece_eta, dPolicy_eta, dBucket_eta, dOut_eta, dPieces_eta, dEnd_eta, dKnown_eta, dWorld_eta]); all_goals repeat' (first | with_reducible exact rfl | exact trivial | with_reducible assumption | refine And.intro ?_ ?_ | exact (rfl : (_ : SV) = _) | exact (rfl : (_ : List SC) = _) | (show drawOk _ _ _ = true; exact rfl) | (show ((0 : Nat) : Int) = 0; exact rfl))
  obtain ⟨i, acc⟩ := x
  obtain ⟨hi, hm⟩ := hi
  have hi : i ≤ (mOnOf e).length := hi
  have hm : acc ++ colL (fCarr e) ((mOnOf e).drop i) i = mCarr0 e ∧ acc.length ≤ i := hm
  rcases Nat.lt_or_ge i (mOnOf e).length with hlt | hge
  · obtain ⟨x, hx, hxi, hd⟩ := at_step (mOnOf e) i (ETy.zero .int) hlt
    rw [hd, colL] at hm
    have hw := w64_succ hlt (hlen)
    have hmem := mOnOf_mem e x (List.mem_of_getElem? hxi)
    clear hpk hpk2
    repeat' ((conv => whnf); first | refine toOb2 ?_ | refine And.intro (fun _ => ?_) (fun _ => ?_) | refine And.intro ?_ ?_ | refine toEx2 ?_ | refine toY ?_ | intro _)
    all_goals try (exfalso; exact Nat.lt_irrefl _ (Nat.lt_of_lt_of_le hlt (ge_of_dec (by assumption))))
    all_goals first | refine Ob2.mk ?_ | refine Ex2.of ((i + 1, if (gSub e x).spare = false then acc ++ [x] else acc)) ?_ ?_ | skip
    all_goals try ((conv => whnf); refine Ob.mk ?_)
    all_goals (try simp only [allP, side, Ctr.reads, dTag_eta, dRoad_eta, dLetter_eta, dAddr_eta, dSub_eta, dHalf_eta, dPiece_eta, dPolicy_eta, dBucket_eta, dOut_eta, dPieces_eta, dEnd_eta, dKnown_eta, dWorld_eta]); all_goals repeat' (first | with_reducible exact rfl | exact trivial | with_reducible assumption | refine And.intro ?_ ?_ | exact (rfl : (_ : SV) = _) | exact (rfl : (_ : List SC) = _) | (show drawOk _ _ _ = true; exact rfl) | (show ((0 : Nat) : Int) = 0; exact rfl))
    all_goals (try simp only [hx, Ctr.reads, dTag_eta, dRoad_eta, dLetter_eta, dAddr_eta, dSub_eta, dHalf_eta, dPiece_eta, dPolicy_eta, dBucket_eta, dOut_eta, dPieces_eta, dEnd_eta, dKnown_eta, dWorld_eta] at *)
    all_goals (try simp only [gSub] at *)
    all_goals first | done | grind [fCarr, gSub, mCarr, mNextSub]
  · have hl : i = (mOnOf e).length := by omega
    subst hl
    rw [List.drop_length, colL] at hm
    repeat' ((conv => whnf); first | refine toOb2 ?_ | refine And.intro (fun _ => ?_) (fun _ => ?_) | refine And.intro ?_ ?_ | refine toEx2 ?_ | refine toY ?_ | intro _)
    all_goals try (exfalso; exact Nat.lt_irrefl _ (Nat.lt_of_lt_of_le (lt_of_dec (by assumption)) hge))
    all_goals first | refine Ob2.mk ?_ | refine Ex2.of (((mOnOf e).length, acc)) ?_ ?_ | skip
    all_goals try ((conv => whnf); refine Ob.mk ?_)
    all_goals (try simp only [allP, side, Ctr.reads, dTag_eta, dRoad_eta, dLetter_eta, dAddr_eta, dSub_eta, dHalf_eta, dPiece_eta, dPolicy_eta, dBucket_eta, dOut_eta, dPieces_eta, dEnd_eta, dKnown_eta, dWorld_eta]); all_goals repeat' (first | with_reducible exact rfl | exact trivial | with_reducible assumption | refine And.intro ?_ ?_ | exact (rfl : (_ : SV) = _) | exact (rfl : (_ : List SC) = _) | (show drawOk _ _ _ = true; exact rfl) | (show ((0 : Nat) : Int) = 0; exact rfl))
    all_goals (try simp only [Ctr.reads, dTag_eta, dRoad_eta, dLetter_eta, dAddr_eta, dSub_eta, dHalf_eta, dPiece_eta, dPolicy_eta, dBucket_eta, dOut_eta, dPieces_eta, dEnd_eta, dKnown_eta, dWorld_eta] at *)
    all_goals (try simp only [List.append_nil] at *)
    all_goals (try (obtain ⟨hm, hm9⟩ := hm; subst hm))
    all_goals first | done | grind [fCarr, gSub, mCarr, mNextSub]
set_option maxHeartbeats 1000000 in
theorem h_impl_TagAddr : Ctr.holds E 191 (.reads [aInt, aInt, aInt, aInt] [aTag] (fun ((m : Int), (t : Int), (i : Int), (a : Int), _) => True) fun ((m : Int), (t : Int), (i : Int), (a : Int), _) => (mTagAddr m t i a, ())) := by
  refine fn_ok (Γ := []) prgOk gnil Tryz.func191 rfl rfl rfl rfl ?_
  rintro ty ⟨(m : Int), (t : Int), (i : Int), (a : Int), _⟩ hp
  refine ⟨[], ?_⟩
  repeat' ((conv => whnf); first | refine toOb2 ?_ | refine And.intro (fun _ => ?_) (fun _ => ?_) | refine And.intro ?_ ?_ | refine toEx2 ?_ | intro _)
  all_goals first | refine Ob2.mk ?_ | (show drawOk _ _ _ = true; exact rfl)
  all_goals (try simp only [allP, side, Ctr.reads, dTag_eta, dRoad_eta, dLetter_eta, dAddr_eta, dSub_eta, dHalf_eta, dPiece_eta, dPolicy_eta, dBucket_eta, dOut_eta, dPieces_eta, dEnd_eta, dKnown_eta, dWorld_eta]); all_goals repeat' (first | with_reducible exact rfl | exact trivial | with_reducible assumption | refine And.intro ?_ ?_ | exact (rfl : (_ : SV) = _) | exact (rfl : (_ : List SC) = _) | (show drawOk _ _ _ = true; exact rfl) | (show ((0 : Nat) : Int) = 0; exact rfl))
  all_goals (try simp only [Ctr.reads, dTag_eta, dRoad_eta, dLetter_eta, dAddr_eta, dSub_eta, dHalf_eta, dPiece_eta, dPolicy_eta, dBucket_eta, dOut_eta, dPieces_eta, dEnd_eta, dKnown_eta, dWorld_eta] at *)
  all_goals first | done | with_reducible assumption | with_reducible rfl | grind [mTagAddr]
set_option maxHeartbeats 1000000 in
theorem h_impl_TellAddrs : Ctr.holds E 290 (.reads [aEnd] [aRow .letter] (fun ((e : DEnd), _) => e.B) fun ((e : DEnd), _) => (mTellAddrs e, ())) := by
  refine fn_ok (Γ := [(172, .reads [aEnd] [aRow .int] (fun ((e : DEnd), _) => e.B) fun ((e : DEnd), _) => (mOnOf e, ())), (112, .reads [aEnd] [aBool] (fun ((e : DEnd), _) => e.B) fun ((e : DEnd), _) => (mEndOk e, ())), (191, .reads [aInt, aInt, aInt, aInt] [aTag] (fun ((m : Int), (t : Int), (i : Int), (a : Int), _) => True) fun ((m : Int), (t : Int), (i : Int), (a : Int), _) => (mTagAddr m t i a, ())), (139, .reads [aRoad, aLetter] [aLetter] (fun _ => True) fun ((r : DRoad), (x : DLetter), _) => (mBetween r x, ()))]) prgOk (gcons h_impl_OnOf (gcons h_impl_EndOk (gcons h_impl_TagAddr (gcons h_impl_Between gnil)))) Tryz.func290 rfl rfl rfl rfl ?_
  rintro ty ⟨(e : DEnd), _⟩ (hp : e.B)
  obtain ⟨hb1, hb2, hb3, hb4, hb5, hb6, hb7⟩ := hp
  refine ⟨[(7, { X := Nat × List DLetter, inv := fun x => x.1 ≤ e.own.length ∧ x.2 ++ colL (fTell e) (e.own.drop x.1) x.1 = colL (fTell e) e.own 0 ∧ x.2.length ≤ x.1, mu := fun x => e.own.length - x.1, vk := [33, 5], ov := fun x => [.a (.c (.leaf (.int (x.1 : Int)))), .a (.c (.row 320))], bk := [], ob := fun x => [], rk := [320], orr := fun x => [⟨.letter, x.2, true, none⟩] })], ?_⟩
  have hlen : (mOnOf e).length ≤ 1073741824 := Nat.le_trans (colL_le _ _ _) hb3
  have hon : (mOnOf e).length ≠ 0 → 0 ≤ (mOnOf e).getD 0 (ETy.zero .int) ∧ (mOnOf e).getD 0 (ETy.zero .int) < (e.subs.length : Int) := fun h => mOnOf_mem e _ (by rw [List.getD, List.getElem?_eq_getElem (by omega)]; exact List.getElem_mem _)
  repeat' ((conv => whnf); first | refine toOb2 ?_ | refine toY ?_ | refine And.intro (fun _ => ?_) (fun _ => ?_) | refine And.intro (toOb2 ?_) ?_ | refine And.intro (?_ : drawOk _ _ _ = true) ?_ | (refine And.intro ⟨?_, ?_⟩ ?_; fail) | intro _)
  (all_goals first | (refine Ob2.mk ?_; (try simp only [allP, side, Ctr.reads, dTag_eta, dRoad_eta, dLetter_eta, dAddr_eta, dSub_eta, dHalf_eta, dPiece_eta, dPolicy_eta, dBucket_eta, dOut_eta, dPieces_eta, dEnd_eta, dKnown_eta, dWorld_eta] at *); (try simp only [Bool.cond_true_left, Bool.cond_false_right, Bool.or_eq_false_iff, Bool.or_eq_true, Bool.and_eq_true, Bool.and_eq_false_imp, Bool.not_eq_true', Bool.not_eq_false', Bool.not_eq_eq_eq_not, Bool.not_true, Bool.not_false, imp_self, implies_true, and_self, and_true, true_and] at *); (try simp only [show (0 : Int).toNat = 0 from rfl] at *); first | done | trivial | assumption | omega | grind [mTellAddrs]) | (show drawOk _ _ _ = true; exact rfl) | skip)
  conv => whnf
  refine And.intro ⟨((0, []) : Nat × List DLetter), Ob.mk ?_, ?_⟩ (fun (x : Nat × List DLetter) hi => ?_)
  · exact And.intro (Nat.zero_le _) (And.intro (rfl) (Nat.le_refl _))
  · conv => whnf
    refine Ob.mk ?_
    all_goals (try simp only [allP, side, Ctr.reads, dTag_eta, dRoad_eta, dLetter_eta, dAddr_eta, dSub_eta, dHalf_eta, dPiece_eta, dPolicy_eta, dBucket_eta, dOut_eta, dPieces_eta, dEnd_eta, dKnown_eta, dWorld_eta]); all_goals repeat' (first | with_reducible exact rfl | exact trivial | with_reducible assumption | refine And.intro ?_ ?_ | exact (rfl : (_ : SV) = _) | exact (rfl : (_ : List SC) = _) | (show drawOk _ _ _ = true; exact rfl) | (show ((0 : Nat) : Int) = 0; exact rfl))
  obtain ⟨i, acc⟩ := x
  obtain ⟨hi, hm⟩ := hi
  have hi : i ≤ e.own.length := hi
  have hm : acc ++ colL (fTell e) (e.own.drop i) i = colL (fTell e) e.own 0 ∧ acc.length ≤ i := hm
  rcases Nat.lt_or_ge i e.own.length with hlt | hge
  · obtain ⟨x, hx, hxi, hd⟩ := at_step e.own i (ETy.zero .addr) hlt
    rw [hd, colL] at hm
    have hw := w64_succ hlt (hb1)
    clear hon
    repeat' ((conv => whnf); first | refine toOb2 ?_ | refine And.intro (fun _ => ?_) (fun _ => ?_) | refine And.intro ?_ ?_ | refine toEx2 ?_ | refine toY ?_ | intro _)
    all_goals try (exfalso; exact Nat.lt_irrefl _ (Nat.lt_of_lt_of_le hlt (ge_of_dec (by assumption))))
    all_goals first | refine Ob2.mk ?_ | refine Ex2.of ((i + 1, if x.told = false then acc ++ [mTellOne e x] else acc)) ?_ ?_ | skip
    all_goals try ((conv => whnf); refine Ob.mk ?_)
    all_goals (try simp only [allP, side, Ctr.reads, dTag_eta, dRoad_eta, dLetter_eta, dAddr_eta, dSub_eta, dHalf_eta, dPiece_eta, dPolicy_eta, dBucket_eta, dOut_eta, dPieces_eta, dEnd_eta, dKnown_eta, dWorld_eta]); all_goals repeat' (first | with_reducible exact rfl | exact trivial | with_reducible assumption | refine And.intro ?_ ?_ | exact (rfl : (_ : SV) = _) | exact (rfl : (_ : List SC) = _) | (show drawOk _ _ _ = true; exact rfl) | (show ((0 : Nat) : Int) = 0; exact rfl))
    all_goals (try simp only [hx, mTellOne, gSub, show (0 : Int).toNat = 0 from rfl, mBetween, mTagAddr, Ctr.reads, dTag_eta, dRoad_eta, dLetter_eta, dAddr_eta, dSub_eta, dHalf_eta, dPiece_eta, dPolicy_eta, dBucket_eta, dOut_eta, dPieces_eta, dEnd_eta, dKnown_eta, dWorld_eta] at *)
    all_goals first | done | grind [fTell, mTellOne, gSub, mTellAddrs, mBetween, mTagAddr]
  · have hl : i = e.own.length := by omega
    subst hl
    rw [List.drop_length, colL] at hm
    repeat' ((conv => whnf); first | refine toOb2 ?_ | refine And.intro (fun _ => ?_) (fun _ => ?_) | refine And.intro ?_ ?_ | refine toEx2 ?_ | refine toY ?_ | intro _)
    all_goals try (exfalso; exact Nat.lt_irrefl _ (Nat.lt_of_lt_of_le (lt_of_dec (by assumption)) hge))
    all_goals first | refine Ob2.mk ?_ | refine Ex2.of ((e.own.length, acc)) ?_ ?_ | skip
    all_goals try ((conv => whnf); refine Ob.mk ?_)
    all_goals (try simp only [allP, side, Ctr.reads, dTag_eta, dRoad_eta, dLetter_eta, dAddr_eta, dSub_eta, dHalf_eta, dPiece_eta, dPolicy_eta, dBucket_eta, dOut_eta, dPieces_eta, dEnd_eta, dKnown_eta, dWorld_eta]); all_goals repeat' (first | with_reducible exact rfl | exact trivial | with_reducible assumption | refine And.intro ?_ ?_ | exact (rfl : (_ : SV) = _) | exact (rfl : (_ : List SC) = _) | (show drawOk _ _ _ = true; exact rfl) | (show ((0 : Nat) : Int) = 0; exact rfl))
    all_goals (try simp only [mTellOne, gSub, show (0 : Int).toNat = 0 from rfl, mBetween, mTagAddr, Ctr.reads, dTag_eta, dRoad_eta, dLetter_eta, dAddr_eta, dSub_eta, dHalf_eta, dPiece_eta, dPolicy_eta, dBucket_eta, dOut_eta, dPieces_eta, dEnd_eta, dKnown_eta, dWorld_eta] at *)
    all_goals (try simp only [List.append_nil] at *)
    all_goals (try simp only [Bool.cond_true_left, Bool.cond_false_right, Bool.or_eq_false_iff, Bool.or_eq_true, Bool.and_eq_true, Bool.and_eq_false_imp, Bool.not_eq_true', Bool.not_eq_false', Bool.not_eq_eq_eq_not, Bool.not_true, Bool.not_false] at *)
    all_goals first | done | grind [fTell, mTellOne, gSub, mTellAddrs, mBetween, mTagAddr]
set_option maxHeartbeats 1000000 in
theorem h_impl_carriers : Ctr.holds E 269 (.reads [aEnd] [aRow .int] (fun ((e : DEnd), _) => e.B) fun ((e : DEnd), _) => (mCarr e, ())) := by
  refine fn_ok (Γ := [(172, .reads [aEnd] [aRow .int] (fun ((e : DEnd), _) => e.B) fun ((e : DEnd), _) => (mOnOf e, ()))]) prgOk (gcons h_impl_OnOf gnil) Tryz.func269 rfl rfl rfl rfl ?_
  rintro ty ⟨(e : DEnd), _⟩ (hp : e.B)
  obtain ⟨hb1, hb2, hb3, hb4, hb5, hb6, hb7⟩ := hp
  refine ⟨[(4, { X := Nat × List Int, inv := fun x => x.1 ≤ (mOnOf e).length ∧ x.2 ++ colL (fCarr e) ((mOnOf e).drop x.1) x.1 = mCarr0 e ∧ x.2.length ≤ x.1, mu := fun x => (mOnOf e).length - x.1, vk := [11, 3], ov := fun x => [.a (.c (.leaf (.int (x.1 : Int)))), .a (.c (.row 192))], bk := [], ob := fun x => [], rk := [192], orr := fun x => [⟨.int, x.2, true, none⟩] })], ?_⟩
  have hlen : (mOnOf e).length ≤ 1073741824 := Nat.le_trans (colL_le _ _ _) hb3
  repeat' ((conv => whnf); first | refine toOb2 ?_ | refine toY ?_ | refine And.intro (fun _ => ?_) (fun _ => ?_) | refine And.intro (toOb2 ?_) ?_ | refine And.intro (?_ : drawOk _ _ _ = true) ?_ | (refine And.intro ⟨?_, ?_⟩ ?_; fail) | intro _)
  (all_goals first | (refine Ob2.mk ?_; (try simp only [allP, side, Ctr.reads, dTag_eta, dRoad_eta, dLetter_eta, dAddr_eta, dSub_eta, dHalf_eta, dPiece_eta, dPolicy_eta, dBucket_eta, dOut_eta, dPieces_eta, dEnd_eta, dKnown_eta, dWorld_eta] at *); (try simp only [Bool.cond_true_left, Bool.cond_false_right, Bool.or_eq_false_iff, Bool.or_eq_true, Bool.and_eq_true, Bool.and_eq_false_imp, Bool.not_eq_true', Bool.not_eq_false', Bool.not_eq_eq_eq_not, Bool.not_true, Bool.not_false, imp_self, implies_true, and_self, and_true, true_and] at *); first | done | trivial | assumption | omega | grind []) | (show drawOk _ _ _ = true; exact rfl) | skip)
  conv => whnf
  refine And.intro ⟨((0, []) : Nat × List Int), Ob.mk ?_, ?_⟩ (fun (x : Nat × List Int) hi => ?_)
  · exact And.intro (Nat.zero_le _) (And.intro (rfl) (Nat.le_refl _))
  · conv => whnf
    refine Ob.mk ?_
    all_goals (try simp only [allP, side, Ctr.reads, dTag_eta, dRoad_eta, dLetter_eta, dAddr_eta, dSub_eta, dHalf_eta, dPiece_eta, dPolicy_eta, dBucket_eta, dOut_eta, dPieces_eta, dEnd_eta, dKnown_eta, dWorld_eta]); all_goals repeat' (first | with_reducible exact rfl | exact trivial | with_reducible assumption | refine And.intro ?_ ?_ | exact (rfl : (_ : SV) = _) | exact (rfl : (_ : List SC) = _) | (show drawOk _ _ _ = true; exact rfl) | (show ((0 : Nat) : Int) = 0; exact rfl))
  obtain ⟨i, acc⟩ := x
  obtain ⟨hi, hm⟩ := hi
  have hi : i ≤ (mOnOf e).length := hi
  have hm : acc ++ colL (fCarr e) ((mOnOf e).drop i) i = mCarr0 e ∧ acc.length ≤ i := hm
  rcases Nat.lt_or_ge i (mOnOf e).length with hlt | hge
  · obtain ⟨x, hx, hxi, hd⟩ := at_step (mOnOf e) i (ETy.zero .int) hlt
    rw [hd, colL] at hm
    have hw := w64_succ hlt (hlen)
    have hmem := mOnOf_mem e x (List.mem_of_getElem? hxi)
    repeat' ((conv => whnf); first | refine toOb2 ?_ | refine And.intro (fun _ => ?_) (fun _ => ?_) | refine And.intro ?_ ?_ | refine toEx2 ?_ | refine toY ?_ | intro _)
    all_goals try (exfalso; exact Nat.lt_irrefl _ (Nat.lt_of_lt_of_le hlt (ge_of_dec (by assumption))))
    all_goals first | refine Ob2.mk ?_ | refine Ex2.of ((i + 1, if (gSub e x).spare = false then acc ++ [x] else acc)) ?_ ?_ | skip
    all_goals try ((conv => whnf); refine Ob.mk ?_)
    all_goals (try simp only [allP, side, Ctr.reads, dTag_eta, dRoad_eta, dLetter_eta, dAddr_eta, dSub_eta, dHalf_eta, dPiece_eta, dPolicy_eta, dBucket_eta, dOut_eta, dPieces_eta, dEnd_eta, dKnown_eta, dWorld_eta]); all_goals repeat' (first | with_reducible exact rfl | exact trivial | with_reducible assumption | refine And.intro ?_ ?_ | exact (rfl : (_ : SV) = _) | exact (rfl : (_ : List SC) = _) | (show drawOk _ _ _ = true; exact rfl) | (show ((0 : Nat) : Int) = 0; exact rfl))
    all_goals (try simp only [hx, Ctr.reads, dTag_eta, dRoad_eta, dLetter_eta, dAddr_eta, dSub_eta, dHalf_eta, dPiece_eta, dPolicy_eta, dBucket_eta, dOut_eta, dPieces_eta, dEnd_eta, dKnown_eta, dWorld_eta] at *)
    all_goals (try simp only [gSub] at *)
    all_goals first | done | grind [fCarr, gSub, mCarr]
  · have hl : i = (mOnOf e).length := by omega
    subst hl
    rw [List.drop_length, colL] at hm
    repeat' ((conv => whnf); first | refine toOb2 ?_ | refine And.intro (fun _ => ?_) (fun _ => ?_) | refine And.intro ?_ ?_ | refine toEx2 ?_ | refine toY ?_ | intro _)
    all_goals try (exfalso; exact Nat.lt_irrefl _ (Nat.lt_of_lt_of_le (lt_of_dec (by assumption)) hge))
    all_goals first | refine Ob2.mk ?_ | refine Ex2.of (((mOnOf e).length, acc)) ?_ ?_ | skip
    all_goals try ((conv => whnf); refine Ob.mk ?_)
    all_goals (try simp only [allP, side, Ctr.reads, dTag_eta, dRoad_eta, dLetter_eta, dAddr_eta, dSub_eta, dHalf_eta, dPiece_eta, dPolicy_eta, dBucket_eta, dOut_eta, dPieces_eta, dEnd_eta, dKnown_eta, dWorld_eta]); all_goals repeat' (first | with_reducible exact rfl | exact trivial | with_reducible assumption | refine And.intro ?_ ?_ | exact (rfl : (_ : SV) = _) | exact (rfl : (_ : List SC) = _) | (show drawOk _ _ _ = true; exact rfl) | (show ((0 : Nat) : Int) = 0; exact rfl))
    all_goals (try simp only [Ctr.reads, dTag_eta, dRoad_eta, dLetter_eta, dAddr_eta, dSub_eta, dHalf_eta, dPiece_eta, dPolicy_eta, dBucket_eta, dOut_eta, dPieces_eta, dEnd_eta, dKnown_eta, dWorld_eta] at *)
    all_goals (try simp only [List.append_nil] at *)
    all_goals first | done | grind [fCarr, gSub, mCarr]
set_option maxHeartbeats 1000000 in
theorem h_impl_NextSub : Ctr.holds E 177 (.reads [aEnd] [aInt] (fun ((e : DEnd), _) => e.B) fun ((e : DEnd), _) => (mNextSub e, ())) := by
  refine fn_ok (Γ := [(269, .reads [aEnd] [aRow .int] (fun ((e : DEnd), _) => e.B) fun ((e : DEnd), _) => (mCarr e, ())), (112, .reads [aEnd] [aBool] (fun ((e : DEnd), _) => e.B) fun ((e : DEnd), _) => (mEndOk e, ()))]) prgOk (gcons h_impl_carriers (gcons h_impl_EndOk gnil)) Tryz.func177 rfl rfl rfl rfl ?_
  rintro ty ⟨(e : DEnd), _⟩ (hp : e.B)
  have hB := hp
  obtain ⟨hb1, hb2, hb3, hb4, hb5, hb6, hb7⟩ := hp
  refine ⟨[], ?_⟩
  have hpk := fun h : mEndOk e = true => tmod_bd (mCarr e) (endOk_pick h)
  repeat' ((conv => whnf); first | refine toOb2 ?_ | refine And.intro (fun _ => ?_) (fun _ => ?_) | refine And.intro ?_ ?_ | refine toEx2 ?_ | refine toY ?_ | intro _)
  all_goals first | refine Ob2.mk ?_ | (show drawOk _ _ _ = true; exact rfl)
  all_goals (try simp only [allP, side, Ctr.reads, dTag_eta, dRoad_eta, dLetter_eta, dAddr_eta, dSub_eta, dHalf_eta, dPiece_eta, dPolicy_eta, dBucket_eta, dOut_eta, dPieces_eta, dEnd_eta, dKnown_eta, dWorld_eta]); all_goals repeat' (first | with_reducible exact rfl | exact trivial | with_reducible assumption | refine And.intro ?_ ?_ | exact (rfl : (_ : SV) = _) | exact (rfl : (_ : List SC) = _) | (show drawOk _ _ _ = true; exact rfl) | (show ((0 : Nat) : Int) = 0; exact rfl))
  all_goals (try simp only [Ctr.reads, dTag_eta, dRoad_eta, dLetter_eta, dAddr_eta, dSub_eta, dHalf_eta, dPiece_eta, dPolicy_eta, dBucket_eta, dOut_eta, dPieces_eta, dEnd_eta, dKnown_eta, dWorld_eta] at *)
  all_goals first | done | with_reducible assumption | with_reducible rfl | grind [mNextSub]
end Go.Proofs.YtjlbibidgdnjdaaGreat
