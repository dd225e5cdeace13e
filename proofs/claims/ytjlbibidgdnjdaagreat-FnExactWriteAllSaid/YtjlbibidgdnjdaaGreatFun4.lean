/- Contracts of functions of the program, each shown over the text. -/
import Derived.Test.YtjlbibidgdnjdaaGreatFun3
set_option linter.unusedVariables false
set_option linter.unusedSimpArgs false
set_option maxRecDepth 100000
namespace Go.Proofs.YtjlbibidgdnjdaaGreat
open Go.Eng
set_option maxHeartbeats 1000000 in
theorem h_spec_NextSub : Ctr.holds E 173 (.reads [aEnd] [aInt] (fun ((e : DEnd), _) => e.B) fun ((e : DEnd), _) => (mNextSub e, ())) := by
  refine fn_ok (Γ := [(100, .reads [aEnd] [aBool] (fun ((e : DEnd), _) => e.B) fun ((e : DEnd), _) => (mEndOk e, ())), (169, .reads [aEnd] [aRow .int] (fun ((e : DEnd), _) => e.B) fun ((e : DEnd), _) => (mOnOf e, ()))]) prgOk (gcons h_spec_EndOk (gcons h_spec_OnOf gnil)) Tryz.func173 rfl rfl rfl rfl ?_
  rintro ty ⟨(e : DEnd), _⟩ (hp : e.B)
  obtain ⟨hb1, hb2, hb3, hb4, hb5, hb6, hb7⟩ := hp
  refine ⟨[(6, { X := Nat × List Int, inv := fun x => x.1 ≤ (mOnOf e).length ∧ x.2 ++ colL (fCarr e) ((mOnOf e).drop x.1) x.1 = mCarr0 e ∧ x.2.length ≤ x.1, mu := fun x => (mOnOf e).length - x.1, vk := [5, 4, 11], ov := fun x => [.a (.c (.leaf (.int (x.1 : Int)))), .a (.c (.row 704)), .any], bk := [], ob := fun x => [], rk := [704], orr := fun x => [⟨.int, x.2, true, none⟩] })], ?_⟩
  have hlen : (mOnOf e).length ≤ 1073741824 := Nat.le_trans (colL_le _ _ _) hb3
  have hpk := fun (h : mEndOk e = true) => tmod_bd (mOnOf e) (endOk_pick h)
  have hpk2 := fun (h : mEndOk e = true) => tmod_bd (mCarr0 e) (endOk_pick h)
  repeat' ((conv => whnf); first | refine toOb2 ?_ | refine toY ?_ | refine And.intro (fun _ => ?_) (fun _ => ?_) | refine And.intro (toOb2 ?_) ?_ | refine And.intro (?_ : drawOk _ _ _ = true) ?_ | (refine And.intro ⟨?_, ?_⟩ ?_; fail) | intro _)
  (all_goals first | (refine Ob2.mk ?_; (try simp only [allP, side, Ctr.reads, dTag_eta, dRoad_eta, dLetter_eta, dAddr_eta, dSub_eta, dHalf_eta, dPiece_eta, dPolicy_eta, dBucket_eta, dOut_eta, dPieces_eta, dEnd_eta, dKnown_eta, dWorld_eta] at *); (try simp only [Bool.cond_true_left, Bool.cond_false_right, Bool.or_eq_false_iff, Bool.or_eq_true, Bool.and_eq_true, Bool.and_eq_false_imp, Bool.not_eq_true', Bool.not_eq_false', Bool.not_eq_eq_eq_not, Bool.not_true, Bool.not_false, imp_self, implies_true, and_self, and_true, true_and] at *); first | done | trivial | assumption | omega | grind [mNextSub]) | (show drawOk _ _ _ = true; exact rfl) | skip)
  conv => whnf
  refine And.intro ⟨((0, []) : Nat × List Int), Ob.mk ?_, ?_⟩ (fun (x : Nat × List Int) hi => ?_)
  · exact And.intro (Nat.zero_le _) (And.intro (rfl) (Nat.le_refl _))
  · conv => whnf
    refine Ob.mk ?_
    all_goals (try simp only [allP, side, Ctr.reads, dTag_eta, dRoad_eta, dLetter_eta, dAddr_eta, dSub_eta, dHalf_eta, dPiece_eta, dPolicy_eta, dBucket_eta, dOut_eta, dPieces_eta, dEnd_eta, dKnown_eta, dWorld_eta]); all_goals repeat' (first | with_reducible exact rfl | exact trivial | with_reducible assumption | refine And.intro ?_ ?_ | exact (rfl : (_ : SV) = _) | exact (rfl : (_ : List SC) = _) | (show drawOk _ _ _ = true; exact rfl) | (show ((0 : Nat) : Int) = 0; exact rfl))
  obtain ⟨i, acc⟩ := x
  obtain ⟨hi, hm⟩ := hi
  have hi : i ≤ (mOnOf e).length := hi
  have hm : acc ++ colL (fCarr e) ((mOnOf e).drop i) i = mCarr0 e ∧ acc.length ≤ i := hm
  rcases Nat.lt_or_ge i (mOnOf e).length with hlt | hge
  · obtain ⟨x, hx, hxi, hd⟩ := at_step (mOnOf e) i (ETy.zero .int) hlt
    rw [hd, colL] at hm
    have hw := w64_succ hlt (hlen)
    have hmem := mOnOf_mem e x (List.mem_of_getElem? hxi)
    clear hpk hpk2
    repeat' ((conv => whnf); first | refine toOb2 ?_ | refine And.intro (fun _ => ?_) (fun _ => ?_) | refine And.intro ?_ ?_ | refine toEx2 ?_ | refine toY ?_ | intro _)
    all_goals try (exfalso; exact Nat.lt_irrefl _ (Nat.lt_of_lt_of_le hlt (ge_of_dec (by assumption))))
    all_goals first | refine Ob2.mk ?_ | refine Ex2.of ((i + 1, if (gSub e x).spare = false then acc ++ [x] else acc)) ?_ ?_ | skip
    all_goals try ((conv => whnf); refine Ob.mk ?_)
    all_goals (try simp only [allP, side, Ctr.reads, dTag_eta, dRoad_eta, dLetter_eta, dAddr_eta, dSub_eta, dHalf_eta, dPiece_eta, dPolicy_eta, dBucket_eta, dOut_eta, dPieces_eta, dEnd_eta, dKnown_eta, dWorld_eta]); all_goals repeat' (first | with_reducible exact rfl | exact trivial | with_reducible assumption | refine And.intro ?_ ?_ | exact (rfl : (_ : SV) = _) | exact (rfl : (_ : List SC) = _) | (show drawOk _ _ _ = true; exact rfl) | (show ((0 : Nat) : Int) = 0; exact rfl))
    all_goals (try simp only [hx, Ctr.reads, dTag_eta, dRoad_eta, dLetter_eta, dAddr_eta, dSub_eta, dHalf_eta, dPiece_eta, dPolicy_eta, dBucket_eta, dOut_eta, dPieces_eta, dEnd_eta, dKnown_eta, dWorld_eta] at *)
    all_goals (try simp only [gSub] at *)
    all_goals first | done | grind [fCarr, gSub, mCarr, mNextSub]
  · have hl : i = (mOnOf e).length := by omega
    subst hl
    rw [List.drop_length, colL] at hm
    repeat' ((conv => whnf); first | refine toOb2 ?_ | refine And.intro (fun _ => ?_) (fun _ => ?_) | refine And.intro ?_ ?_ | refine toEx2 ?_ | refine toY ?_ | intro _)
    all_goals try (exfalso; exact Nat.lt_irrefl _ (Nat.lt_of_lt_of_le (lt_of_dec (by assumption)) hge))
    all_goals first | refine Ob2.mk ?_ | refine Ex2.of (((mOnOf e).length, acc)) ?_ ?_ | skip
    all_goals try ((conv => whnf); refine Ob.mk ?_)
    all_goals (try simp only [allP, side, Ctr.reads, dTag_eta, dRoad_eta, dLetter_eta, dAddr_eta, dSub_eta, dHalf_eta, dPiece_eta, dPolicy_eta, dBucket_eta, dOut_eta, dPieces_eta, dEnd_eta, dKnown_eta, dWorld_eta]); all_goals repeat' (first | with_reducible exact rfl | exact trivial | with_reducible assumption | refine And.intro ?_ ?_ | exact (rfl : (_ : SV) = _) | exact (rfl : (_ : List SC) = _) | (show drawOk _ _ _ = true; exact rfl) | (show ((0 : Nat) : Int) = 0; exact rfl))
    all_goals (try simp only [Ctr.reads, dTag_eta, dRoad_eta, dLetter_eta, dAddr_eta, dSub_eta, dHalf_eta, dPiece_eta, dPolicy_eta, dBucket_eta, dOut_eta, dPieces_eta, dEnd_eta, dKnown_eta, dWorld_eta] at *)
    all_goals (try simp only [List.append_nil] at *)
    all_goals (try (obtain ⟨hm, hm9⟩ := hm; subst hm))
    all_goals first | done | grind [fCarr, gSub, mCarr, mNextSub]
set_option maxHeartbeats 1000000 in
theorem h_impl_carriers : Ctr.holds E 269 (.reads [aEnd] [aRow .int] (fun ((e : DEnd), _) => e.B) fun ((e : DEnd), _) => (mCarr e, ())) := by
  refine fn_ok (Γ := [(172, .reads [aEnd] [aRow .int] (fun ((e : DEnd), _) => e.B) fun ((e : DEnd), _) => (mOnOf e, ()))]) prgOk (gcons h_impl_OnOf gnil) Tryz.func269 rfl rfl rfl rfl ?_
  rintro ty ⟨(e : DEnd), _⟩ (hp : e.B)
  obtain ⟨hb1, hb2, hb3, hb4, hb5, hb6, hb7⟩ := hp
  refine ⟨[(4, { X := Nat × List Int, inv := fun x => x.1 ≤ (mOnOf e).length ∧ x.2 ++ colL (fCarr e) ((mOnOf e).drop x.1) x.1 = mCarr0 e ∧ x.2.length ≤ x.1, mu := fun x => (mOnOf e).length - x.1, vk := [11, 3], ov := fun x => [.a (.c (.leaf (.int (x.1 : Int)))), .a (.c (.row 192))], bk := [], ob := fun x => [], rk := [192], orr := fun x => [⟨.int, x.2, true, none⟩] })], ?_⟩
  have hlen : (mOnOf e).length ≤ 1073741824 := Nat.le_trans (colL_le _ _ _) hb3
  repeat' ((conv => whnf); first | refine toOb2 ?_ | refine toY ?_ | refine And.intro (fun _ => ?_) (fun _ => ?_) | refine And.intro (toOb2 ?_) ?_ | refine And.intro (?_ : drawOk _ _ _ = true) ?_ | (refine And.intro ⟨?_, ?_⟩ ?_; fail) | intro _)
  (all_goals first | (refine Ob2.mk ?_; (try simp only [allP, side, Ctr.reads, dTag_eta, dRoad_eta, dLetter_eta, dAddr_eta, dSub_eta, dHalf_eta, dPiece_eta, dPolicy_eta, dBucket_eta, dOut_eta, dPieces_eta, dEnd_eta, dKnown_eta, dWorld_eta] at *); (try simp only [Bool.cond_true_left, Bool.cond_false_right, Bool.or_eq_false_iff, Bool.or_eq_true, Bool.and_eq_true, Bool.and_eq_false_imp, Bool.not_eq_true', Bool.not_eq_false', Bool.not_eq_eq_eq_not, Bool.not_true, Bool.not_false, imp_self, implies_true, and_self, and_true, true_and] at *); first | done | trivial | assumption | omega | grind []) | (show drawOk _ _ _ = true; exact rfl) | skip)
  conv => whnf
  refine And.intro ⟨((0, []) : Nat × List Int), Ob.mk ?_, ?_⟩ (fun (x : Nat × List Int) hi => ?_)
  · exact And.intro (Nat.zero_le _) (And.intro (rfl) (Nat.le_refl _))
  · conv => whnf
    refine Ob.mk ?_
    all_goals (try simp only [allP, side, Ctr.reads, dTag_eta, dRoad_eta, dLetter_eta, dAddr_eta, dSub_eta, dHalf_eta, dPiece_eta, dPolicy_eta, dBucket_eta, dOut_eta, dPieces_eta, dEnd_eta, dKnown_eta, dWorld_eta]); all_goals repeat' (first | with_reducible exact rfl | exact trivial | with_reducible assumption | refine And.intro ?_ ?_ | exact (rfl : (_ : SV) = _) | exact (rfl : (_ : List SC) = _) | (show drawOk _ _ _ = true; exact rfl) | (show ((0 : Nat) : Int) = 0; exact rfl))
  obtain ⟨i, acc⟩ := x
  obtain ⟨hi, hm⟩ := hi
  have hi : i ≤ (mOnOf e).length := hi
  have hm : acc ++ colL (fCarr e) ((mOnOf e).drop i) i = mCarr0 e ∧ acc.length ≤ i := hm
  rcases Nat.lt_or_ge i (mOnOf e).length with hlt | hge
  · obtain ⟨x, hx, hxi, hd⟩ := at_step (mOnOf e) i (ETy.zero .int) hlt
    rw [hd, colL] at hm
    have hw := w64_succ hlt (hlen)
    have hmem := mOnOf_mem e x (List.mem_of_getElem? hxi)
    repeat' ((conv => whnf); first | refine toOb2 ?_ | refine And.intro (fun _ => ?_) (fun _ => ?_) | refine And.intro ?_ ?_ | refine toEx2 ?_ | refine toY ?_ | intro _)
    all_goals try (exfalso; exact Nat.lt_irrefl _ (Nat.lt_of_lt_of_le hlt (ge_of_dec (by assumption))))
    all_goals first | refine Ob2.mk ?_ | refine Ex2.of ((i + 1, if (gSub e x).spare = false then acc ++ [x] else acc)) ?_ ?_ | skip
    all_goals try ((conv => whnf); refine Ob.mk ?_)
    all_goals (try simp only [allP, side, Ctr.reads, dTag_eta, dRoad_eta, dLetter_eta, dAddr_eta, dSub_eta, dHalf_eta, dPiece_eta, dPolicy_eta, dBucket_eta, dOut_eta, dPieces_eta, dEnd_eta, dKnown_eta, dWorld_eta]); all_goals repeat' (first | with_reducible exact rfl | exact trivial | with_reducible assumption | refine And.intro ?_ ?_ | exact (rfl : (_ : SV) = _) | exact (rfl : (_ : List SC) = _) | (show drawOk _ _ _ = true; exact rfl) | (show ((0 : Nat) : Int) = 0; exact rfl))
    all_goals (try simp only [hx, Ctr.reads, dTag_eta, dRoad_eta, dLetter_eta, dAddr_eta, dSub_eta, dHalf_eta, dPiece_eta, dPolicy_eta, dBucket_eta, dOut_eta, dPieces_eta, dEnd_eta, dKnown_eta, dWorld_eta] at *)
    all_goals (try simp only [gSub] at *)
    all_goals first | done | grind [fCarr, gSub, mCarr]
  · have hl : i = (mOnOf e).length := by omega
    subst hl
    rw [List.drop_length, colL] at hm
    repeat' ((conv => whnf); first | refine toOb2 ?_ | refine And.intro (fun _ => ?_) (fun _ => ?_) | refine And.intro ?_ ?_ | refine toEx2 ?_ | refine toY ?_ | intro _)
    all_goals try (exfalso; exact Nat.lt_irrefl _ (Nat.lt_of_lt_of_le (lt_of_dec (by assumption)) hge))
    all_goals first | refine Ob2.mk ?_ | refine Ex2.of (((mOnOf e).length, acc)) ?_ ?_ | skip
    all_goals try ((conv => whnf); refine Ob.mk ?_)
    all_goals (try simp only [allP, side, Ctr.reads, dTag_eta, dRoad_eta, dLetter_eta, dAddr_eta, dSub_eta, dHalf_eta, dPiece_eta, dPolicy_eta, dBucket_eta, dOut_eta, dPieces_eta, dEnd_eta, dKnown_eta, dWorld_eta]); all_goals repeat' (first | with_reducible exact rfl | exact trivial | with_reducible assumption | refine And.intro ?_ ?_ | exact (rfl : (_ : SV) = _) | exact (rfl : (_ : List SC) = _) | (show drawOk _ _ _ = true; exact rfl) | (show ((0 : Nat) : Int) = 0; exact rfl))
    all_goals (try simp only [Ctr.reads, dTag_eta, dRoad_eta, dLetter_eta, dAddr_eta, dSub_eta, dHalf_eta, dPiece_eta, dPolicy_eta, dBucket_eta, dOut_eta, dPieces_eta, dEnd_eta, dKnown_eta, dWorld_eta] at *)
    all_goals (try simp only [List.append_nil] at *)
    all_goals first | done | grind [fCarr, gSub, mCarr]
set_option maxHeartbeats 1000000 in
theorem h_impl_NextSub : Ctr.holds E 177 (.reads [aEnd] [aInt] (fun ((e : DEnd), _) => e.B) fun ((e : DEnd), _) => (mNextSub e, ())) := by
  refine fn_ok (Γ := [(269, .reads [aEnd] [aRow .int] (fun ((e : DEnd), _) => e.B) fun ((e : DEnd), _) => (mCarr e, ())), (112, .reads [aEnd] [aBool] (fun ((e : DEnd), _) => e.B) fun ((e : DEnd), _) => (mEndOk e, ()))]) prgOk (gcons h_impl_carriers (gcons h_impl_EndOk gnil)) Tryz.func177 rfl rfl rfl rfl ?_
  rintro ty ⟨(e : DEnd), _⟩ (hp : e.B)
  have hB := hp
  obtain ⟨hb1, hb2, hb3, hb4, hb5, hb6, hb7⟩ := hp
  refine ⟨[], ?_⟩
  have hpk := fun h : mEndOk e = true => tmod_bd (mCarr e) (endOk_pick h)
  repeat' ((conv => whnf); first | refine toOb2 ?_ | refine And.intro (fun _ => ?_) (fun _ => ?_) | refine And.intro ?_ ?_ | refine toEx2 ?_ | refine toY ?_ | intro _)
  all_goals first | refine Ob2.mk ?_ | (show drawOk _ _ _ = true; exact rfl)
  all_goals (try simp only [allP, side, Ctr.reads, dTag_eta, dRoad_eta, dLetter_eta, dAddr_eta, dSub_eta, dHalf_eta, dPiece_eta, dPolicy_eta, dBucket_eta, dOut_eta, dPieces_eta, dEnd_eta, dKnown_eta, dWorld_eta]); all_goals repeat' (first | with_reducible exact rfl | exact trivial | with_reducible assumption | refine And.intro ?_ ?_ | exact (rfl : (_ : SV) = _) | exact (rfl : (_ : List SC) = _) | (show drawOk _ _ _ = true; exact rfl) | (show ((0 : Nat) : Int) = 0; exact rfl))
  all_goals (try simp only [Ctr.reads, dTag_eta, dRoad_eta, dLetter_eta, dAddr_eta, dSub_eta, dHalf_eta, dPiece_eta, dPolicy_eta, dBucket_eta, dOut_eta, dPieces_eta, dEnd_eta, dKnown_eta, dWorld_eta] at *)
  all_goals first | done | with_reducible assumption | with_reducible rfl | grind [mNextSub]
set_option maxHeartbeats 1000000 in
theorem h_spec_TagAddr : Ctr.holds E 188 (.reads [aInt, aInt, aInt, aInt] [aTag] (fun ((m : Int), (t : Int), (i : Int), (a : Int), _) => True) fun ((m : Int), (t : Int), (i : Int), (a : Int), _) => (mTagAddr m t i a, ())) := by
  refine fn_ok (Γ := []) prgOk gnil Tryz.func188 rfl rfl rfl rfl ?_
  rintro ty ⟨(m : Int), (t : Int), (i : Int), (a : Int), _⟩ hp
  refine ⟨[], ?_⟩
  repeat' ((conv => whnf); first | refine toOb2 ?_ | refine And.intro (fun _ => ?_) (fun _ => ?_) | refine And.intro ?_ ?_ | refine toEx2 ?_ | intro _)
  all_goals first | refine Ob2.mk ?_ | (show drawOk _ _ _ = true; exact rfl)
  all_goals (try simp only [allP, side, Ctr.reads, dTag_eta, dRoad_eta, dLetter_eta, dAddr_eta, dSub_eta, dHalf_eta, dPiece_eta, dPolicy_eta, dBucket_eta, dOut_eta, dPieces_eta, dEnd_eta, dKnown_eta, dWorld_eta]); all_goals repeat' (first | with_reducible exact rfl | exact trivial | with_reducible assumption | refine And.intro ?_ ?_ | exact (rfl : (_ : SV) = _) | exact (rfl : (_ : List SC) = _) | (show drawOk _ _ _ = true; exact rfl) | (show ((0 : Nat) : Int) = 0; exact rfl))
  all_goals (try simp only [Ctr.reads, dTag_eta, dRoad_eta, dLetter_eta, dAddr_eta, dSub_eta, dHalf_eta, dPiece_eta, dPolicy_eta, dBucket_eta, dOut_eta, dPieces_eta, dEnd_eta, dKnown_eta, dWorld_eta] at *)
  all_goals first | done | with_reducible assumption | with_reducible rfl | grind [mTagAddr]
set_option maxHeartbeats 1000000 in
theorem h_spec_l15Has : Ctr.holds E 189 (.reads [aRow .int, aInt] [aBool] (fun ((l : List Int), _) => l.length ≤ 1073741824) fun ((l : List Int), (n : Int), _) => (mHas l n, ())) := by
  refine fn_ok (Γ := []) prgOk gnil Tryz.func189 rfl rfl rfl rfl ?_
  rintro ty ⟨(l : List Int), (n : Int), _⟩ (hp : l.length ≤ 1073741824)
  refine ⟨[(2, { X := Nat, inv := fun i => i ≤ l.length ∧ anyL (fun x : Int => x == n) (l.drop i) = mHas l n, mu := fun i => l.length - i, vk := [5], ov := fun i => [.a (.c (.leaf (.int (i : Int))))], bk := [], ob := fun i => [], rk := [], orr := fun i => [] })], ?_⟩
  conv => whnf
  refine And.intro ⟨(0 : Nat), Ob.mk ?_, ?_⟩ (fun (i : Nat) hi => ?_)
  · exact And.intro (Nat.zero_le _) rfl
  · conv => whnf
    refine Ob.mk ?_
    all_goals (try simp only [allP, side, Ctr.reads, dTag_eta, dRoad_eta, dLetter_eta, dAddr_eta, dSub_eta, dHalf_eta, dPiece_eta, dPolicy_eta, dBucket_eta, dOut_eta, dPieces_eta, dEnd_eta, dKnown_eta, dWorld_eta]); all_goals repeat' (first | with_reducible exact rfl | exact trivial | with_reducible assumption | refine And.intro ?_ ?_ | exact (rfl : (_ : SV) = _) | exact (rfl : (_ : List SC) = _) | (show drawOk _ _ _ = true; exact rfl) | (show ((0 : Nat) : Int) = 0; exact rfl))
  obtain ⟨hi, hm⟩ := hi
  have hi : i ≤ l.length := hi
  have hm : anyL (fun x : Int => x == n) (l.drop i) = mHas l n := hm
  rcases Nat.lt_or_ge i l.length with hlt | hge
  · obtain ⟨x, hx, hxi, hd⟩ := at_step l i (ETy.zero .int) hlt
    rw [hd, anyL] at hm
    have hw := w64_succ hlt (hp)
    repeat' ((conv => whnf); first | refine toOb2 ?_ | refine And.intro (fun _ => ?_) (fun _ => ?_) | refine And.intro ?_ ?_ | refine toEx2 ?_ | intro _)
    all_goals try (exfalso; exact Nat.lt_irrefl _ (Nat.lt_of_lt_of_le hlt (ge_of_dec (by assumption))))
    all_goals first | refine Ob2.mk ?_ | refine Ex2.of (i + 1) ?_ ?_ | skip
    all_goals try ((conv => whnf); refine Ob.mk ?_)
    all_goals (try simp only [allP, side, Ctr.reads, dTag_eta, dRoad_eta, dLetter_eta, dAddr_eta, dSub_eta, dHalf_eta, dPiece_eta, dPolicy_eta, dBucket_eta, dOut_eta, dPieces_eta, dEnd_eta, dKnown_eta, dWorld_eta]); all_goals repeat' (first | with_reducible exact rfl | exact trivial | with_reducible assumption | refine And.intro ?_ ?_ | exact (rfl : (_ : SV) = _) | exact (rfl : (_ : List SC) = _) | (show drawOk _ _ _ = true; exact rfl) | (show ((0 : Nat) : Int) = 0; exact rfl))
    all_goals (try simp only [hx, Ctr.reads, dTag_eta, dRoad_eta, dLetter_eta, dAddr_eta, dSub_eta, dHalf_eta, dPiece_eta, dPolicy_eta, dBucket_eta, dOut_eta, dPieces_eta, dEnd_eta, dKnown_eta, dWorld_eta] at *)
    all_goals first | done | grind [mHas]
  · have hl : i = l.length := by omega
    subst hl
    rw [List.drop_length, anyL] at hm
    repeat' ((conv => whnf); first | refine toOb2 ?_ | refine And.intro (fun _ => ?_) (fun _ => ?_) | refine And.intro ?_ ?_ | refine toEx2 ?_ | intro _)
    all_goals try (exfalso; exact Nat.lt_irrefl _ (Nat.lt_of_lt_of_le (lt_of_dec (by assumption)) hge))
    all_goals first | refine Ob2.mk ?_ | refine Ex2.of (l.length + 1) ?_ ?_ | skip
    all_goals try ((conv => whnf); refine Ob.mk ?_)
    all_goals (try simp only [allP, side, Ctr.reads, dTag_eta, dRoad_eta, dLetter_eta, dAddr_eta, dSub_eta, dHalf_eta, dPiece_eta, dPolicy_eta, dBucket_eta, dOut_eta, dPieces_eta, dEnd_eta, dKnown_eta, dWorld_eta]); all_goals repeat' (first | with_reducible exact rfl | exact trivial | with_reducible assumption | refine And.intro ?_ ?_ | exact (rfl : (_ : SV) = _) | exact (rfl : (_ : List SC) = _) | (show drawOk _ _ _ = true; exact rfl) | (show ((0 : Nat) : Int) = 0; exact rfl))
    all_goals (try simp only [Ctr.reads, dTag_eta, dRoad_eta, dLetter_eta, dAddr_eta, dSub_eta, dHalf_eta, dPiece_eta, dPolicy_eta, dBucket_eta, dOut_eta, dPieces_eta, dEnd_eta, dKnown_eta, dWorld_eta] at *)
    all_goals first | done | grind [mHas]
set_option maxHeartbeats 1000000 in
theorem h_spec_PutAddr : Ctr.holds E 190 (.reads [aRow .addr, aAddr] [aRow .addr, aBool] (fun ((l : List DAddr), _) => l.length ≤ 1073741823) fun ((l : List DAddr), (a : DAddr), _) => ((mPutAddr l a).1, (mPutAddr l a).2, ())) := by
  refine fn_ok (Γ := [(151, .reads [aRow .addr, aInt] [aInt] (fun ((l : List DAddr), _) => l.length ≤ 1073741824) fun ((l : List DAddr), (n : Int), _) => (mAddrAt l n, ())), (236, .reads [aRow .addr] [aBool] (fun ((l : List DAddr), _) => l.length ≤ 1073741824) fun ((l : List DAddr), _) => (mAddrsOk l, ()))]) prgOk (gcons h_spec_AddrAt (gcons h_spec_AddrsOk gnil)) Tryz.func190 rfl rfl rfl rfl ?_
  rintro ty ⟨(l : List DAddr), (a : DAddr), _⟩ (hp : l.length ≤ 1073741823)
  have hpb := mAddrAt_bd l a.id
  have hpl := mPutL_len l a
  have hbig := @mPutAddr_big l a
  refine ⟨[(9, { X := Nat, inv := fun i => i ≤ l.length ∧ plL a.id (l.drop i) i = plL a.id l 0, mu := fun i => l.length - i, vk := [8], ov := fun i => [.a (.c (.leaf (.int (i : Int))))], bk := [], ob := fun i => [], rk := [], orr := fun i => [] })], ?_⟩
  repeat' ((conv => whnf); first | refine toOb2 ?_ | refine toY ?_ | refine And.intro (fun _ => ?_) (fun _ => ?_) | refine And.intro (toOb2 ?_) ?_ | refine And.intro (?_ : drawOk _ _ _ = true) ?_ | (refine And.intro ⟨?_, ?_⟩ ?_; fail) | intro _)
  (all_goals first | (refine Ob2.mk ?_; (try simp only [allP, side, Ctr.reads, dTag_eta, dRoad_eta, dLetter_eta, dAddr_eta, dSub_eta, dHalf_eta, dPiece_eta, dPolicy_eta, dBucket_eta, dOut_eta, dPieces_eta, dEnd_eta, dKnown_eta, dWorld_eta, List.length_set, List.nil_append] at *); (try simp only [Bool.cond_true_left, Bool.cond_false_right, Bool.or_eq_false_iff, Bool.or_eq_true, Bool.and_eq_true, Bool.and_eq_false_imp, Bool.not_eq_true', Bool.not_eq_false', Bool.not_eq_eq_eq_not, Bool.not_true, Bool.not_false, imp_self, implies_true, and_self, and_true, true_and] at *); (try subst_vars); first | done | trivial | assumption | omega | grind [mPutAddr, mPutL]) | (show drawOk _ _ _ = true; exact rfl) | skip)
  conv => whnf
  refine And.intro ⟨(0 : Nat), Ob.mk ?_, ?_⟩ (fun (i : Nat) hi => ?_)
  · exact And.intro (Nat.zero_le _) rfl
  · conv => whnf
    refine Ob.mk ?_
    all_goals (try simp only [allP, side, Ctr.reads, dTag_eta, dRoad_eta, dLetter_eta, dAddr_eta, dSub_eta, dHalf_eta, dPiece_eta, dPolicy_eta, dBucket_eta, dOut_eta, dPieces_eta, dEnd_eta, dKnown_eta, dWorld_eta]); all_goals repeat' (first | with_reducible exact rfl | exact trivial | with_reducible assumption | refine And.intro ?_ ?_ | exact (rfl : (_ : SV) = _) | exact (rfl : (_ : List SC) = _) | (show drawOk _ _ _ = true; exact rfl) | (show ((0 : Nat) : Int) = 0; exact rfl))
  obtain ⟨hi, hm⟩ := hi
  have hi : i ≤ l.length := hi
  have hm : plL a.id (l.drop i) i = plL a.id l 0 := hm
  rcases Nat.lt_or_ge i l.length with hlt | hge
  · obtain ⟨x, hx, hxi, hd⟩ := at_step l i (ETy.zero .addr) hlt
    rw [hd, plL] at hm
    have hw := w64_succ hlt ((by omega))
    repeat' ((conv => whnf); first | refine toOb2 ?_ | refine And.intro (fun _ => ?_) (fun _ => ?_) | refine And.intro ?_ ?_ | refine toEx2 ?_ | refine toY ?_ | intro _)
    all_goals try (exfalso; exact Nat.lt_irrefl _ (Nat.lt_of_lt_of_le hlt (ge_of_dec (by assumption))))
    all_goals first | refine Ob2.mk ?_ | refine Ex2.of (i + 1) ?_ ?_ | skip
    all_goals try ((conv => whnf); refine Ob.mk ?_)
    all_goals (try simp only [allP, side, Ctr.reads, dTag_eta, dRoad_eta, dLetter_eta, dAddr_eta, dSub_eta, dHalf_eta, dPiece_eta, dPolicy_eta, dBucket_eta, dOut_eta, dPieces_eta, dEnd_eta, dKnown_eta, dWorld_eta]); all_goals repeat' (first | with_reducible exact rfl | exact trivial | with_reducible assumption | refine And.intro ?_ ?_ | exact (rfl : (_ : SV) = _) | exact (rfl : (_ : List SC) = _) | (show drawOk _ _ _ = true; exact rfl) | (show ((0 : Nat) : Int) = 0; exact rfl))
    all_goals (try simp only [hx, List.nil_append, List.append_assoc, List.length_append, List.length_take, List.length_drop, List.length_cons, List.length_nil, Ctr.reads, dTag_eta, dRoad_eta, dLetter_eta, dAddr_eta, dSub_eta, dHalf_eta, dPiece_eta, dPolicy_eta, dBucket_eta, dOut_eta, dPieces_eta, dEnd_eta, dKnown_eta, dWorld_eta] at *)
    all_goals first | done | grind [mPutAddr, mPutL]
  · have hl : i = l.length := by omega
    subst hl
    rw [List.drop_length, plL] at hm
    repeat' ((conv => whnf); first | refine toOb2 ?_ | refine And.intro (fun _ => ?_) (fun _ => ?_) | refine And.intro ?_ ?_ | refine toEx2 ?_ | refine toY ?_ | intro _)
    all_goals try (exfalso; exact Nat.lt_irrefl _ (Nat.lt_of_lt_of_le (lt_of_dec (by assumption)) hge))
    all_goals first | refine Ob2.mk ?_ | refine Ex2.of (l.length + 1) ?_ ?_ | skip
    all_goals try ((conv => whnf); refine Ob.mk ?_)
    all_goals (try simp only [allP, side, Ctr.reads, dTag_eta, dRoad_eta, dLetter_eta, dAddr_eta, dSub_eta, dHalf_eta, dPiece_eta, dPolicy_eta, dBucket_eta, dOut_eta, dPieces_eta, dEnd_eta, dKnown_eta, dWorld_eta]); all_goals repeat' (first | with_reducible exact rfl | exact trivial | with_reducible assumption | refine And.intro ?_ ?_ | exact (rfl : (_ : SV) = _) | exact (rfl : (_ : List SC) = _) | (show drawOk _ _ _ = true; exact rfl) | (show ((0 : Nat) : Int) = 0; exact rfl))
    all_goals (try simp only [List.nil_append, List.append_assoc, List.length_append, List.length_take, List.length_drop, List.length_cons, List.length_nil, Ctr.reads, dTag_eta, dRoad_eta, dLetter_eta, dAddr_eta, dSub_eta, dHalf_eta, dPiece_eta, dPolicy_eta, dBucket_eta, dOut_eta, dPieces_eta, dEnd_eta, dKnown_eta, dWorld_eta] at *)
    all_goals first | done | grind [mPutAddr, mPutL]
set_option maxHeartbeats 1000000 in
theorem h_impl_TagAddr : Ctr.holds E 191 (.reads [aInt, aInt, aInt, aInt] [aTag] (fun ((m : Int), (t : Int), (i : Int), (a : Int), _) => True) fun ((m : Int), (t : Int), (i : Int), (a : Int), _) => (mTagAddr m t i a, ())) := by
  refine fn_ok (Γ := []) prgOk gnil Tryz.func191 rfl rfl rfl rfl ?_
  rintro ty ⟨(m : Int), (t : Int), (i : Int), (a : Int), _⟩ hp
  refine ⟨[], ?_⟩
  repeat' ((conv => whnf); first | refine toOb2 ?_ | refine And.intro (fun _ => ?_) (fun _ => ?_) | refine And.intro ?_ ?_ | refine toEx2 ?_ | intro _)
  all_goals first | refine Ob2.mk ?_ | (show drawOk _ _ _ = true; exact rfl)
  all_goals (try simp only [allP, side, Ctr.reads, dTag_eta, dRoad_eta, dLetter_eta, dAddr_eta, dSub_eta, dHalf_eta, dPiece_eta, dPolicy_eta, dBucket_eta, dOut_eta, dPieces_eta, dEnd_eta, dKnown_eta, dWorld_eta]); all_goals repeat' (first | with_reducible exact rfl | exact trivial | with_reducible assumption | refine And.intro ?_ ?_ | exact (rfl : (_ : SV) = _) | exact (rfl : (_ : List SC) = _) | (show drawOk _ _ _ = true; exact rfl) | (show ((0 : Nat) : Int) = 0; exact rfl))
  all_goals (try simp only [Ctr.reads, dTag_eta, dRoad_eta, dLetter_eta, dAddr_eta, dSub_eta, dHalf_eta, dPiece_eta, dPolicy_eta, dBucket_eta, dOut_eta, dPieces_eta, dEnd_eta, dKnown_eta, dWorld_eta] at *)
  all_goals first | done | with_reducible assumption | with_reducible rfl | grind [mTagAddr]
set_option maxHeartbeats 1000000 in
theorem h_impl_hasInt : Ctr.holds E 192 (.reads [aRow .int, aInt] [aBool] (fun ((l : List Int), _) => l.length ≤ 1073741824) fun ((l : List Int), (n : Int), _) => (mHas l n, ())) := by
  refine fn_ok (Γ := []) prgOk gnil Tryz.func192 rfl rfl rfl rfl ?_
  rintro ty ⟨(l : List Int), (n : Int), _⟩ (hp : l.length ≤ 1073741824)
  refine ⟨[(2, { X := Nat, inv := fun i => i ≤ l.length ∧ anyL (fun x : Int => x == n) (l.drop i) = mHas l n, mu := fun i => l.length - i, vk := [9], ov := fun i => [.a (.c (.leaf (.int (i : Int))))], bk := [], ob := fun i => [], rk := [], orr := fun i => [] })], ?_⟩
  conv => whnf
  refine And.intro ⟨(0 : Nat), Ob.mk ?_, ?_⟩ (fun (i : Nat) hi => ?_)
  · exact And.intro (Nat.zero_le _) rfl
  · conv => whnf
    refine Ob.mk ?_
    all_goals (try simp only [allP, side, Ctr.reads, dTag_eta, dRoad_eta, dLetter_eta, dAddr_eta, dSub_eta, dHalf_eta, dPiece_eta, dPolicy_eta, dBucket_eta, dOut_eta, dPieces_eta, dEnd_eta, dKnown_eta, dWorld_eta]); all_goals repeat' (first | with_reducible exact rfl | exact trivial | with_reducible assumption | refine And.intro ?_ ?_ | exact (rfl : (_ : SV) = _) | exact (rfl : (_ : List SC) = _) | (show drawOk _ _ _ = true; exact rfl) | (show ((0 : Nat) : Int) = 0; exact rfl))
  obtain ⟨hi, hm⟩ := hi
  have hi : i ≤ l.length := hi
  have hm : anyL (fun x : Int => x == n) (l.drop i) = mHas l n := hm
  rcases Nat.lt_or_ge i l.length with hlt | hge
  · obtain ⟨x, hx, hxi, hd⟩ := at_step l i (ETy.zero .int) hlt
    rw [hd, anyL] at hm
    have hw := w64_succ hlt (hp)
    repeat' ((conv => whnf); first | refine toOb2 ?_ | refine And.intro (fun _ => ?_) (fun _ => ?_) | refine And.intro ?_ ?_ | refine toEx2 ?_ | intro _)
    all_goals try (exfalso; exact Nat.lt_irrefl _ (Nat.lt_of_lt_of_le hlt (ge_of_dec (by assumption))))
    all_goals first | refine Ob2.mk ?_ | refine Ex2.of (i + 1) ?_ ?_ | skip
    all_goals try ((conv => whnf); refine Ob.mk ?_)
    all_goals (try simp only [allP, side, Ctr.reads, dTag_eta, dRoad_eta, dLetter_eta, dAddr_eta, dSub_eta, dHalf_eta, dPiece_eta, dPolicy_eta, dBucket_eta, dOut_eta, dPieces_eta, dEnd_eta, dKnown_eta, dWorld_eta]); all_goals repeat' (first | with_reducible exact rfl | exact trivial | with_reducible assumption | refine And.intro ?_ ?_ | exact (rfl : (_ : SV) = _) | exact (rfl : (_ : List SC) = _) | (show drawOk _ _ _ = true; exact rfl) | (show ((0 : Nat) : Int) = 0; exact rfl))
    all_goals (try simp only [hx, Ctr.reads, dTag_eta, dRoad_eta, dLetter_eta, dAddr_eta, dSub_eta, dHalf_eta, dPiece_eta, dPolicy_eta, dBucket_eta, dOut_eta, dPieces_eta, dEnd_eta, dKnown_eta, dWorld_eta] at *)
    all_goals first | done | grind [mHas]
  · have hl : i = l.length := by omega
    subst hl
    rw [List.drop_length, anyL] at hm
    repeat' ((conv => whnf); first | refine toOb2 ?_ | refine And.intro (fun _ => ?_) (fun _ => ?_) | refine And.intro ?_ ?_ | refine toEx2 ?_ | intro _)
    all_goals try (exfalso; exact Nat.lt_irrefl _ (Nat.lt_of_lt_of_le (lt_of_dec (by assumption)) hge))
    all_goals first | refine Ob2.mk ?_ | refine Ex2.of (l.length + 1) ?_ ?_ | skip
    all_goals try ((conv => whnf); refine Ob.mk ?_)
    all_goals (try simp only [allP, side, Ctr.reads, dTag_eta, dRoad_eta, dLetter_eta, dAddr_eta, dSub_eta, dHalf_eta, dPiece_eta, dPolicy_eta, dBucket_eta, dOut_eta, dPieces_eta, dEnd_eta, dKnown_eta, dWorld_eta]); all_goals repeat' (first | with_reducible exact rfl | exact trivial | with_reducible assumption | refine And.intro ?_ ?_ | exact (rfl : (_ : SV) = _) | exact (rfl : (_ : List SC) = _) | (show drawOk _ _ _ = true; exact rfl) | (show ((0 : Nat) : Int) = 0; exact rfl))
    all_goals (try simp only [Ctr.reads, dTag_eta, dRoad_eta, dLetter_eta, dAddr_eta, dSub_eta, dHalf_eta, dPiece_eta, dPolicy_eta, dBucket_eta, dOut_eta, dPieces_eta, dEnd_eta, dKnown_eta, dWorld_eta] at *)
    all_goals first | done | grind [mHas]
set_option maxHeartbeats 1000000 in
theorem h_impl_PutAddr : Ctr.holds E 193 (.reads [aRow .addr, aAddr] [aRow .addr, aBool] (fun ((l : List DAddr), _) => l.length ≤ 1073741823) fun ((l : List DAddr), (a : DAddr), _) => ((mPutAddr l a).1, (mPutAddr l a).2, ())) := by
  refine fn_ok (Γ := [(256, .reads [aRow .addr] [aRow .addr] (fun ((a : List DAddr), _) => a.length ≤ 1073741824) fun (a, _) => (a, ())), (152, .reads [aRow .addr, aInt] [aInt] (fun ((l : List DAddr), _) => l.length ≤ 1073741824) fun ((l : List DAddr), (n : Int), _) => (mAddrAt l n, ())), (249, .reads [aRow .addr] [aBool] (fun ((l : List DAddr), _) => l.length ≤ 1073741824) fun ((l : List DAddr), _) => (mAddrsOk l, ()))]) prgOk (gcons h_impl_copyAddrs (gcons h_impl_AddrAt (gcons h_impl_AddrsOk gnil))) Tryz.func193 rfl rfl rfl rfl ?_
  rintro ty ⟨(l : List DAddr), (a : DAddr), _⟩ (hp : l.length ≤ 1073741823)
  have hpb := mAddrAt_bd l a.id
  have hpl := mPutL_len l a
  have hbig := @mPutAddr_big l a
  refine ⟨[(6, { X := Nat, inv := fun i => i ≤ l.length ∧ plL a.id (l.drop i) i = plL a.id l 0, mu := fun i => l.length - i, vk := [7], ov := fun i => [.a (.c (.leaf (.int (i : Int))))], bk := [], ob := fun i => [], rk := [], orr := fun i => [] })], ?_⟩
  repeat' ((conv => whnf); first | refine toOb2 ?_ | refine toY ?_ | refine And.intro (fun _ => ?_) (fun _ => ?_) | refine And.intro (toOb2 ?_) ?_ | refine And.intro (?_ : drawOk _ _ _ = true) ?_ | (refine And.intro ⟨?_, ?_⟩ ?_; fail) | intro _)
  (all_goals first | (refine Ob2.mk ?_; (try simp only [allP, side, Ctr.reads, dTag_eta, dRoad_eta, dLetter_eta, dAddr_eta, dSub_eta, dHalf_eta, dPiece_eta, dPolicy_eta, dBucket_eta, dOut_eta, dPieces_eta, dEnd_eta, dKnown_eta, dWorld_eta, List.length_set, List.nil_append] at *); (try simp only [Bool.cond_true_left, Bool.cond_false_right, Bool.or_eq_false_iff, Bool.or_eq_true, Bool.and_eq_true, Bool.and_eq_false_imp, Bool.not_eq_true', Bool.not_eq_false', Bool.not_eq_eq_eq_not, Bool.not_true, Bool.not_false, imp_self, implies_true, and_self, and_true, true_and] at *); (try subst_vars); first | done | trivial | assumption | omega | grind [mPutAddr, mPutL]) | (show drawOk _ _ _ = true; exact rfl) | skip)
  conv => whnf
  refine And.intro ⟨(0 : Nat), Ob.mk ?_, ?_⟩ (fun (i : Nat) hi => ?_)
  · exact And.intro (Nat.zero_le _) rfl
  · conv => whnf
    refine Ob.mk ?_
    all_goals (try simp only [allP, side, Ctr.reads, dTag_eta, dRoad_eta, dLetter_eta, dAddr_eta, dSub_eta, dHalf_eta, dPiece_eta, dPolicy_eta, dBucket_eta, dOut_eta, dPieces_eta, dEnd_eta, dKnown_eta, dWorld_eta]); all_goals repeat' (first | with_reducible exact rfl | exact trivial | with_reducible assumption | refine And.intro ?_ ?_ | exact (rfl : (_ : SV) = _) | exact (rfl : (_ : List SC) = _) | (show drawOk _ _ _ = true; exact rfl) | (show ((0 : Nat) : Int) = 0; exact rfl))
  obtain ⟨hi, hm⟩ := hi
  have hi : i ≤ l.length := hi
  have hm : plL a.id (l.drop i) i = plL a.id l 0 := hm
  rcases Nat.lt_or_ge i l.length with hlt | hge
  · obtain ⟨x, hx, hxi, hd⟩ := at_step l i (ETy.zero .addr) hlt
    rw [hd, plL] at hm
    have hw := w64_succ hlt ((by omega))
    repeat' ((conv => whnf); first | refine toOb2 ?_ | refine And.intro (fun _ => ?_) (fun _ => ?_) | refine And.intro ?_ ?_ | refine toEx2 ?_ | refine toY ?_ | intro _)
    all_goals try (exfalso; exact Nat.lt_irrefl _ (Nat.lt_of_lt_of_le hlt (ge_of_dec (by assumption))))
    all_goals first | refine Ob2.mk ?_ | refine Ex2.of (i + 1) ?_ ?_ | skip
    all_goals try ((conv => whnf); refine Ob.mk ?_)
    all_goals (try simp only [allP, side, Ctr.reads, dTag_eta, dRoad_eta, dLetter_eta, dAddr_eta, dSub_eta, dHalf_eta, dPiece_eta, dPolicy_eta, dBucket_eta, dOut_eta, dPieces_eta, dEnd_eta, dKnown_eta, dWorld_eta]); all_goals repeat' (first | with_reducible exact rfl | exact trivial | with_reducible assumption | refine And.intro ?_ ?_ | exact (rfl : (_ : SV) = _) | exact (rfl : (_ : List SC) = _) | (show drawOk _ _ _ = true; exact rfl) | (show ((0 : Nat) : Int) = 0; exact rfl))
    all_goals (try simp only [hx, List.nil_append, List.append_assoc, List.length_append, List.length_take, List.length_drop, List.length_cons, List.length_nil, Ctr.reads, dTag_eta, dRoad_eta, dLetter_eta, dAddr_eta, dSub_eta, dHalf_eta, dPiece_eta, dPolicy_eta, dBucket_eta, dOut_eta, dPieces_eta, dEnd_eta, dKnown_eta, dWorld_eta] at *)
    all_goals first | done | grind [mPutAddr, mPutL]
  · have hl : i = l.length := by omega
    subst hl
    rw [List.drop_length, plL] at hm
    repeat' ((conv => whnf); first | refine toOb2 ?_ | refine And.intro (fun _ => ?_) (fun _ => ?_) | refine And.intro ?_ ?_ | refine toEx2 ?_ | refine toY ?_ | intro _)
    all_goals try (exfalso; exact Nat.lt_irrefl _ (Nat.lt_of_lt_of_le (lt_of_dec (by assumption)) hge))
    all_goals first | refine Ob2.mk ?_ | refine Ex2.of (l.length + 1) ?_ ?_ | skip
    all_goals try ((conv => whnf); refine Ob.mk ?_)
    all_goals (try simp only [allP, side, Ctr.reads, dTag_eta, dRoad_eta, dLetter_eta, dAddr_eta, dSub_eta, dHalf_eta, dPiece_eta, dPolicy_eta, dBucket_eta, dOut_eta, dPieces_eta, dEnd_eta, dKnown_eta, dWorld_eta]); all_goals repeat' (first | with_reducible exact rfl | exact trivial | with_reducible assumption | refine And.intro ?_ ?_ | exact (rfl : (_ : SV) = _) | exact (rfl : (_ : List SC) = _) | (show drawOk _ _ _ = true; exact rfl) | (show ((0 : Nat) : Int) = 0; exact rfl))
    all_goals (try simp only [List.nil_append, List.append_assoc, List.length_append, List.length_take, List.length_drop, List.length_cons, List.length_nil, Ctr.reads, dTag_eta, dRoad_eta, dLetter_eta, dAddr_eta, dSub_eta, dHalf_eta, dPiece_eta, dPolicy_eta, dBucket_eta, dOut_eta, dPieces_eta, dEnd_eta, dKnown_eta, dWorld_eta] at *)
    all_goals first | done | grind [mPutAddr, mPutL]
set_option maxHeartbeats 1000000 in
theorem h_spec_Accept : Ctr.holds E 270 (.reads [aOut, aStr] [aOut, aInt] (fun ((o : DOut), (t : List UInt8), _) => True) fun ((o : DOut), (t : List UInt8), _) => ((mAccept o t).1, (mAccept o t).2, ())) := by
  refine fn_ok (Γ := [(239, .reads [aOut] [aBool] (fun _ => True) fun ((o : DOut), _) => (mOutOk o, ()))]) prgOk (gcons h_spec_OutOk gnil) Tryz.func270 rfl rfl rfl rfl ?_
  rintro ty ⟨(o : DOut), (t : List UInt8), _⟩ hp
  refine ⟨[], ?_⟩
  by_cases hok : mOutOk o = true
  · obtain ⟨ho1, ho2, ho3, ho4⟩ := outOk_bd hok
    have htl : 0 ≤ (t.length : Int) := by omega
    repeat' ((conv => whnf); first | refine toOb2 ?_ | refine And.intro (fun _ => ?_) (fun _ => ?_) | refine And.intro ?_ ?_ | refine toEx2 ?_ | refine toY ?_ | intro _)
    all_goals first | refine Ob2.mk ?_ | (show drawOk _ _ _ = true; exact rfl)
    all_goals (try simp only [allP, side, Ctr.reads, dTag_eta, dRoad_eta, dLetter_eta, dAddr_eta, dSub_eta, dHalf_eta, dPiece_eta, dPolicy_eta, dBucket_eta, dOut_eta, dPieces_eta, dEnd_eta, dKnown_eta, dWorld_eta]); all_goals repeat' (first | with_reducible exact rfl | exact trivial | with_reducible assumption | refine And.intro ?_ ?_ | exact (rfl : (_ : SV) = _) | exact (rfl : (_ : List SC) = _) | (show drawOk _ _ _ = true; exact rfl) | (show ((0 : Nat) : Int) = 0; exact rfl))
    all_goals (try simp only [Ctr.reads, dTag_eta, dRoad_eta, dLetter_eta, dAddr_eta, dSub_eta, dHalf_eta, dPiece_eta, dPolicy_eta, dBucket_eta, dOut_eta, dPieces_eta, dEnd_eta, dKnown_eta, dWorld_eta] at *)
    all_goals (try simp only [Bool.cond_true_left, Bool.cond_false_right, Bool.or_eq_false_iff, Bool.or_eq_true, Bool.and_eq_true, Bool.and_eq_false_imp, Bool.not_eq_true', Bool.not_eq_false', Bool.not_eq_eq_eq_not, Bool.not_true, Bool.not_false] at *)
    all_goals (try simp only [decide_eq_true_eq, decide_eq_false_iff_not] at *)
    all_goals (try simp (disch := omega) only [w64_id] at *)
    all_goals (try simp (disch := omega) only [w64_id] at *)
    all_goals first | done | with_reducible assumption | with_reducible rfl | omega | grind [mAccept]
  · repeat' ((conv => whnf); first | refine toOb2 ?_ | refine And.intro (fun _ => ?_) (fun _ => ?_) | refine And.intro ?_ ?_ | refine toEx2 ?_ | refine toY ?_ | intro _)
    all_goals first | refine Ob2.mk ?_ | (show drawOk _ _ _ = true; exact rfl)
    all_goals (try simp only [allP, side, Ctr.reads, dTag_eta, dRoad_eta, dLetter_eta, dAddr_eta, dSub_eta, dHalf_eta, dPiece_eta, dPolicy_eta, dBucket_eta, dOut_eta, dPieces_eta, dEnd_eta, dKnown_eta, dWorld_eta]); all_goals repeat' (first | with_reducible exact rfl | exact trivial | with_reducible assumption | refine And.intro ?_ ?_ | exact (rfl : (_ : SV) = _) | exact (rfl : (_ : List SC) = _) | (show drawOk _ _ _ = true; exact rfl) | (show ((0 : Nat) : Int) = 0; exact rfl))
    all_goals (try simp only [Ctr.reads, dTag_eta, dRoad_eta, dLetter_eta, dAddr_eta, dSub_eta, dHalf_eta, dPiece_eta, dPolicy_eta, dBucket_eta, dOut_eta, dPieces_eta, dEnd_eta, dKnown_eta, dWorld_eta] at *)
    all_goals (try simp only [Bool.cond_true_left, Bool.cond_false_right, Bool.or_eq_false_iff, Bool.or_eq_true, Bool.and_eq_true, Bool.and_eq_false_imp, Bool.not_eq_true', Bool.not_eq_false', Bool.not_eq_eq_eq_not, Bool.not_true, Bool.not_false] at *)
    all_goals first | done | with_reducible assumption | with_reducible rfl | omega | grind [mAccept]
set_option maxHeartbeats 1000000 in
theorem h_spec_Write : Ctr.holds E 194 (.reads [aEnd, aStr] [aEnd, aInt] (fun ((e : DEnd), (t : List UInt8), _) => e.B) fun ((e : DEnd), (t : List UInt8), _) => ((mWrite e t).1, (mWrite e t).2, ())) := by
  refine fn_ok (Γ := [(103, .reads [aEnd] [aEnd] (fun ((e : DEnd), _) => e.B) fun (e, _) => (e, ())), (100, .reads [aEnd] [aBool] (fun ((e : DEnd), _) => e.B) fun ((e : DEnd), _) => (mEndOk e, ())), (270, .reads [aOut, aStr] [aOut, aInt] (fun ((o : DOut), (t : List UInt8), _) => True) fun ((o : DOut), (t : List UInt8), _) => ((mAccept o t).1, (mAccept o t).2, ()))]) prgOk (gcons h_spec_l17Copy (gcons h_spec_EndOk (gcons h_spec_Accept gnil))) Tryz.func194 rfl rfl rfl rfl ?_
  rintro ty ⟨(e : DEnd), (t : List UInt8), _⟩ (hp : e.B)
  obtain ⟨hb1, hb2, hb3, hb4, hb5, hb6, hb7⟩ := id hp
  refine ⟨[], ?_⟩
  repeat' ((conv => whnf); first | refine toOb2 ?_ | refine And.intro (fun _ => ?_) (fun _ => ?_) | refine And.intro ?_ ?_ | refine toEx2 ?_ | refine toY ?_ | intro _)
  all_goals first | refine Ob2.mk ?_ | (show drawOk _ _ _ = true; exact rfl)
  all_goals (try simp only [allP, side, Ctr.reads, dTag_eta, dRoad_eta, dLetter_eta, dAddr_eta, dSub_eta, dHalf_eta, dPiece_eta, dPolicy_eta, dBucket_eta, dOut_eta, dPieces_eta, dEnd_eta, dKnown_eta, dWorld_eta]); all_goals repeat' (first | with_reducible exact rfl | exact trivial | with_reducible assumption | refine And.intro ?_ ?_ | exact (rfl : (_ : SV) = _) | exact (rfl : (_ : List SC) = _) | (show drawOk _ _ _ = true; exact rfl) | (show ((0 : Nat) : Int) = 0; exact rfl))
  all_goals (try simp only [Ctr.reads, dTag_eta, dRoad_eta, dLetter_eta, dAddr_eta, dSub_eta, dHalf_eta, dPiece_eta, dPolicy_eta, dBucket_eta, dOut_eta, dPieces_eta, dEnd_eta, dKnown_eta, dWorld_eta] at *)
  all_goals first | done | with_reducible assumption | with_reducible rfl | grind [mWrite]
set_option maxHeartbeats 1000000 in
theorem h_impl_Accept : Ctr.holds E 271 (.reads [aOut, aStr] [aOut, aInt] (fun ((o : DOut), (t : List UInt8), _) => True) fun ((o : DOut), (t : List UInt8), _) => ((mAccept o t).1, (mAccept o t).2, ())) := by
  refine fn_ok (Γ := [(252, .reads [aOut] [aBool] (fun _ => True) fun ((o : DOut), _) => (mOutOk o, ()))]) prgOk (gcons h_impl_OutOk gnil) Tryz.func271 rfl rfl rfl rfl ?_
  rintro ty ⟨(o : DOut), (t : List UInt8), _⟩ hp
  refine ⟨[], ?_⟩
  by_cases hok : mOutOk o = true
  · obtain ⟨ho1, ho2, ho3, ho4⟩ := outOk_bd hok
    have htl : 0 ≤ (t.length : Int) := by omega
    repeat' ((conv => whnf); first | refine toOb2 ?_ | refine And.intro (fun _ => ?_) (fun _ => ?_) | refine And.intro ?_ ?_ | refine toEx2 ?_ | refine toY ?_ | intro _)
    all_goals first | refine Ob2.mk ?_ | (show drawOk _ _ _ = true; exact rfl)
    all_goals (try simp only [allP, side, Ctr.reads, dTag_eta, dRoad_eta, dLetter_eta, dAddr_eta, dSub_eta, dHalf_eta, dPiece_eta, dPolicy_eta, dBucket_eta, dOut_eta, dPieces_eta, dEnd_eta, dKnown_eta, dWorld_eta]); all_goals repeat' (first | with_reducible exact rfl | exact trivial | with_reducible assumption | refine And.intro ?_ ?_ | exact (rfl : (_ : SV) = _) | exact (rfl : (_ : List SC) = _) | (show drawOk _ _ _ = true; exact rfl) | (show ((0 : Nat) : Int) = 0; exact rfl))
    all_goals (try simp only [Ctr.reads, dTag_eta, dRoad_eta, dLetter_eta, dAddr_eta, dSub_eta, dHalf_eta, dPiece_eta, dPolicy_eta, dBucket_eta, dOut_eta, dPieces_eta, dEnd_eta, dKnown_eta, dWorld_eta] at *)
    all_goals (try simp only [Bool.cond_true_left, Bool.cond_false_right, Bool.or_eq_false_iff, Bool.or_eq_true, Bool.and_eq_true, Bool.and_eq_false_imp, Bool.not_eq_true', Bool.not_eq_false', Bool.not_eq_eq_eq_not, Bool.not_true, Bool.not_false] at *)
    all_goals (try simp only [decide_eq_true_eq, decide_eq_false_iff_not] at *)
    all_goals (try simp (disch := omega) only [w64_id] at *)
    all_goals (try simp (disch := omega) only [w64_id] at *)
    all_goals first | done | with_reducible assumption | with_reducible rfl | omega | grind [mAccept]
  · repeat' ((conv => whnf); first | refine toOb2 ?_ | refine And.intro (fun _ => ?_) (fun _ => ?_) | refine And.intro ?_ ?_ | refine toEx2 ?_ | refine toY ?_ | intro _)
    all_goals first | refine Ob2.mk ?_ | (show drawOk _ _ _ = true; exact rfl)
    all_goals (try simp only [allP, side, Ctr.reads, dTag_eta, dRoad_eta, dLetter_eta, dAddr_eta, dSub_eta, dHalf_eta, dPiece_eta, dPolicy_eta, dBucket_eta, dOut_eta, dPieces_eta, dEnd_eta, dKnown_eta, dWorld_eta]); all_goals repeat' (first | with_reducible exact rfl | exact trivial | with_reducible assumption | refine And.intro ?_ ?_ | exact (rfl : (_ : SV) = _) | exact (rfl : (_ : List SC) = _) | (show drawOk _ _ _ = true; exact rfl) | (show ((0 : Nat) : Int) = 0; exact rfl))
    all_goals (try simp only [Ctr.reads, dTag_eta, dRoad_eta, dLetter_eta, dAddr_eta, dSub_eta, dHalf_eta, dPiece_eta, dPolicy_eta, dBucket_eta, dOut_eta, dPieces_eta, dEnd_eta, dKnown_eta, dWorld_eta] at *)
    all_goals (try simp only [Bool.cond_true_left, Bool.cond_false_right, Bool.or_eq_false_iff, Bool.or_eq_true, Bool.and_eq_true, Bool.and_eq_false_imp, Bool.not_eq_true', Bool.not_eq_false', Bool.not_eq_eq_eq_not, Bool.not_true, Bool.not_false] at *)
    all_goals first | done | with_reducible assumption | with_reducible rfl | omega | grind [mAccept]
set_option maxHeartbeats 1000000 in
theorem h_impl_Write : Ctr.holds E 195 (.reads [aEnd, aStr] [aEnd, aInt] (fun ((e : DEnd), (t : List UInt8), _) => e.B) fun ((e : DEnd), (t : List UInt8), _) => ((mWrite e t).1, (mWrite e t).2, ())) := by
  refine fn_ok (Γ := [(115, .reads [aEnd] [aEnd] (fun ((e : DEnd), _) => e.B) fun (e, _) => (e, ())), (112, .reads [aEnd] [aBool] (fun ((e : DEnd), _) => e.B) fun ((e : DEnd), _) => (mEndOk e, ())), (271, .reads [aOut, aStr] [aOut, aInt] (fun ((o : DOut), (t : List UInt8), _) => True) fun ((o : DOut), (t : List UInt8), _) => ((mAccept o t).1, (mAccept o t).2, ()))]) prgOk (gcons h_impl_copyEnd (gcons h_impl_EndOk (gcons h_impl_Accept gnil))) Tryz.func195 rfl rfl rfl rfl ?_
  rintro ty ⟨(e : DEnd), (t : List UInt8), _⟩ (hp : e.B)
  obtain ⟨hb1, hb2, hb3, hb4, hb5, hb6, hb7⟩ := id hp
  refine ⟨[], ?_⟩
  repeat' ((conv => whnf); first | refine toOb2 ?_ | refine And.intro (fun _ => ?_) (fun _ => ?_) | refine And.intro ?_ ?_ | refine toEx2 ?_ | refine toY ?_ | intro _)
  all_goals first | refine Ob2.mk ?_ | (show drawOk _ _ _ = true; exact rfl)
  all_goals (try simp only [allP, side, Ctr.reads, dTag_eta, dRoad_eta, dLetter_eta, dAddr_eta, dSub_eta, dHalf_eta, dPiece_eta, dPolicy_eta, dBucket_eta, dOut_eta, dPieces_eta, dEnd_eta, dKnown_eta, dWorld_eta]); all_goals repeat' (first | with_reducible exact rfl | exact trivial | with_reducible assumption | refine And.intro ?_ ?_ | exact (rfl : (_ : SV) = _) | exact (rfl : (_ : List SC) = _) | (show drawOk _ _ _ = true; exact rfl) | (show ((0 : Nat) : Int) = 0; exact rfl))
  all_goals (try simp only [Ctr.reads, dTag_eta, dRoad_eta, dLetter_eta, dAddr_eta, dSub_eta, dHalf_eta, dPiece_eta, dPolicy_eta, dBucket_eta, dOut_eta, dPieces_eta, dEnd_eta, dKnown_eta, dWorld_eta] at *)
  all_goals first | done | with_reducible assumption | with_reducible rfl | grind [mWrite]
set_option maxHeartbeats 1000000 in
theorem h_spec_EndNew : Ctr.holds E 197 (.reads [aInt, aInt, aPolicy] [aEnd, aBool] (fun ((s : Int), (a : Int), (p : DPolicy), _) => True) fun ((s : Int), (a : Int), (p : DPolicy), _) => ((mEndNew s a p).1, (mEndNew s a p).2, ())) := by
  refine fn_ok (Γ := [(190, .reads [aRow .addr, aAddr] [aRow .addr, aBool] (fun ((l : List DAddr), _) => l.length ≤ 1073741823) fun ((l : List DAddr), (a : DAddr), _) => ((mPutAddr l a).1, (mPutAddr l a).2, ())), (136, .reads [aInt, aInt, aInt] [aBool] (fun _ => True) fun ((n : Int), (l : Int), (h : Int), _) => (mIn n l h, ())), (235, .reads [aPolicy] [aBool] (fun _ => True) fun ((p : DPolicy), _) => (mPolicyOk p, ())), (272, .reads [aInt, aInt] [aBucket, aBool] (fun _ => True) fun ((r : Int), (u : Int), _) => ((mBucketNew r u).1, (mBucketNew r u).2, ()))]) prgOk (gcons h_spec_PutAddr (gcons h_spec_l01In (gcons h_spec_PolicyOk (gcons h_spec_BucketNew gnil)))) Tryz.func197 rfl rfl rfl rfl ?_
  rintro ty ⟨(s : Int), (a : Int), (p : DPolicy), _⟩ hp
  have hbn : mBucketNew 1 3 = (⟨1, 3, 3⟩, true) := by decide
  have hpn : mPutAddr [] ⟨0, a, false, true⟩ = if mAddrsOk [⟨0, a, false, true⟩] = true then ([⟨0, a, false, true⟩], true) else ([], false) := rfl
  refine ⟨[], ?_⟩
  repeat' ((conv => whnf); first | refine toOb2 ?_ | refine And.intro (fun _ => ?_) (fun _ => ?_) | refine And.intro ?_ ?_ | refine toEx2 ?_ | refine toY ?_ | intro _)
  all_goals first | refine Ob2.mk ?_ | (show drawOk _ _ _ = true; exact rfl)
  all_goals (try simp only [allP, side, Ctr.reads, dTag_eta, dRoad_eta, dLetter_eta, dAddr_eta, dSub_eta, dHalf_eta, dPiece_eta, dPolicy_eta, dBucket_eta, dOut_eta, dPieces_eta, dEnd_eta, dKnown_eta, dWorld_eta]); all_goals repeat' (first | with_reducible exact rfl | exact trivial | with_reducible assumption | refine And.intro ?_ ?_ | exact (rfl : (_ : SV) = _) | exact (rfl : (_ : List SC) = _) | (show drawOk _ _ _ = true; exact rfl) | (show ((0 : Nat) : Int) = 0; exact rfl))
  all_goals (try simp only [hbn, hpn, Ctr.reads, dTag_eta, dRoad_eta, dLetter_eta, dAddr_eta, dSub_eta, dHalf_eta, dPiece_eta, dPolicy_eta, dBucket_eta, dOut_eta, dPieces_eta, dEnd_eta, dKnown_eta, dWorld_eta] at *)
  all_goals first | done | with_reducible assumption | with_reducible rfl | grind [mEndNew]
set_option maxHeartbeats 1000000 in
theorem h_impl_EndNew : Ctr.holds E 198 (.reads [aInt, aInt, aPolicy] [aEnd, aBool] (fun ((s : Int), (a : Int), (p : DPolicy), _) => True) fun ((s : Int), (a : Int), (p : DPolicy), _) => ((mEndNew s a p).1, (mEndNew s a p).2, ())) := by
  refine fn_ok (Γ := [(138, .reads [aInt, aInt, aInt] [aBool] (fun _ => True) fun ((n : Int), (l : Int), (h : Int), _) => (mIn n l h, ())), (248, .reads [aPolicy] [aBool] (fun _ => True) fun ((p : DPolicy), _) => (mPolicyOk p, ())), (249, .reads [aRow .addr] [aBool] (fun ((l : List DAddr), _) => l.length ≤ 1073741824) fun ((l : List DAddr), _) => (mAddrsOk l, ())), (273, .reads [aInt, aInt] [aBucket, aBool] (fun _ => True) fun ((r : Int), (u : Int), _) => ((mBucketNew r u).1, (mBucketNew r u).2, ()))]) prgOk (gcons h_impl_within (gcons h_impl_PolicyOk (gcons h_impl_AddrsOk (gcons h_impl_BucketNew gnil)))) Tryz.func198 rfl rfl rfl rfl ?_
  rintro ty ⟨(s : Int), (a : Int), (p : DPolicy), _⟩ hp
  have hbn : mBucketNew 1 3 = (⟨1, 3, 3⟩, true) := by decide
  have hpn : mPutAddr [] ⟨0, a, false, true⟩ = if mAddrsOk [⟨0, a, false, true⟩] = true then ([⟨0, a, false, true⟩], true) else ([], false) := rfl
  refine ⟨[], ?_⟩
  repeat' ((conv => whnf); first | refine toOb2 ?_ | refine And.intro (fun _ => ?_) (fun _ => ?_) | refine And.intro ?_ ?_ | refine toEx2 ?_ | refine toY ?_ | intro _)
  all_goals first | refine Ob2.mk ?_ | (show drawOk _ _ _ = true; exact rfl)
  all_goals (try simp only [allP, side, Ctr.reads, dTag_eta, dRoad_eta, dLetter_eta, dAddr_eta, dSub_eta, dHalf_eta, dPiece_eta, dPolicy_eta, dBucket_eta, dOut_eta, dPieces_eta, dEnd_eta, dKnown_eta, dWorld_eta]); all_goals repeat' (first | with_reducible exact rfl | exact trivial | with_reducible assumption | refine And.intro ?_ ?_ | exact (rfl : (_ : SV) = _) | exact (rfl : (_ : List SC) = _) | (show drawOk _ _ _ = true; exact rfl) | (show ((0 : Nat) : Int) = 0; exact rfl))
  all_goals (try simp only [hbn, hpn, Ctr.reads, dTag_eta, dRoad_eta, dLetter_eta, dAddr_eta, dSub_eta, dHalf_eta, dPiece_eta, dPolicy_eta, dBucket_eta, dOut_eta, dPieces_eta, dEnd_eta, dKnown_eta, dWorld_eta] at *)
  all_goals first | done | with_reducible assumption | with_reducible rfl | grind [mEndNew]
end Go.Proofs.YtjlbibidgdnjdaaGreat
