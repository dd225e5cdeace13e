/- Contracts of functions of the program, each shown over the text. -/
import Derived.Test.YtjlbibidgdnjdaaFun4
set_option linter.unusedVariables false
set_option linter.unusedSimpArgs false
set_option maxRecDepth 100000
namespace Go.Proofs.Ytjlbibidgdnjdaa
open Go.Eng
set_option maxHeartbeats 1000000 in
theorem h_spec_LetterOk : Ctr.holds E 131 (.reads [aLetter] [aBool] (fun _ => True) fun ((x : DLetter), _) => (mLetterOk x, ())) := by
  refine fn_ok (Γ := [(99, .reads [aInt, aInt, aInt] [aBool] (fun _ => True) fun ((n : Int), (l : Int), (h : Int), _) => (mIn n l h, ())), (117, .reads [aInt] [aBool] (fun _ => True) fun ((n : Int), _) => (mNum n, ()))]) prgOk (gcons h_spec_l01In (gcons h_spec_l14Num gnil)) Try.func131 rfl rfl rfl rfl ?_
  rintro ty ⟨(y : DLetter), _⟩ hp
  have hll : (lNums y).length = 16 := rfl
  refine ⟨[(5, { X := Nat, inv := fun i => i ≤ (lNums y).length ∧ allL mNum ((lNums y).drop i) = mNums (lNums y), mu := fun i => (lNums y).length - i, vk := [4], ov := fun i => [.a (.c (.leaf (.int (i : Int))))], bk := [], ob := fun i => [], rk := [], orr := fun i => [] })], ?_⟩
  repeat' ((conv => whnf); first | refine toOb2 ?_ | refine toY ?_ | refine And.intro (fun _ => ?_) (fun _ => ?_) | refine And.intro (toOb2 ?_) ?_ | refine And.intro (?_ : drawOk _ _ _ = true) ?_ | (refine And.intro ⟨?_, ?_⟩ ?_; fail) | intro _)
  (all_goals first | (refine Ob2.mk ?_; (try simp only [allP, side, Ctr.reads, dTag_eta, dRoad_eta, dLetter_eta, dAddr_eta, dSub_eta, dHalf_eta, dPiece_eta, dPolicy_eta, dBucket_eta, dOut_eta, dPieces_eta, dEnd_eta, dKnown_eta, dWorld_eta] at *); (try simp only [Bool.cond_true_left, Bool.cond_false_right, Bool.or_eq_false_iff, Bool.or_eq_true, Bool.and_eq_true, Bool.and_eq_false_imp, Bool.not_eq_true', Bool.not_eq_false', Bool.not_eq_eq_eq_not, Bool.not_true, Bool.not_false, imp_self, implies_true, and_self, and_true, true_and] at *); first | done | trivial | assumption | omega | grind [mLetterOk]) | (show drawOk _ _ _ = true; exact rfl) | skip)
  conv => whnf
  refine And.intro ⟨(0 : Nat), Ob.mk ?_, ?_⟩ (fun (i : Nat) hi => ?_)
  · exact And.intro (Nat.zero_le _) rfl
  · conv => whnf
    refine Ob.mk ?_
    all_goals (try simp only [allP, side, Ctr.reads, dTag_eta, dRoad_eta, dLetter_eta, dAddr_eta, dSub_eta, dHalf_eta, dPiece_eta, dPolicy_eta, dBucket_eta, dOut_eta, dPieces_eta, dEnd_eta, dKnown_eta, dWorld_eta]); all_goals repeat' (first | with_reducible exact rfl | exact trivial | with_reducible assumption | refine And.intro ?_ ?_ | exact (rfl : (_ : SV) = _) | exact (rfl : (_ : List SC) = _) | (show drawOk _ _ _ = true; exact rfl) | (show ((0 : Nat) : Int) = 0; exact rfl))
  obtain ⟨hi, hm⟩ := hi
  have hi : i ≤ (lNums y).length := hi
  have hm : allL mNum ((lNums y).drop i) = mNums (lNums y) := hm
  rcases Nat.lt_or_ge i (lNums y).length with hlt | hge
  · obtain ⟨x, hx, hxi, hd⟩ := at_step (lNums y) i (ETy.zero .int) hlt
    rw [hd, allL] at hm
    have hw := w64_succ hlt ((by omega))
    have hlit : ([ETy.int.frm (y.src, ()), ETy.int.frm (y.dst, ()), ETy.int.frm (y.port, ()), ETy.int.frm (y.key, ()), ETy.int.frm (y.token, ()), ETy.int.frm (y.nonce, ()), ETy.int.frm (y.give, ()), ETy.int.frm (y.sign, ()), ETy.int.frm (y.id, ()), ETy.int.frm (y.addr, ()), ETy.int.frm (y.pos, ()), ETy.int.frm (y.tag.kind, ()), ETy.int.frm (y.tag.one, ()), ETy.int.frm (y.tag.two, ()), ETy.int.frm (y.tag.a, ()), ETy.int.frm (y.tag.b, ())] : List ETy.int.T) = lNums y := rfl
    repeat' ((conv => whnf); first | refine toOb2 ?_ | refine And.intro (fun _ => ?_) (fun _ => ?_) | refine And.intro ?_ ?_ | refine toEx2 ?_ | refine toY ?_ | intro _)
    all_goals try (exfalso; exact Nat.lt_irrefl _ (Nat.lt_of_lt_of_le hlt (ge_of_dec (by assumption))))
    all_goals first | refine Ob2.mk ?_ | refine Ex2.of (i + 1) ?_ ?_ | skip
    all_goals try ((conv => whnf); refine Ob.mk ?_)
    all_goals (try simp only [allP, side, Ctr.reads, dTag_eta, dRoad_eta, dLetter_eta, dAddr_eta, dSub_eta, dHalf_eta, dPiece_eta, dPolicy_eta, dBucket_eta, dOut_eta, dPieces_eta, dEnd_eta, dKnown_eta, dWorld_eta]); all_goals repeat' (first | with_reducible exact rfl | exact trivial | with_reducible assumption | refine And.intro ?_ ?_ | exact (rfl : (_ : SV) = _) | exact (rfl : (_ : List SC) = _) | (show drawOk _ _ _ = true; exact rfl) | (show ((0 : Nat) : Int) = 0; exact rfl))
    all_goals (try simp only [hx, hlit, Ctr.reads, dTag_eta, dRoad_eta, dLetter_eta, dAddr_eta, dSub_eta, dHalf_eta, dPiece_eta, dPolicy_eta, dBucket_eta, dOut_eta, dPieces_eta, dEnd_eta, dKnown_eta, dWorld_eta] at *)
    all_goals (try simp only [Bool.cond_true_left, Bool.cond_false_right, Bool.or_eq_false_iff, Bool.or_eq_true, Bool.and_eq_true, Bool.and_eq_false_imp, Bool.not_eq_true', Bool.not_eq_false', Bool.not_eq_eq_eq_not, Bool.not_true, Bool.not_false] at *)
    all_goals first | done | grind [mNum, mLetterOk]
  · have hl : i = (lNums y).length := by omega
    subst hl
    rw [List.drop_length, allL] at hm
    repeat' ((conv => whnf); first | refine toOb2 ?_ | refine And.intro (fun _ => ?_) (fun _ => ?_) | refine And.intro ?_ ?_ | refine toEx2 ?_ | refine toY ?_ | intro _)
    all_goals try (exfalso; exact Nat.lt_irrefl _ (Nat.lt_of_lt_of_le (lt_of_dec (by assumption)) hge))
    all_goals first | refine Ob2.mk ?_ | refine Ex2.of ((lNums y).length + 1) ?_ ?_ | skip
    all_goals try ((conv => whnf); refine Ob.mk ?_)
    all_goals (try simp only [allP, side, Ctr.reads, dTag_eta, dRoad_eta, dLetter_eta, dAddr_eta, dSub_eta, dHalf_eta, dPiece_eta, dPolicy_eta, dBucket_eta, dOut_eta, dPieces_eta, dEnd_eta, dKnown_eta, dWorld_eta]); all_goals repeat' (first | with_reducible exact rfl | exact trivial | with_reducible assumption | refine And.intro ?_ ?_ | exact (rfl : (_ : SV) = _) | exact (rfl : (_ : List SC) = _) | (show drawOk _ _ _ = true; exact rfl) | (show ((0 : Nat) : Int) = 0; exact rfl))
    all_goals (try simp only [hlit, Ctr.reads, dTag_eta, dRoad_eta, dLetter_eta, dAddr_eta, dSub_eta, dHalf_eta, dPiece_eta, dPolicy_eta, dBucket_eta, dOut_eta, dPieces_eta, dEnd_eta, dKnown_eta, dWorld_eta] at *)
    have hlit : ([ETy.int.frm (y.src, ()), ETy.int.frm (y.dst, ()), ETy.int.frm (y.port, ()), ETy.int.frm (y.key, ()), ETy.int.frm (y.token, ()), ETy.int.frm (y.nonce, ()), ETy.int.frm (y.give, ()), ETy.int.frm (y.sign, ()), ETy.int.frm (y.id, ()), ETy.int.frm (y.addr, ()), ETy.int.frm (y.pos, ()), ETy.int.frm (y.tag.kind, ()), ETy.int.frm (y.tag.one, ()), ETy.int.frm (y.tag.two, ()), ETy.int.frm (y.tag.a, ()), ETy.int.frm (y.tag.b, ())] : List ETy.int.T) = lNums y := rfl
    all_goals (try simp only [hlit, Ctr.reads, dTag_eta, dRoad_eta, dLetter_eta, dAddr_eta, dSub_eta, dHalf_eta, dPiece_eta, dPolicy_eta, dBucket_eta, dOut_eta, dPieces_eta, dEnd_eta, dKnown_eta, dWorld_eta] at *)
    all_goals (try simp only [Bool.cond_true_left, Bool.cond_false_right, Bool.or_eq_false_iff, Bool.or_eq_true, Bool.and_eq_true, Bool.and_eq_false_imp, Bool.not_eq_true', Bool.not_eq_false', Bool.not_eq_eq_eq_not, Bool.not_true, Bool.not_false] at *)
    all_goals first | done | grind [mNum, mLetterOk]
set_option maxHeartbeats 1000000 in
theorem h_impl_LetterOk : Ctr.holds E 137 (.reads [aLetter] [aBool] (fun _ => True) fun ((x : DLetter), _) => (mLetterOk x, ())) := by
  refine fn_ok (Γ := [(102, .reads [aInt, aInt, aInt] [aBool] (fun _ => True) fun ((n : Int), (l : Int), (h : Int), _) => (mIn n l h, ())), (124, .reads [aRow .int] [aBool] (fun ((l : List Int), _) => l.length ≤ 1073741824) fun ((l : List Int), _) => (mNums l, ()))]) prgOk (gcons h_impl_within (gcons h_impl_isNumber gnil)) Try.func137 rfl rfl rfl rfl ?_
  rintro ty ⟨(x : DLetter), _⟩ hp
  refine ⟨[], ?_⟩
  repeat' ((conv => whnf); first | refine toOb2 ?_ | refine And.intro (fun _ => ?_) (fun _ => ?_) | refine And.intro ?_ ?_ | refine toEx2 ?_ | refine toY ?_ | intro _)
  all_goals first | refine Ob2.mk ?_ | (show drawOk _ _ _ = true; exact rfl)
  all_goals (try simp only [allP, side, Ctr.reads, dTag_eta, dRoad_eta, dLetter_eta, dAddr_eta, dSub_eta, dHalf_eta, dPiece_eta, dPolicy_eta, dBucket_eta, dOut_eta, dPieces_eta, dEnd_eta, dKnown_eta, dWorld_eta]); all_goals repeat' (first | with_reducible exact rfl | exact trivial | with_reducible assumption | refine And.intro ?_ ?_ | exact (rfl : (_ : SV) = _) | exact (rfl : (_ : List SC) = _) | (show drawOk _ _ _ = true; exact rfl) | (show ((0 : Nat) : Int) = 0; exact rfl))
  all_goals (try simp only [List.length_cons, List.length_nil, Ctr.reads, dTag_eta, dRoad_eta, dLetter_eta, dAddr_eta, dSub_eta, dHalf_eta, dPiece_eta, dPolicy_eta, dBucket_eta, dOut_eta, dPieces_eta, dEnd_eta, dKnown_eta, dWorld_eta] at *)
  all_goals (try simp only [Bool.cond_true_left, Bool.cond_false_right, Bool.or_eq_false_iff, Bool.or_eq_true, Bool.and_eq_true, Bool.and_eq_false_imp, Bool.not_eq_true', Bool.not_eq_false', Bool.not_eq_eq_eq_not, Bool.not_true, Bool.not_false] at *)
  all_goals (try simp only [mLetterOk, lNums] at *)
  all_goals first | done | with_reducible assumption | with_reducible rfl | omega | grind [mLetterOk, lNums]
end Go.Proofs.Ytjlbibidgdnjdaa
