/- Contracts of functions of the program, each shown over the text. -/
import Derived.Test.YtjlbibidgdnjdaaGreatFun6
set_option linter.unusedVariables false
set_option linter.unusedSimpArgs false
set_option maxRecDepth 100000
namespace Go.Proofs.YtjlbibidgdnjdaaGreat
open Go.Eng
set_option maxHeartbeats 1000000 in
theorem h_impl_pushSome : Ctr.holds E 196 (⟨[aEnd], [.own], [aEnd, aRow .letter], (fun ((e : DEnd), _) => e.B), (fun ((e : DEnd), _) => ((pushN 3 e).1, (pushN 3 e).2, ())), fun x => x⟩) := by
  refine fn_ok (Γ := [(63, .reads [aEnd] [aEnd, aRow .letter] (fun ((e : DEnd), _) => e.B) fun ((e : DEnd), _) => ((mPush e).1, (mPush e).2, ()))]) prgOk (gcons h_impl_Push gnil) Tryz.func196 rfl rfl rfl rfl ?_
  rintro ty ⟨(e : DEnd), _⟩ (hB0 : e.B)
  refine ⟨[(3, { X := Nat × DEnd × List DLetter, inv := fun z => z.1 ≤ 3 ∧ z.2.1 = (pushN z.1 e).1 ∧ z.2.2 = (pushN z.1 e).2, mu := fun z => 3 - z.1, vk := [5, 4, 0], ov := fun z => [.a (.c (.leaf (.int (z.1 : Int)))), .a (.c (.row 200000)), .any], bk := [1], ob := fun z => [[.leaf (.int z.2.1.side), .leaf (.int z.2.1.state), .leaf (.int z.2.1.key), .leaf (.int z.2.1.peer), .leaf (.int z.2.1.policy.kind), .leaf (.int z.2.1.policy.many), .row 6, .row 7, .row 8, .row 9, .leaf (.int z.2.1.bucket.rate), .leaf (.int z.2.1.bucket.burst), .leaf (.int z.2.1.bucket.hav), .leaf (.str z.2.1.out.text), .leaf (.int z.2.1.out.base), .leaf (.int z.2.1.out.sent), .leaf (.int z.2.1.out.room), .leaf (.int z.2.1.inn.read), .leaf (.str z.2.1.inn.ready), .row 19, .row 20, .row 21, .leaf (.int z.2.1.draw), .leaf (.int z.2.1.now), .leaf (.int z.2.1.pick)]], rk := [6, 7, 8, 9, 19, 20, 21, 200000], orr := fun z => [⟨.addr, z.2.1.own, true, none⟩, ⟨.addr, z.2.1.far, true, none⟩, ⟨.sub, z.2.1.subs, true, none⟩, ⟨.half, z.2.1.halfs, true, none⟩, ⟨.piece, z.2.1.inn.list, true, none⟩, ⟨.int, z.2.1.done, true, none⟩, ⟨.int, z.2.1.over, true, none⟩, ⟨.letter, z.2.2, true, none⟩] })], ?_⟩
  repeat' ((conv => whnf); first | refine toOb2 ?_ | refine toY ?_ | refine And.intro (fun _ => ?_) (fun _ => ?_) | refine And.intro (toOb2 ?_) ?_ | refine And.intro (?_ : drawOk _ _ _ = true) ?_ | (refine And.intro ⟨?_, ?_⟩ ?_; fail) | intro _)
  (all_goals first | (refine Ob2.mk ?_; (try simp only [allP, side, Ctr.reads, dTag_eta, dRoad_eta, dLetter_eta, dAddr_eta, dSub_eta, dHalf_eta, dPiece_eta, dPolicy_eta, dBucket_eta, dOut_eta, dPieces_eta, dEnd_eta, dKnown_eta, dWorld_eta] at *); (try simp only [Bool.cond_true_left, Bool.cond_false_right, Bool.or_eq_false_iff, Bool.or_eq_true, Bool.and_eq_true, Bool.and_eq_false_imp, Bool.not_eq_true', Bool.not_eq_false', Bool.not_eq_eq_eq_not, Bool.not_true, Bool.not_false, imp_self, implies_true, and_self, and_true, true_and] at *); first | done | trivial | assumption | omega | grind []) | (show drawOk _ _ _ = true; exact rfl) | skip)
  conv => whnf
  refine And.intro ⟨((0, e, []) : Nat × DEnd × List DLetter), Ob.mk ?_, ?_⟩ (fun (z : Nat × DEnd × List DLetter) hi => ?_)
  · exact And.intro (Nat.zero_le _) (And.intro rfl rfl)
  · conv => whnf
    refine Ob.mk ?_
    all_goals (try simp only [allP, side, Ctr.reads, dTag_eta, dRoad_eta, dLetter_eta, dAddr_eta, dSub_eta, dHalf_eta, dPiece_eta, dPolicy_eta, dBucket_eta, dOut_eta, dPieces_eta, dEnd_eta, dKnown_eta, dWorld_eta]); all_goals repeat' (first | with_reducible exact rfl | exact trivial | with_reducible assumption | refine And.intro ?_ ?_ | exact (rfl : (_ : SV) = _) | exact (rfl : (_ : List SC) = _) | (show drawOk _ _ _ = true; exact rfl) | (show ((0 : Nat) : Int) = 0; exact rfl))
    all_goals first | done | rfl | exact trivial
  obtain ⟨i, a, acc⟩ := z
  obtain ⟨hi, ha, hc⟩ := hi
  have hi : i ≤ 3 := hi
  have ha : a = (pushN i e).1 := ha
  have hc : acc = (pushN i e).2 := hc
  have hab : a.B := by rw [ha]; exact pushN_B hB0 i
  have hal := mPush_len1 a
  have hcl : acc.length ≤ i := by rw [hc]; exact pushN_len _ i
  have hn : pushN (i + 1) e = ((mPush a).1, acc ++ (mPush a).2) := by rw [ha, hc]; rfl
  have hw : i < 3 → w64 ((i : Int) + 1) = ((i + 1 : Nat) : Int) := fun h => w64_succ h (by decide)
  rcases Nat.lt_or_ge i 3 with hlt | hge
  · have hw := hw hlt
    clear ha hc
    repeat' ((conv => whnf); first | refine toOb2 ?_ | refine And.intro (fun _ => ?_) (fun _ => ?_) | refine And.intro ?_ ?_ | refine toEx2 ?_ | refine toY ?_ | intro _)
    all_goals try (exfalso; have h9 := of_decide_eq_false (by assumption); revert h9; simp; omega)
    all_goals first | refine Ob2.mk ?_ | refine Ex2.of ((i + 1, (mPush a).1, acc ++ (mPush a).2) : Nat × DEnd × List DLetter) ?_ ?_ | skip
    all_goals try ((conv => whnf); refine Ob.mk ?_)
    all_goals (try simp only [allP, side, Ctr.reads, dTag_eta, dRoad_eta, dLetter_eta, dAddr_eta, dSub_eta, dHalf_eta, dPiece_eta, dPolicy_eta, dBucket_eta, dOut_eta, dPieces_eta, dEnd_eta, dKnown_eta, dWorld_eta]); all_goals repeat' (first | with_reducible exact rfl | exact trivial | with_reducible assumption | refine And.intro ?_ ?_ | exact (rfl : (_ : SV) = _) | exact (rfl : (_ : List SC) = _) | (show drawOk _ _ _ = true; exact rfl) | (show ((0 : Nat) : Int) = 0; exact rfl))
    all_goals (try simp only [hn, Ctr.reads, dTag_eta, dRoad_eta, dLetter_eta, dAddr_eta, dSub_eta, dHalf_eta, dPiece_eta, dPolicy_eta, dBucket_eta, dOut_eta, dPieces_eta, dEnd_eta, dKnown_eta, dWorld_eta] at *)
    all_goals first | done | omega | rfl | exact hw.symm | (refine And.intro (And.intro (by omega) (And.intro rfl rfl)) (by omega)) | grind
  · have hl : i = 3 := by omega
    subst hl
    repeat' ((conv => whnf); first | refine toOb2 ?_ | refine And.intro (fun _ => ?_) (fun _ => ?_) | refine And.intro ?_ ?_ | refine toEx2 ?_ | refine toY ?_ | intro _)
    all_goals try (exfalso; have h9 := of_decide_eq_true (by assumption); revert h9; simp; done)
    all_goals first | refine Ob2.mk ?_ | skip
    all_goals (try simp only [allP, side, Ctr.reads, dTag_eta, dRoad_eta, dLetter_eta, dAddr_eta, dSub_eta, dHalf_eta, dPiece_eta, dPolicy_eta, dBucket_eta, dOut_eta, dPieces_eta, dEnd_eta, dKnown_eta, dWorld_eta]); all_goals repeat' (first | with_reducible exact rfl | exact trivial | with_reducible assumption | refine And.intro ?_ ?_ | exact (rfl : (_ : SV) = _) | exact (rfl : (_ : List SC) = _) | (show drawOk _ _ _ = true; exact rfl) | (show ((0 : Nat) : Int) = 0; exact rfl))
    all_goals (try simp only [Ctr.reads, dTag_eta, dRoad_eta, dLetter_eta, dAddr_eta, dSub_eta, dHalf_eta, dPiece_eta, dPolicy_eta, dBucket_eta, dOut_eta, dPieces_eta, dEnd_eta, dKnown_eta, dWorld_eta] at *)
    all_goals first | done | omega | (rw [ha, hc]; done) | grind
end Go.Proofs.YtjlbibidgdnjdaaGreat
