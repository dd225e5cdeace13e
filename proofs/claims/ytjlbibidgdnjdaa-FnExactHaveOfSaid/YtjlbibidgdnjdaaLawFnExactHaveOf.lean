/- Contracts of functions of the program, each shown over the text. -/
import Derived.Test.YtjlbibidgdnjdaaFun1
set_option linter.unusedVariables false
set_option linter.unusedSimpArgs false
set_option maxRecDepth 100000
namespace Go.Proofs.Ytjlbibidgdnjdaa
open Go.Eng
set_option maxHeartbeats 1000000 in
theorem h_laws_FnExactHaveOf : Ctr.holds E 8 (lawC [aEnd]) := by
  refine fn_ok (Γ := [(18, .reads [aEnd, aInt] [aInt] (fun ((e : DEnd), (q : Int), _) => e.W ∧ QB q) fun ((e : DEnd), (q : Int), _) => (szEnd e q, ())), (20, .reads [aEnd] [aEnd] (fun ((e : DEnd), _) => e.B) fun (a, _) => (a, ())), (40, .reads [aEnd] [aRow .road] (fun ((e : DEnd), _) => e.B) fun ((e : DEnd), _) => (mHaveOf e, ())), (41, .reads [aEnd] [aRow .road] (fun ((e : DEnd), _) => e.B) fun ((e : DEnd), _) => (mHaveOf e, ())), (42, .reads [aRow .road, aRow .road] [aBool] (fun (a, _) => a.length ≤ 1073741824) fun ((a : List DRoad), (b : List DRoad), _) => (decide (a = b), ())), (22, .reads [aEnd, aEnd] [aBool] (fun ((e : DEnd), _) => e.B) fun ((a : DEnd), (b : DEnd), _) => (decide (a = b), ())), (33, ⟨[aEnd, aInt], [.mut, .ro], [aInt], fun ((e : DEnd), (k : Int), _) => e.B ∧ KB k (nEnd e), fun ((e : DEnd), (k : Int), _) => ((k + (nEnd e : Int) : Int), ()), fun ((e : DEnd), (k : Int), _) => (mkEnd e k, k, ())⟩), (43, ⟨[aRow .road, aInt], [.mut, .ro], [aInt], fun ((a : List DRoad), (k : Int), _) => a.length ≤ 1073741824 ∧ KB k (3 * a.length), fun ((a : List DRoad), (k : Int), _) => ((k + 3 * (a.length : Int) : Int), ()), fun ((a : List DRoad), (k : Int), _) => (mkL mkRoad 3 a k, k, ())⟩), (44, .reads [aRow .road, aInt] [aInt] (fun ((a : List DRoad), (k : Int), _) => a.length ≤ 1073741824 ∧ KB k (3 * a.length)) fun ((a : List DRoad), (k : Int), _) => (hdL mkRoad 3 a k, ()))]) prgOk (gcons h_laws_szEnd (gcons h_laws_toEnd (gcons h_spec_HaveOf (gcons h_impl_HaveOf (gcons h_laws_eqRoadS (gcons h_laws_eqEnd (gcons h_laws_markEnd (gcons h_laws_markRoadS (gcons h_laws_heldRoadS gnil))))))))) Try.func8 rfl rfl rfl rfl ?_
  rintro ty ⟨(e : DEnd), _⟩ hp
  have hW : e.W := end_W hp.1
  have hQ : QB 1048576 := ⟨by decide, by decide⟩
  refine ⟨[], ?_⟩
  by_cases hsz : szEnd e 1048576 < 0
  · repeat' ((conv => whnf); first | refine toOb2 ?_ | refine And.intro (fun _ => ?_) (fun _ => ?_) | refine And.intro ?_ ?_ | refine toEx2 ?_ | intro _)
    all_goals first | refine Ob2.mk ?_ | (show drawOk _ _ _ = true; exact rfl)
    all_goals (try simp only [allP, side, Ctr.reads, dTag_eta, dRoad_eta, dLetter_eta, dAddr_eta, dSub_eta, dHalf_eta, dPiece_eta, dPolicy_eta, dBucket_eta, dOut_eta, dPieces_eta, dEnd_eta, dKnown_eta, dWorld_eta]); all_goals repeat' (first | with_reducible exact rfl | exact trivial | with_reducible assumption | refine And.intro ?_ ?_ | exact (rfl : (_ : SV) = _) | exact (rfl : (_ : List SC) = _) | (show drawOk _ _ _ = true; exact rfl) | (show ((0 : Nat) : Int) = 0; exact rfl))
    all_goals (try simp only [lawC, Ctr.reads, dTag_eta, dRoad_eta, dLetter_eta, dAddr_eta, dSub_eta, dHalf_eta, dPiece_eta, dPolicy_eta, dBucket_eta, dOut_eta, dPieces_eta, dEnd_eta, dKnown_eta, dWorld_eta] at *)
    all_goals (try simp only [decide_eq_true_eq, decide_eq_false_iff_not] at *)
    all_goals first | done | trivial | assumption | (exfalso; exact hsz (by assumption)) | (exfalso; exact absurd hsz (by assumption)) | (simp at *; done) | grind [QB, DEnd.B]
  · have hB := endB_of hsz
    have hK := endK_of hsz
    have hl : (mHaveOf e).length ≤ 1073741824 := Nat.le_trans (colL_le _ _ _) hB.2.2.1
    have hk1 : KB 1 (3 * (mHaveOf e).length) := ⟨by omega, by omega⟩
    repeat' ((conv => whnf); first | refine toOb2 ?_ | refine And.intro (fun _ => ?_) (fun _ => ?_) | refine And.intro ?_ ?_ | refine toEx2 ?_ | intro _)
    all_goals first | refine Ob2.mk ?_ | (show drawOk _ _ _ = true; exact rfl)
    all_goals (try simp only [allP, side, Ctr.reads, dTag_eta, dRoad_eta, dLetter_eta, dAddr_eta, dSub_eta, dHalf_eta, dPiece_eta, dPolicy_eta, dBucket_eta, dOut_eta, dPieces_eta, dEnd_eta, dKnown_eta, dWorld_eta]); all_goals repeat' (first | with_reducible exact rfl | exact trivial | with_reducible assumption | refine And.intro ?_ ?_ | exact (rfl : (_ : SV) = _) | exact (rfl : (_ : List SC) = _) | (show drawOk _ _ _ = true; exact rfl) | (show ((0 : Nat) : Int) = 0; exact rfl))
    all_goals (try simp only [lawC, hdL_mkL, mkL_length, id, Ctr.reads, dTag_eta, dRoad_eta, dLetter_eta, dAddr_eta, dSub_eta, dHalf_eta, dPiece_eta, dPolicy_eta, dBucket_eta, dOut_eta, dPieces_eta, dEnd_eta, dKnown_eta, dWorld_eta] at *)
    all_goals (try simp only [decide_eq_true_eq, decide_eq_false_iff_not] at *)
    all_goals first | done | trivial | assumption | omega | (exfalso; exact hsz (by assumption)) | (exfalso; exact absurd hsz (by assumption)) | (exfalso; omega) | (simp at *; done) | (simp at *; omega) | grind [QB, DEnd.B]
end Go.Proofs.Ytjlbibidgdnjdaa
