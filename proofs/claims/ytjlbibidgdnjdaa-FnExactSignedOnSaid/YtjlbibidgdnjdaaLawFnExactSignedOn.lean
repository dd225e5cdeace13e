/- Contracts of functions of the program, each shown over the text. -/
import Derived.Test.YtjlbibidgdnjdaaFun1
set_option linter.unusedVariables false
set_option linter.unusedSimpArgs false
set_option maxRecDepth 100000
namespace Go.Proofs.Ytjlbibidgdnjdaa
open Go.Eng
set_option maxHeartbeats 1000000 in
theorem h_laws_FnExactSignedOn : Ctr.holds E 5 (lawC [aEnd, aLetter]) := by
  refine fn_ok (Γ := [(18, .reads [aEnd, aInt] [aInt] (fun ((e : DEnd), (q : Int), _) => e.W ∧ QB q) fun ((e : DEnd), (q : Int), _) => (szEnd e q, ())), (26, .reads [aLetter, aInt] [aInt] (fun ((a : DLetter), (q : Int), _) => a.text.length ≤ 9223372036854775807 ∧ QB q) fun ((a : DLetter), (q : Int), _) => (szLetter a q, ())), (20, .reads [aEnd] [aEnd] (fun ((e : DEnd), _) => e.B) fun (a, _) => (a, ())), (28, .reads [aLetter] [aLetter] (fun _ => True) fun (a, _) => (a, ())), (27, .reads [aEnd, aLetter] [aInt] (fun ((e : DEnd), _) => e.B) fun ((e : DEnd), (x : DLetter), _) => (mSignedOn e x, ())), (29, .reads [aEnd, aLetter] [aInt] (fun ((e : DEnd), _) => e.B) fun ((e : DEnd), (x : DLetter), _) => (mSignedOn e x, ())), (22, .reads [aEnd, aEnd] [aBool] (fun ((e : DEnd), _) => e.B) fun ((a : DEnd), (b : DEnd), _) => (decide (a = b), ()))]) prgOk (gcons h_laws_szEnd (gcons h_laws_szLetter (gcons h_laws_toEnd (gcons h_laws_toLetter (gcons h_spec_SignedOn (gcons h_impl_SignedOn (gcons h_laws_eqEnd gnil))))))) Try.func5 rfl rfl rfl rfl ?_
  rintro ty ⟨(e : DEnd), (x : DLetter), _⟩ hp
  have hW : e.W := end_W hp.1
  have hW2 : x.text.length ≤ 9223372036854775807 := letter_W hp.2.1
  have hQ : QB 1048576 := ⟨by decide, by decide⟩
  refine ⟨[], ?_⟩
  by_cases hsz : szEnd e 1048576 < 0
  · repeat' ((conv => whnf); first | refine toOb2 ?_ | refine And.intro (fun _ => ?_) (fun _ => ?_) | refine And.intro ?_ ?_ | refine toEx2 ?_ | intro _)
    all_goals first | refine Ob2.mk ?_ | (show drawOk _ _ _ = true; exact rfl)
    all_goals (try simp only [allP, side, Ctr.reads, dTag_eta, dRoad_eta, dLetter_eta, dAddr_eta, dSub_eta, dHalf_eta, dPiece_eta, dPolicy_eta, dBucket_eta, dOut_eta, dPieces_eta, dEnd_eta, dKnown_eta, dWorld_eta]); all_goals repeat' (first | with_reducible exact rfl | exact trivial | with_reducible assumption | refine And.intro ?_ ?_ | exact (rfl : (_ : SV) = _) | exact (rfl : (_ : List SC) = _) | (show drawOk _ _ _ = true; exact rfl) | (show ((0 : Nat) : Int) = 0; exact rfl))
    all_goals (try simp only [lawC, Ctr.reads, dTag_eta, dRoad_eta, dLetter_eta, dAddr_eta, dSub_eta, dHalf_eta, dPiece_eta, dPolicy_eta, dBucket_eta, dOut_eta, dPieces_eta, dEnd_eta, dKnown_eta, dWorld_eta] at *)
    all_goals (try simp only [decide_eq_true_eq, decide_eq_false_iff_not] at *)
    all_goals first | done | trivial | assumption | (exfalso; exact hsz (by assumption)) | (exfalso; exact absurd hsz (by assumption)) | (simp at *; done) | grind [QB, DEnd.B]
  · have hB := endB_of hsz
    have hQ2 : QB (szEnd e 1048576) := ⟨by omega, szEnd_m (by decide)⟩
    repeat' ((conv => whnf); first | refine toOb2 ?_ | refine And.intro (fun _ => ?_) (fun _ => ?_) | refine And.intro ?_ ?_ | refine toEx2 ?_ | intro _)
    all_goals first | refine Ob2.mk ?_ | (show drawOk _ _ _ = true; exact rfl)
    all_goals (try simp only [allP, side, Ctr.reads, dTag_eta, dRoad_eta, dLetter_eta, dAddr_eta, dSub_eta, dHalf_eta, dPiece_eta, dPolicy_eta, dBucket_eta, dOut_eta, dPieces_eta, dEnd_eta, dKnown_eta, dWorld_eta]); all_goals repeat' (first | with_reducible exact rfl | exact trivial | with_reducible assumption | refine And.intro ?_ ?_ | exact (rfl : (_ : SV) = _) | exact (rfl : (_ : List SC) = _) | (show drawOk _ _ _ = true; exact rfl) | (show ((0 : Nat) : Int) = 0; exact rfl))
    all_goals (try simp only [lawC, Ctr.reads, dTag_eta, dRoad_eta, dLetter_eta, dAddr_eta, dSub_eta, dHalf_eta, dPiece_eta, dPolicy_eta, dBucket_eta, dOut_eta, dPieces_eta, dEnd_eta, dKnown_eta, dWorld_eta] at *)
    all_goals (try simp only [decide_eq_true_eq, decide_eq_false_iff_not] at *)
    all_goals first | done | trivial | assumption | (exfalso; exact hsz (by assumption)) | (exfalso; exact absurd hsz (by assumption)) | (simp at *; done) | grind [QB, DEnd.B]
end Go.Proofs.Ytjlbibidgdnjdaa
