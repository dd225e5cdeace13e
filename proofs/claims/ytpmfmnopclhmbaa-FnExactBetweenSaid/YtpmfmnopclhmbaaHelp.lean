/- Contracts of functions of the program, each shown over the text. -/
import Derived.Test.YtpmfmnopclhmbaaEnv
set_option linter.unusedVariables false
set_option linter.unusedSimpArgs false
set_option maxRecDepth 100000
namespace Go.Proofs.Ytpmfmnopclhmbaa
open Go.Eng
set_option maxHeartbeats 1000000 in
theorem h_laws_szLetter : Ctr.holds E 10 (.reads [aLetter, aInt] [aInt] (fun ((a : DLetter), (q : Int), _) => a.text.length ≤ 9223372036854775807 ∧ QB q) fun ((a : DLetter), (q : Int), _) => (szLetter a q, ())) := by
  refine fn_ok (Γ := []) prgOk gnil Try.func10 rfl rfl rfl rfl ?_
  rintro ty ⟨(a : DLetter), (q : Int), _⟩ (hp : a.text.length ≤ 9223372036854775807 ∧ QB q)
  obtain ⟨hp, hq, hq2⟩ := hp
  have hw : w64 (q - (a.text.length : Int)) = q - (a.text.length : Int) := w64_id (by omega) (by omega)
  refine ⟨[], ?_⟩
  repeat' ((conv => whnf); first | refine toOb2 ?_ | refine And.intro (fun _ => ?_) (fun _ => ?_) | refine And.intro ?_ ?_ | refine toEx2 ?_ | intro _)
  all_goals refine Ob2.mk ?_
  all_goals (try simp only [allP, side, Ctr.reads, dTag_eta, dRoad_eta, dLetter_eta, dAddr_eta, dSub_eta, dHalf_eta, dPiece_eta, dPolicy_eta, dBucket_eta, dOut_eta, dPieces_eta, dEnd_eta, dKnown_eta, dWorld_eta]); all_goals repeat' (first | with_reducible exact rfl | exact trivial | with_reducible assumption | refine And.intro ?_ ?_ | exact (rfl : (_ : SV) = _) | exact (rfl : (_ : List SC) = _) | (show drawOk _ _ _ = true; exact rfl) | (show ((0 : Nat) : Int) = 0; exact rfl))
  all_goals (try simp only [Ctr.reads, dTag_eta, dRoad_eta, dLetter_eta, dAddr_eta, dSub_eta, dHalf_eta, dPiece_eta, dPolicy_eta, dBucket_eta, dOut_eta, dPieces_eta, dEnd_eta, dKnown_eta, dWorld_eta] at *)
  all_goals first | done | trivial | grind [szN, szLetter]
set_option maxHeartbeats 1000000 in
theorem h_laws_toRoad : Ctr.holds E 12 (.reads [aRoad] [aRoad] (fun _ => True) fun (a, _) => (a, ())) := by
  refine fn_ok (Γ := []) prgOk gnil Try.func12 rfl rfl rfl rfl ?_
  rintro ty ⟨a, _⟩ hp
  refine ⟨[], ?_⟩
  repeat' ((conv => whnf); first | refine toOb2 ?_ | refine And.intro (fun _ => ?_) (fun _ => ?_) | refine And.intro ?_ ?_ | refine toEx2 ?_ | intro _)
  all_goals first | exact Ob2.mk trivial | exact Ob2.mk rfl
set_option maxHeartbeats 1000000 in
theorem h_laws_toTag : Ctr.holds E 18 (.reads [aTag] [aTag] (fun _ => True) fun (a, _) => (a, ())) := by
  refine fn_ok (Γ := []) prgOk gnil Try.func18 rfl rfl rfl rfl ?_
  rintro ty ⟨a, _⟩ hp
  refine ⟨[], ?_⟩
  repeat' ((conv => whnf); first | refine toOb2 ?_ | refine And.intro (fun _ => ?_) (fun _ => ?_) | refine And.intro ?_ ?_ | refine toEx2 ?_ | intro _)
  all_goals first | exact Ob2.mk trivial | exact Ob2.mk rfl
set_option maxHeartbeats 1000000 in
theorem h_laws_toLetter : Ctr.holds E 13 (.reads [aLetter] [aLetter] (fun _ => True) fun (a, _) => (a, ())) := by
  refine fn_ok (Γ := [(18, .reads [aTag] [aTag] (fun _ => True) fun (a, _) => (a, ()))]) prgOk (gcons h_laws_toTag gnil) Try.func13 rfl rfl rfl rfl ?_
  rintro ty ⟨a, _⟩ hp
  refine ⟨[], ?_⟩
  repeat' ((conv => whnf); first | refine toOb2 ?_ | refine And.intro (fun _ => ?_) (fun _ => ?_) | refine And.intro ?_ ?_ | refine toEx2 ?_ | intro _)
  all_goals first | exact Ob2.mk trivial | exact Ob2.mk rfl
set_option maxHeartbeats 1000000 in
theorem h_laws_eqTag : Ctr.holds E 19 (.reads [aTag, aTag] [aBool] (fun _ => True) fun ((a : DTag), (b : DTag), _) => (decide (a = b), ())) := by
  refine fn_ok (Γ := []) prgOk gnil Try.func19 rfl rfl rfl rfl ?_
  rintro ty ⟨a, b, _⟩ hp
  refine ⟨[], ?_⟩
  repeat' ((conv => whnf); first | refine toOb2 ?_ | refine And.intro (fun _ => ?_) (fun _ => ?_) | refine And.intro ?_ ?_ | refine toEx2 ?_ | intro _)
  all_goals refine Ob2.mk ?_
  all_goals first | exact trivial | ((try simp only [Ctr.reads, dTag_eta, dRoad_eta, dLetter_eta, dAddr_eta, dSub_eta, dHalf_eta, dPiece_eta, dPolicy_eta, dBucket_eta, dOut_eta, dPieces_eta, dEnd_eta, dKnown_eta, dWorld_eta] at *); rcases a with ⟨⟩; rcases b with ⟨⟩; simp_all [Ctr.reads, aBool])
set_option maxHeartbeats 1000000 in
theorem h_laws_eqLetter : Ctr.holds E 15 (.reads [aLetter, aLetter] [aBool] (fun _ => True) fun ((a : DLetter), (b : DLetter), _) => (decide (a = b), ())) := by
  refine fn_ok (Γ := [(19, .reads [aTag, aTag] [aBool] (fun _ => True) fun ((a : DTag), (b : DTag), _) => (decide (a = b), ()))]) prgOk (gcons h_laws_eqTag gnil) Try.func15 rfl rfl rfl rfl ?_
  rintro ty ⟨a, b, _⟩ hp
  refine ⟨[], ?_⟩
  repeat' ((conv => whnf); first | refine toOb2 ?_ | refine And.intro (fun _ => ?_) (fun _ => ?_) | refine And.intro ?_ ?_ | refine toEx2 ?_ | intro _)
  all_goals refine Ob2.mk ?_
  all_goals first | exact trivial | ((try simp only [Ctr.reads, dTag_eta, dRoad_eta, dLetter_eta, dAddr_eta, dSub_eta, dHalf_eta, dPiece_eta, dPolicy_eta, dBucket_eta, dOut_eta, dPieces_eta, dEnd_eta, dKnown_eta, dWorld_eta] at *); rcases a with ⟨⟩; rcases b with ⟨⟩; simp_all [Ctr.reads, aBool])
end Go.Proofs.Ytpmfmnopclhmbaa
