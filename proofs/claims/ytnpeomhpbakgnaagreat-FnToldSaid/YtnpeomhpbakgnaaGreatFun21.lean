/- Contracts of functions of the program, each shown over the text. -/
import Derived.Test.YtnpeomhpbakgnaaGreatFun19
set_option linter.unusedVariables false
set_option linter.unusedSimpArgs false
set_option maxRecDepth 100000
namespace Go.Proofs.YtnpeomhpbakgnaaGreat
open Go.Eng
set_option maxHeartbeats 1000000 in
theorem h_spec_DrawTwo : Ctr.holds E 26 (.reads [aRow .u8] [aEnd, aEnd] (fun ((b : List Int), _) => b.length ≤ 1073741824) fun ((b : List Int), _) => ((mEnds (mCur b)).2.1, (mEnds (mCur b)).2.2, ())) := by
  refine fn_ok (Γ := [(69, ⟨[aRow .u8], [.ro], [aIH], (fun ((b : List Int), _) => b.length ≤ 1073741824), (fun ((b : List Int), _) => (mNew b, ())), fun x => x, false, .new 157⟩), (116, ⟨[aCur], [.ref], [aEnd, aEnd], (fun ((c : DCur), _) => c.B), (fun ((c : DCur), _) => ((mEnds c).2.1, (mEnds c).2.2, ())), (fun ((c : DCur), _) => ((mEnds c).1, ())), false, .ret⟩)]) prgOk (gcons h_spec_l01New (gcons h_spec_l22Ends gnil)) Tryz.func26 rfl rfl rfl rfl ?_
  rintro ty ⟨(b : List Int), _⟩ (hp : b.length ≤ 1073741824)
  have hb1 := mCur_B hp
  obtain ⟨_, _, _⟩ := id hb1
  have hb2 := mEnds_B hb1
  obtain ⟨_, _, _⟩ := id hb2
  have hn0 : (mNew b).i = 0 := rfl
  refine ⟨[], ?_⟩
  repeat' ((conv => whnf); first | refine toOb2 ?_ | refine And.intro (fun _ => ?_) (fun _ => ?_) | refine And.intro ?_ ?_ | refine toEx2 ?_ | refine toY ?_ | intro _)
  all_goals first | refine Ob2.mk ?_ | (show drawOk _ _ _ = true; exact rfl)
  all_goals (try simp only [allP, side, Ctr.reads, etas]); all_goals repeat' (first | with_reducible exact rfl | exact trivial | with_reducible assumption | refine And.intro ?_ ?_ | exact rSV | exact rSC | (show drawOk _ _ _ = true; exact rfl) | exact r00)
  all_goals (try simp only [dCur_eta, dCur_fold, mByteC_b, mBelowC_b, mPickIntC_b, mDPolC_b, mDAny1C_b, mDAnyC_b, dAddrC_b, dRoadC_b, dHalf5C_b, dHalfC_b, dTagC_b, dTextC_b, mCur_b, mCur_fold, mEnds_b, Ctr.reads, etas] at *)
  all_goals (try simp only [nbls] at *)
  all_goals first | done | with_reducible assumption | with_reducible rfl | omega | grind []
end Go.Proofs.YtnpeomhpbakgnaaGreat
