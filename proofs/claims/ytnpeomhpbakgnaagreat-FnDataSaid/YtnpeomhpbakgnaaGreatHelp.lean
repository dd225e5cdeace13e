/- Contracts of functions of the program, each shown over the text. -/
import Derived.Test.YtnpeomhpbakgnaaGreatEnv
set_option linter.unusedVariables false
set_option linter.unusedSimpArgs false
set_option maxRecDepth 100000
namespace Go.Proofs.YtnpeomhpbakgnaaGreat
open Go.Eng
set_option maxHeartbeats 1000000 in
theorem h_laws_big : Ctr.holds E 11 (.reads [aRow .u8] [aBool] (fun ((b : List Int), _) => b.length ≤ 9223372036854775807) fun ((b : List Int), _) => (decide ((b.length : Int) > 1048576), ())) := by
  refine fn_ok (Γ := []) prgOk gnil Tryz.func11 rfl rfl rfl rfl ?_
  rintro ty ⟨(b : List Int), _⟩ hp
  refine ⟨[], ?_⟩
  repeat' ((conv => whnf); first | refine toOb2 ?_ | refine And.intro (fun _ => ?_) (fun _ => ?_) | refine And.intro ?_ ?_ | refine toEx2 ?_ | intro _)
  all_goals first | refine Ob2.mk ?_ | (show drawOk _ _ _ = true; exact rfl)
  all_goals (try simp only [allP, side, Ctr.reads, etas]); all_goals repeat' (first | with_reducible exact rfl | exact trivial | with_reducible assumption | refine And.intro ?_ ?_ | exact rSV | exact rSC | (show drawOk _ _ _ = true; exact rfl) | exact r00)
  all_goals (try simp only [Ctr.reads, etas] at *)
  all_goals (try simp only [nbls] at *)
  all_goals first | done | with_reducible assumption | with_reducible rfl | omega | grind []
end Go.Proofs.YtnpeomhpbakgnaaGreat
