/- Contracts of functions of the program, each shown over the text. -/
import Derived.Test.YtnpeomhpbakgnaaGreatFun25
set_option linter.unusedVariables false
set_option linter.unusedSimpArgs false
set_option maxRecDepth 100000
set_option maxHeartbeats 1000000
namespace Go.Proofs.YtnpeomhpbakgnaaGreat
open Go.Eng
theorem h_spec_DrawHear : Ctr.holds E 19 (.reads [aRow .u8] [aEnd, aLetter] (fun ((b : List Int), _) => b.length ≤ 1073741824) fun ((b : List Int), _) => (hE b, hX (w64 (1 + (b.length : Int).tmod 13)) b, ())) := by
  refine fn_ok prgOk (gcons h_spec_l19Hears gnil) Tryz.func19 rfl rfl rfl rfl ?_
  rintro ty ⟨(b : List Int), _⟩ (hp : b.length ≤ 1073741824)
  refine ⟨[], ?_⟩
  repeat' ((conv => whnf); first | refine toOb2 ?_ | refine And.intro (fun _ => ?_) (fun _ => ?_) | refine And.intro ?_ ?_ | refine toEx2 ?_ | refine toY ?_ | intro _)
  all_goals first | refine Ob2.mk ?_ | (show drawOk _ _ _ = true; exact rfl)
  all_goals (try simp only [allP, side, Ctr.reads, etas]); all_goals repeat' (first | exact sp1 | refine And.intro ?_ ?_)
  all_goals (try simp only [Ctr.reads, etas] at *)
  all_goals (try simp only [nbls] at *)
  all_goals first | done | with_reducible assumption | with_reducible rfl | omega | grind []
end Go.Proofs.YtnpeomhpbakgnaaGreat
