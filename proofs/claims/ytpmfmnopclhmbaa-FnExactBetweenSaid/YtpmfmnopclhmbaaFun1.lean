/- Contracts of functions of the program, each shown over the text. -/
import Derived.Test.YtpmfmnopclhmbaaHelp
set_option linter.unusedVariables false
set_option linter.unusedSimpArgs false
set_option maxRecDepth 100000
namespace Go.Proofs.Ytpmfmnopclhmbaa
open Go.Eng
set_option maxHeartbeats 1000000 in
theorem h_spec_Between : Ctr.holds E 11 (.reads [aRoad, aLetter] [aLetter] (fun _ => True) fun ((r : DRoad), (x : DLetter), _) => (mBetween r x, ())) := by
  refine fn_ok (Γ := []) prgOk gnil Try.func11 rfl rfl rfl rfl ?_
  rintro ty ⟨(r : DRoad), (x : DLetter), _⟩ hp
  refine ⟨[], ?_⟩
  repeat' ((conv => whnf); first | refine toOb2 ?_ | refine And.intro (fun _ => ?_) (fun _ => ?_) | refine And.intro ?_ ?_ | refine toEx2 ?_ | intro _)
  all_goals first | exact Ob2.mk trivial | exact Ob2.mk rfl
set_option maxHeartbeats 1000000 in
theorem h_impl_Between : Ctr.holds E 14 (.reads [aRoad, aLetter] [aLetter] (fun _ => True) fun ((r : DRoad), (x : DLetter), _) => (mBetween r x, ())) := by
  refine fn_ok (Γ := []) prgOk gnil Try.func14 rfl rfl rfl rfl ?_
  rintro ty ⟨(r : DRoad), (x : DLetter), _⟩ hp
  refine ⟨[], ?_⟩
  repeat' ((conv => whnf); first | refine toOb2 ?_ | refine And.intro (fun _ => ?_) (fun _ => ?_) | refine And.intro ?_ ?_ | refine toEx2 ?_ | intro _)
  all_goals first | exact Ob2.mk trivial | exact Ob2.mk rfl
end Go.Proofs.Ytpmfmnopclhmbaa
