/- The program of this seat, with the numbers of its types. -/
import Derived.Test.YtpmfmnopclhmbaaM2
import Derived.Test.YtpmfmnopclhmbaaRows
import Derived.KernelRfl
set_option linter.unusedVariables false
set_option linter.unusedSimpArgs false
namespace Go.Proofs.Ytpmfmnopclhmbaa
open Go.Eng
def eid : Eng.ETy → Option TypeId
  | .int => some 3
  | .u8 => some 5
  | .str => some 9
  | .addr => none
  | .sub => none
  | .half => none
  | .piece => none
  | .letter => some 33
  | .tag => some 31
  | .road => some 35
def rdT : TypeId → Option Eng.ETy
  | 3 => some .int
  | 5 => some .u8
  | 9 => some .str
  | 33 => some .letter
  | 29 => some .letter
  | 31 => some .tag
  | 27 => some .tag
  | 35 => some .road
  | 25 => some .road
  | _ => none
noncomputable def E : Env := ⟨Try.prog, eid, rdT⟩
set_option maxRecDepth 100000 in
theorem envOk : EnvOk E := fun t e h => by
  cases t <;> first | (cases h; done) | (cases h; exact ⟨_, _, rfl, rfl, rfl, rfl, by decide⟩)
set_option maxRecDepth 100000 in
theorem prgOk : PrgOk E := ⟨envOk, by rfl⟩
end Go.Proofs.Ytpmfmnopclhmbaa
