/- The program of this seat, with the numbers of its types. -/
import Derived.Test.YtnpeomhpbakgnaaM23
import Derived.Test.YtnpeomhpbakgnaaRows
import Derived.KernelRfl
set_option linter.unusedVariables false
set_option linter.unusedSimpArgs false
namespace Go.Proofs.Ytnpeomhpbakgnaa
open Go.Eng
def eid : Eng.ETy → Option TypeId
  | .int => some 3
  | .u8 => some 5
  | .str => some 9
  | .addr => some 57
  | .sub => some 80
  | .half => some 93
  | .piece => some 98
  | .letter => none
  | .tag => none
  | .road => some 78
def rdT : TypeId → Option Eng.ETy
  | 3 => some .int
  | 5 => some .u8
  | 9 => some .str
  | 57 => some .addr
  | 80 => some .sub
  | 93 => some .half
  | 98 => some .piece
  | 78 => some .road
  | _ => none
noncomputable def E : Env := ⟨Try.prog, eid, rdT⟩
set_option maxRecDepth 100000 in
theorem envOk : EnvOk E := fun t e h => by
  cases t <;> first | (cases h; done) | (cases h; exact ⟨_, _, rfl, rfl, rfl, rfl, by decide⟩)
set_option maxRecDepth 100000 in
theorem prgOk : PrgOk E := ⟨envOk, by rfl⟩
end Go.Proofs.Ytnpeomhpbakgnaa
