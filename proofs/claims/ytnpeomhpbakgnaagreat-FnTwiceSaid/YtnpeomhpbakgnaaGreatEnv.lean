/- The program of this seat, with the numbers of its types. -/
import Derived.Test.YtnpeomhpbakgnaaGreatMod3
import Derived.Test.YtnpeomhpbakgnaaGreatRows
import Derived.KernelRfl
set_option linter.unusedVariables false
set_option linter.unusedSimpArgs false
namespace Go.Proofs.YtnpeomhpbakgnaaGreat
open Go.Eng
def eid : Eng.ETy → Option TypeId
  | .int => some 3
  | .u8 => some 5
  | .str => some 9
  | .addr => some 71
  | .sub => some 65
  | .half => some 49
  | .piece => some 143
  | .letter => some 54
  | .tag => some 52
  | .road => some 47
def rdT : TypeId → Option Eng.ETy
  | 3 => some .int
  | 5 => some .u8
  | 9 => some .str
  | 71 => some .addr
  | 65 => some .sub
  | 49 => some .half
  | 143 => some .piece
  | 54 => some .letter
  | 52 => some .tag
  | 47 => some .road
  | _ => none
noncomputable def E : Env := ⟨Tryz.prog, eid, rdT⟩
set_option maxRecDepth 100000 in
theorem envOk : EnvOk E := fun t e h => by
  cases t <;> first | (cases h; done) | (cases h; exact ⟨_, _, rfl, rfl, rfl, rfl, by decide⟩)
set_option maxRecDepth 100000 in
theorem prgOk : PrgOk E := ⟨envOk, by rfl⟩
end Go.Proofs.YtnpeomhpbakgnaaGreat
