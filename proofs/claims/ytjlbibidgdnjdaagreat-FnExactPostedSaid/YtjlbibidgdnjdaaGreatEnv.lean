/- The program of this seat, with the numbers of its types. -/
import Derived.Test.YtjlbibidgdnjdaaGreatM21
import Derived.Test.YtjlbibidgdnjdaaGreatRows
import Derived.KernelRfl
set_option linter.unusedVariables false
set_option linter.unusedSimpArgs false
namespace Go.Proofs.YtjlbibidgdnjdaaGreat
open Go.Eng
def eid : Eng.ETy → Option TypeId
  | .int => some 3
  | .u8 => some 5
  | .str => some 9
  | .addr => some 138
  | .sub => some 141
  | .half => some 171
  | .piece => some 164
  | .letter => some 60
  | .tag => some 58
  | .road => some 75
def rdT : TypeId → Option Eng.ETy
  | 3 => some .int
  | 5 => some .u8
  | 9 => some .str
  | 138 => some .addr
  | 213 => some .addr
  | 141 => some .sub
  | 216 => some .sub
  | 171 => some .half
  | 219 => some .half
  | 164 => some .piece
  | 247 => some .piece
  | 60 => some .letter
  | 40 => some .letter
  | 58 => some .tag
  | 38 => some .tag
  | 75 => some .road
  | 73 => some .road
  | _ => none
noncomputable def E : Env := ⟨Tryz.prog, eid, rdT⟩
set_option maxRecDepth 100000 in
theorem envOk : EnvOk E := fun t e h => by
  cases t <;> first | (cases h; done) | (cases h; exact ⟨_, _, rfl, rfl, rfl, rfl, by decide⟩)
set_option maxRecDepth 100000 in
theorem prgOk : PrgOk E := ⟨envOk, by rfl⟩
end Go.Proofs.YtjlbibidgdnjdaaGreat
