/- The program of this seat, with the numbers of its types. -/
import Derived.Test.YtjlbibidgdnjdaaM15
import Derived.Test.YtjlbibidgdnjdaaRows
import Derived.KernelRfl
set_option linter.unusedVariables false
set_option linter.unusedSimpArgs false
namespace Go.Proofs.Ytjlbibidgdnjdaa
open Go.Eng
def eid : Eng.ETy → Option TypeId
  | .int => some 3
  | .u8 => some 5
  | .str => some 9
  | .addr => some 111
  | .sub => some 140
  | .half => some 188
  | .piece => some 201
  | .letter => some 67
  | .tag => some 65
  | .road => some 56
def rdT : TypeId → Option Eng.ETy
  | 3 => some .int
  | 5 => some .u8
  | 9 => some .str
  | 111 => some .addr
  | 109 => some .addr
  | 140 => some .sub
  | 186 => some .sub
  | 188 => some .half
  | 191 => some .half
  | 201 => some .piece
  | 213 => some .piece
  | 67 => some .letter
  | 62 => some .letter
  | 65 => some .tag
  | 60 => some .tag
  | 56 => some .road
  | 54 => some .road
  | _ => none
noncomputable def E : Env := ⟨Try.prog, eid, rdT⟩
set_option maxRecDepth 100000 in
theorem envOk : EnvOk E := fun t e h => by
  cases t <;> first | (cases h; done) | (cases h; exact ⟨_, _, rfl, rfl, rfl, rfl, by decide⟩)
set_option maxRecDepth 100000 in
theorem prgOk : PrgOk E := ⟨envOk, by rfl⟩
end Go.Proofs.Ytjlbibidgdnjdaa
