/-
  No cell of these rows narrows 'for every input' (looked for: loops, veiled, ifaces, maps, wideKeys, modest, calm, conditions, laid).
  DERIVED. THE GIVEN ROWS OF THIS SEAT. 3 by the template 'for every input the law returns true; each argument reads behind the call as it read before'; 0 by the template 'total and deterministic' (their statements: YtpmfmnopclhmbaaTotals.lean).
  GIVEN WITH THE SEED: the statements are not yours to turn. If you find one false, say at which input.
  Laid BY PROGRAM, IN A SANDBOX (cutbox-rows.mjs): the forced cells as the released guide's own fill.sh prints them over the translation 56a6e591c82d1840… (all of the seat's roots in one cut). By AI agents, Wed Nov 11 2026. No macro, syntax, notation, axiom, sorry.
-/
import Derived.Test.YtpmfmnopclhmbaaChecked
import GoSem.Claim
import GoSem.ClaimJoined
import GoSem.ClaimMapViews
import Derived.JoinedTies
import Derived.KernelRfl
namespace Go.Proofs.Ytpmfmnopclhmbaa
/- THE CELL 'sum', in the pinned program and in every row, IS THE sha256 OF THE DUMP (.gsa) THAT YtpmfmnopclhmbaaProg.lean LOADS. Nothing in Lean hashes anything: it is a label: what it is worth is what the hold of that sum in a sandbox is worth. -/
noncomputable def Try.pinned : Pinned := { name := "ytpmfmnopclhmbaa", sum := "56a6e591c82d184017951f26d07d01f592e81658bc91614695ffbbba28a45b60", checked := Try.checked }
namespace Rows
def none {H : Type} : Left H := { results := [], args := [] }

/-- 'laws.FnExactTokenFor': WHATEVER THE INPUT: true; the input reads as it did. -/
def fnExactTokenForSpec : ChangeSpec := { name := "fnExactTokenFor", fn := fun _ => fun
  | [d] => { results := [.lit (.bool true)], args := [d] }
  | _ => none }
def fnExactTokenForRow : OpenClaim := { program := "ytpmfmnopclhmbaa", sum := "56a6e591c82d184017951f26d07d01f592e81658bc91614695ffbbba28a45b60", func := "loop.example/g00967/laws.FnExactTokenFor", spec := "fnExactTokenFor", apart := false }
def FnExactTokenForSaid : Prop := fnExactTokenForRow.holds Try.pinned (OpenSpec.ofChange fnExactTokenForSpec)

/-- ITS FALSE NEIGHBOUR: 'it returns false'. Refute it at one input. -/
def fnExactTokenForWrong : ChangeSpec := { name := "fnExactTokenFor", fn := fun _ => fun
  | [d] => { results := [.lit (.bool false)], args := [d] }
  | _ => none }
def FnExactTokenForWrongFalsely : Prop := fnExactTokenForRow.holds Try.pinned (OpenSpec.ofChange fnExactTokenForWrong)

/-- 'laws.FnExactSideAt': WHATEVER THE INPUT: true; the input reads as it did. -/
def fnExactSideAtSpec : ChangeSpec := { name := "fnExactSideAt", fn := fun _ => fun
  | [d] => { results := [.lit (.bool true)], args := [d] }
  | _ => none }
def fnExactSideAtRow : OpenClaim := { program := "ytpmfmnopclhmbaa", sum := "56a6e591c82d184017951f26d07d01f592e81658bc91614695ffbbba28a45b60", func := "loop.example/g00967/laws.FnExactSideAt", spec := "fnExactSideAt", apart := false }
def FnExactSideAtSaid : Prop := fnExactSideAtRow.holds Try.pinned (OpenSpec.ofChange fnExactSideAtSpec)

/-- ITS FALSE NEIGHBOUR: 'it returns false'. Refute it at one input. -/
def fnExactSideAtWrong : ChangeSpec := { name := "fnExactSideAt", fn := fun _ => fun
  | [d] => { results := [.lit (.bool false)], args := [d] }
  | _ => none }
def FnExactSideAtWrongFalsely : Prop := fnExactSideAtRow.holds Try.pinned (OpenSpec.ofChange fnExactSideAtWrong)

/-- 'laws.FnExactBetween': WHATEVER THE INPUT: true; the input reads as it did. -/
def fnExactBetweenSpec : ChangeSpec := { name := "fnExactBetween", fn := fun _ => fun
  | [d1, d2] => { results := [.lit (.bool true)], args := [d1, d2] }
  | _ => none }
def fnExactBetweenRow : OpenClaim := { program := "ytpmfmnopclhmbaa", sum := "56a6e591c82d184017951f26d07d01f592e81658bc91614695ffbbba28a45b60", func := "loop.example/g00967/laws.FnExactBetween", spec := "fnExactBetween", apart := false }
def FnExactBetweenSaid : Prop := fnExactBetweenRow.holds Try.pinned (OpenSpec.ofChange fnExactBetweenSpec)

/-- ITS FALSE NEIGHBOUR: 'it returns false'. Refute it at one input. -/
def fnExactBetweenWrong : ChangeSpec := { name := "fnExactBetween", fn := fun _ => fun
  | [d1, d2] => { results := [.lit (.bool false)], args := [d1, d2] }
  | _ => none }
def FnExactBetweenWrongFalsely : Prop := fnExactBetweenRow.holds Try.pinned (OpenSpec.ofChange fnExactBetweenWrong)

/- THE SECOND FORM. 'bulk': how many values and letters a reading holds, each counted each time it is reached (what is shared counts as often as it is met; a slice's spare places count too). A statement '..UptoSaid' is the law's where the arguments, and the package variables that the reading takes, are together of bulk at most 1048576: NARROWER than '..Said'. Prove '..Said' where nothing that the law and all that it calls make is longer than what came in: it says more and counts as full. Else prove '..UptoSaid'. A law counts once. -/
mutual
def uptoBulk {H : Type} : DataW H → Nat
  | .lit (.string bytes) => bytes.length + 1
  | .lit _ => 1
  | .nil => 1
  | .ptr d => uptoBulk d + 1
  | .slice elems spare => uptoBulkAll elems + uptoBulkAll spare + 1
  | .agg parts => uptoBulkAll parts + 1
  | .iface _ d => uptoBulk d + 1
  | .map entries => uptoBulkEntries entries + 1
  | .held _ => 1
def uptoBulkAll {H : Type} : List (DataW H) → Nat
  | [] => 0
  | d :: r => uptoBulk d + uptoBulkAll r
def uptoBulkEntries {H : Type} : List (Lit × DataW H) → Nat
  | [] => 0
  | x :: r => uptoBulkEntry x + uptoBulkEntries r
def uptoBulkEntry {H : Type} : Lit × DataW H → Nat
  | (.string bytes, d) => bytes.length + uptoBulk d + 1
  | (_, d) => uptoBulk d + 1
 end
def uptoSmall : (H : Type) → List (DataW H) → Bool := fun _ ds => decide (uptoBulkAll ds ≤ 1048576)
def OpenSpec.upto (s : _root_.Go.ChangeSpec) : _root_.Go.OpenSpec := { _root_.Go.OpenSpec.ofChange s with cond := some uptoSmall }

/-- 'laws.FnExactTokenFor', WHERE WHAT IT READS IS OF BULK AT MOST 1048576: true; the input reads as it did. -/
def fnExactTokenForUptoRow : OpenClaim := { program := "ytpmfmnopclhmbaa", sum := "56a6e591c82d184017951f26d07d01f592e81658bc91614695ffbbba28a45b60", func := "loop.example/g00967/laws.FnExactTokenFor", spec := "fnExactTokenFor", apart := false, narrowed := true }
def FnExactTokenForUptoSaid : Prop := fnExactTokenForUptoRow.holds Try.pinned (OpenSpec.upto fnExactTokenForSpec)

/-- 'laws.FnExactSideAt', WHERE WHAT IT READS IS OF BULK AT MOST 1048576: true; the input reads as it did. -/
def fnExactSideAtUptoRow : OpenClaim := { program := "ytpmfmnopclhmbaa", sum := "56a6e591c82d184017951f26d07d01f592e81658bc91614695ffbbba28a45b60", func := "loop.example/g00967/laws.FnExactSideAt", spec := "fnExactSideAt", apart := false, narrowed := true }
def FnExactSideAtUptoSaid : Prop := fnExactSideAtUptoRow.holds Try.pinned (OpenSpec.upto fnExactSideAtSpec)

/-- 'laws.FnExactBetween', WHERE WHAT IT READS IS OF BULK AT MOST 1048576: true; the input reads as it did. -/
def fnExactBetweenUptoRow : OpenClaim := { program := "ytpmfmnopclhmbaa", sum := "56a6e591c82d184017951f26d07d01f592e81658bc91614695ffbbba28a45b60", func := "loop.example/g00967/laws.FnExactBetween", spec := "fnExactBetween", apart := false, narrowed := true }
def FnExactBetweenUptoSaid : Prop := fnExactBetweenUptoRow.holds Try.pinned (OpenSpec.upto fnExactBetweenSpec)

end Rows
end Go.Proofs.Ytpmfmnopclhmbaa
