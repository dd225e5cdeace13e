/-
  No cell of these rows narrows 'for every input' (looked for: loops, veiled, ifaces, maps, wideKeys, modest, calm, conditions, laid).
  DERIVED. THE GIVEN ROWS OF THIS SEAT. 8 by the template 'for every input the law returns true; each argument reads behind the call as it read before'; 0 by the template 'total and deterministic' (their statements: YtnpeomhpbakgnaaGreatTotals.lean).
  GIVEN WITH THE SEED: the statements are not yours to turn. If you find one false, say at which input.
  Laid BY PROGRAM, IN A SANDBOX (cutbox-rows.mjs): the forced cells as the released guide's own fill.sh prints them over the translation fa1f4200f5143ac0… (all of the seat's roots in one cut). By AI agents, Wed Nov 11 2026. No macro, syntax, notation, axiom, sorry.
-/
import Derived.Test.YtnpeomhpbakgnaaGreatChecked
import GoSem.Claim
import GoSem.ClaimJoined
import GoSem.ClaimMapViews
import Derived.JoinedTies
import Derived.KernelRfl
namespace Go.Proofs.YtnpeomhpbakgnaaGreat
/- THE CELL 'sum', in the pinned program and in every row, IS THE sha256 OF THE DUMP (.gsa) THAT YtnpeomhpbakgnaaGreatProg.lean LOADS. Nothing in Lean hashes anything: it is a label: what it is worth is what the hold of that sum in a sandbox is worth. -/
noncomputable def Tryz.pinned : Pinned := { name := "ytnpeomhpbakgnaagreat", sum := "fa1f4200f5143ac03c348fb0bb3796cd57ee78e1ca12b1375b7f9e79c3b37ec2", checked := Tryz.checked }
namespace Rows
def none {H : Type} : Left H := { results := [], args := [] }

/-- 'laws.FnTicks': WHATEVER THE INPUT: true; the input reads as it did. -/
def fnTicksSpec : ChangeSpec := { name := "fnTicks", fn := fun _ => fun
  | [d] => { results := [.lit (.bool true)], args := [d] }
  | _ => none }
def fnTicksRow : OpenClaim := { program := "ytnpeomhpbakgnaagreat", sum := "fa1f4200f5143ac03c348fb0bb3796cd57ee78e1ca12b1375b7f9e79c3b37ec2", func := "loop.example/g00967/laws.FnTicks", spec := "fnTicks", apart := false }
def FnTicksSaid : Prop := fnTicksRow.holds Tryz.pinned (OpenSpec.ofChange fnTicksSpec)

/-- ITS FALSE NEIGHBOUR: 'it returns false'. Refute it at one input. -/
def fnTicksWrong : ChangeSpec := { name := "fnTicks", fn := fun _ => fun
  | [d] => { results := [.lit (.bool false)], args := [d] }
  | _ => none }
def FnTicksWrongFalsely : Prop := fnTicksRow.holds Tryz.pinned (OpenSpec.ofChange fnTicksWrong)

/-- 'laws.FnTwice': WHATEVER THE INPUT: true; the input reads as it did. -/
def fnTwiceSpec : ChangeSpec := { name := "fnTwice", fn := fun _ => fun
  | [d] => { results := [.lit (.bool true)], args := [d] }
  | _ => none }
def fnTwiceRow : OpenClaim := { program := "ytnpeomhpbakgnaagreat", sum := "fa1f4200f5143ac03c348fb0bb3796cd57ee78e1ca12b1375b7f9e79c3b37ec2", func := "loop.example/g00967/laws.FnTwice", spec := "fnTwice", apart := false }
def FnTwiceSaid : Prop := fnTwiceRow.holds Tryz.pinned (OpenSpec.ofChange fnTwiceSpec)

/-- ITS FALSE NEIGHBOUR: 'it returns false'. Refute it at one input. -/
def fnTwiceWrong : ChangeSpec := { name := "fnTwice", fn := fun _ => fun
  | [d] => { results := [.lit (.bool false)], args := [d] }
  | _ => none }
def FnTwiceWrongFalsely : Prop := fnTwiceRow.holds Tryz.pinned (OpenSpec.ofChange fnTwiceWrong)

/-- 'laws.FnResets': WHATEVER THE INPUT: true; the input reads as it did. -/
def fnResetsSpec : ChangeSpec := { name := "fnResets", fn := fun _ => fun
  | [d] => { results := [.lit (.bool true)], args := [d] }
  | _ => none }
def fnResetsRow : OpenClaim := { program := "ytnpeomhpbakgnaagreat", sum := "fa1f4200f5143ac03c348fb0bb3796cd57ee78e1ca12b1375b7f9e79c3b37ec2", func := "loop.example/g00967/laws.FnResets", spec := "fnResets", apart := false }
def FnResetsSaid : Prop := fnResetsRow.holds Tryz.pinned (OpenSpec.ofChange fnResetsSpec)

/-- ITS FALSE NEIGHBOUR: 'it returns false'. Refute it at one input. -/
def fnResetsWrong : ChangeSpec := { name := "fnResets", fn := fun _ => fun
  | [d] => { results := [.lit (.bool false)], args := [d] }
  | _ => none }
def FnResetsWrongFalsely : Prop := fnResetsRow.holds Tryz.pinned (OpenSpec.ofChange fnResetsWrong)

/-- 'laws.FnTold': WHATEVER THE INPUT: true; the input reads as it did. -/
def fnToldSpec : ChangeSpec := { name := "fnTold", fn := fun _ => fun
  | [d] => { results := [.lit (.bool true)], args := [d] }
  | _ => none }
def fnToldRow : OpenClaim := { program := "ytnpeomhpbakgnaagreat", sum := "fa1f4200f5143ac03c348fb0bb3796cd57ee78e1ca12b1375b7f9e79c3b37ec2", func := "loop.example/g00967/laws.FnTold", spec := "fnTold", apart := false }
def FnToldSaid : Prop := fnToldRow.holds Tryz.pinned (OpenSpec.ofChange fnToldSpec)

/-- ITS FALSE NEIGHBOUR: 'it returns false'. Refute it at one input. -/
def fnToldWrong : ChangeSpec := { name := "fnTold", fn := fun _ => fun
  | [d] => { results := [.lit (.bool false)], args := [d] }
  | _ => none }
def FnToldWrongFalsely : Prop := fnToldRow.holds Tryz.pinned (OpenSpec.ofChange fnToldWrong)

/-- 'laws.FnManages': WHATEVER THE INPUT: true; the input reads as it did. -/
def fnManagesSpec : ChangeSpec := { name := "fnManages", fn := fun _ => fun
  | [d] => { results := [.lit (.bool true)], args := [d] }
  | _ => none }
def fnManagesRow : OpenClaim := { program := "ytnpeomhpbakgnaagreat", sum := "fa1f4200f5143ac03c348fb0bb3796cd57ee78e1ca12b1375b7f9e79c3b37ec2", func := "loop.example/g00967/laws.FnManages", spec := "fnManages", apart := false }
def FnManagesSaid : Prop := fnManagesRow.holds Tryz.pinned (OpenSpec.ofChange fnManagesSpec)

/-- ITS FALSE NEIGHBOUR: 'it returns false'. Refute it at one input. -/
def fnManagesWrong : ChangeSpec := { name := "fnManages", fn := fun _ => fun
  | [d] => { results := [.lit (.bool false)], args := [d] }
  | _ => none }
def FnManagesWrongFalsely : Prop := fnManagesRow.holds Tryz.pinned (OpenSpec.ofChange fnManagesWrong)

/-- 'laws.FnJoins': WHATEVER THE INPUT: true; the input reads as it did. -/
def fnJoinsSpec : ChangeSpec := { name := "fnJoins", fn := fun _ => fun
  | [d] => { results := [.lit (.bool true)], args := [d] }
  | _ => none }
def fnJoinsRow : OpenClaim := { program := "ytnpeomhpbakgnaagreat", sum := "fa1f4200f5143ac03c348fb0bb3796cd57ee78e1ca12b1375b7f9e79c3b37ec2", func := "loop.example/g00967/laws.FnJoins", spec := "fnJoins", apart := false }
def FnJoinsSaid : Prop := fnJoinsRow.holds Tryz.pinned (OpenSpec.ofChange fnJoinsSpec)

/-- ITS FALSE NEIGHBOUR: 'it returns false'. Refute it at one input. -/
def fnJoinsWrong : ChangeSpec := { name := "fnJoins", fn := fun _ => fun
  | [d] => { results := [.lit (.bool false)], args := [d] }
  | _ => none }
def FnJoinsWrongFalsely : Prop := fnJoinsRow.holds Tryz.pinned (OpenSpec.ofChange fnJoinsWrong)

/-- 'laws.FnData': WHATEVER THE INPUT: true; the input reads as it did. -/
def fnDataSpec : ChangeSpec := { name := "fnData", fn := fun _ => fun
  | [d] => { results := [.lit (.bool true)], args := [d] }
  | _ => none }
def fnDataRow : OpenClaim := { program := "ytnpeomhpbakgnaagreat", sum := "fa1f4200f5143ac03c348fb0bb3796cd57ee78e1ca12b1375b7f9e79c3b37ec2", func := "loop.example/g00967/laws.FnData", spec := "fnData", apart := false }
def FnDataSaid : Prop := fnDataRow.holds Tryz.pinned (OpenSpec.ofChange fnDataSpec)

/-- ITS FALSE NEIGHBOUR: 'it returns false'. Refute it at one input. -/
def fnDataWrong : ChangeSpec := { name := "fnData", fn := fun _ => fun
  | [d] => { results := [.lit (.bool false)], args := [d] }
  | _ => none }
def FnDataWrongFalsely : Prop := fnDataRow.holds Tryz.pinned (OpenSpec.ofChange fnDataWrong)

/-- 'laws.FnForged': WHATEVER THE INPUT: true; the input reads as it did. -/
def fnForgedSpec : ChangeSpec := { name := "fnForged", fn := fun _ => fun
  | [d] => { results := [.lit (.bool true)], args := [d] }
  | _ => none }
def fnForgedRow : OpenClaim := { program := "ytnpeomhpbakgnaagreat", sum := "fa1f4200f5143ac03c348fb0bb3796cd57ee78e1ca12b1375b7f9e79c3b37ec2", func := "loop.example/g00967/laws.FnForged", spec := "fnForged", apart := false }
def FnForgedSaid : Prop := fnForgedRow.holds Tryz.pinned (OpenSpec.ofChange fnForgedSpec)

/-- ITS FALSE NEIGHBOUR: 'it returns false'. Refute it at one input. -/
def fnForgedWrong : ChangeSpec := { name := "fnForged", fn := fun _ => fun
  | [d] => { results := [.lit (.bool false)], args := [d] }
  | _ => none }
def FnForgedWrongFalsely : Prop := fnForgedRow.holds Tryz.pinned (OpenSpec.ofChange fnForgedWrong)

/- THE SECOND FORM. 'bulk': how many values and letters a reading holds, each counted each time it is reached (what is shared counts as often as it is met; a slice's spare places count too). A statement '..UptoSaid' is the law's where the arguments, and the package variables that the reading takes, are together of bulk at most 1048576: NARROWER than '..Said'. Prove '..Said' where nothing that the law and all that it calls make is longer than what came in: it says more and counts as full. Else prove '..UptoSaid'. A law counts once. -/
mutual
def uptoBulk {H : Type} : DataW H → Nat
  | .lit (.string bytes) => bytes.length + 1
  | .lit _ => 1
  | .nil => 1
  | .ptr d => uptoBulk d + 1
  | .slice elems spare => uptoBulkAll elems + uptoBulkAll spare + 1
  | .agg parts => uptoBulkAll parts + 1
  | .iface _ d => uptoBulk d + 1
  | .map entries => uptoBulkEntries entries + 1
  | .held _ => 1
def uptoBulkAll {H : Type} : List (DataW H) → Nat
  | [] => 0
  | d :: r => uptoBulk d + uptoBulkAll r
def uptoBulkEntries {H : Type} : List (Lit × DataW H) → Nat
  | [] => 0
  | x :: r => uptoBulkEntry x + uptoBulkEntries r
def uptoBulkEntry {H : Type} : Lit × DataW H → Nat
  | (.string bytes, d) => bytes.length + uptoBulk d + 1
  | (_, d) => uptoBulk d + 1
 end
def uptoSmall : (H : Type) → List (DataW H) → Bool := fun _ ds => decide (uptoBulkAll ds ≤ 1048576)
def OpenSpec.upto (s : _root_.Go.ChangeSpec) : _root_.Go.OpenSpec := { _root_.Go.OpenSpec.ofChange s with cond := some uptoSmall }

/-- 'laws.FnTicks', WHERE WHAT IT READS IS OF BULK AT MOST 1048576: true; the input reads as it did. -/
def fnTicksUptoRow : OpenClaim := { program := "ytnpeomhpbakgnaagreat", sum := "fa1f4200f5143ac03c348fb0bb3796cd57ee78e1ca12b1375b7f9e79c3b37ec2", func := "loop.example/g00967/laws.FnTicks", spec := "fnTicks", apart := false, narrowed := true }
def FnTicksUptoSaid : Prop := fnTicksUptoRow.holds Tryz.pinned (OpenSpec.upto fnTicksSpec)

/-- 'laws.FnTwice', WHERE WHAT IT READS IS OF BULK AT MOST 1048576: true; the input reads as it did. -/
def fnTwiceUptoRow : OpenClaim := { program := "ytnpeomhpbakgnaagreat", sum := "fa1f4200f5143ac03c348fb0bb3796cd57ee78e1ca12b1375b7f9e79c3b37ec2", func := "loop.example/g00967/laws.FnTwice", spec := "fnTwice", apart := false, narrowed := true }
def FnTwiceUptoSaid : Prop := fnTwiceUptoRow.holds Tryz.pinned (OpenSpec.upto fnTwiceSpec)

/-- 'laws.FnResets', WHERE WHAT IT READS IS OF BULK AT MOST 1048576: true; the input reads as it did. -/
def fnResetsUptoRow : OpenClaim := { program := "ytnpeomhpbakgnaagreat", sum := "fa1f4200f5143ac03c348fb0bb3796cd57ee78e1ca12b1375b7f9e79c3b37ec2", func := "loop.example/g00967/laws.FnResets", spec := "fnResets", apart := false, narrowed := true }
def FnResetsUptoSaid : Prop := fnResetsUptoRow.holds Tryz.pinned (OpenSpec.upto fnResetsSpec)

/-- 'laws.FnTold', WHERE WHAT IT READS IS OF BULK AT MOST 1048576: true; the input reads as it did. -/
def fnToldUptoRow : OpenClaim := { program := "ytnpeomhpbakgnaagreat", sum := "fa1f4200f5143ac03c348fb0bb3796cd57ee78e1ca12b1375b7f9e79c3b37ec2", func := "loop.example/g00967/laws.FnTold", spec := "fnTold", apart := false, narrowed := true }
def FnToldUptoSaid : Prop := fnToldUptoRow.holds Tryz.pinned (OpenSpec.upto fnToldSpec)

/-- 'laws.FnManages', WHERE WHAT IT READS IS OF BULK AT MOST 1048576: true; the input reads as it did. -/
def fnManagesUptoRow : OpenClaim := { program := "ytnpeomhpbakgnaagreat", sum := "fa1f4200f5143ac03c348fb0bb3796cd57ee78e1ca12b1375b7f9e79c3b37ec2", func := "loop.example/g00967/laws.FnManages", spec := "fnManages", apart := false, narrowed := true }
def FnManagesUptoSaid : Prop := fnManagesUptoRow.holds Tryz.pinned (OpenSpec.upto fnManagesSpec)

/-- 'laws.FnJoins', WHERE WHAT IT READS IS OF BULK AT MOST 1048576: true; the input reads as it did. -/
def fnJoinsUptoRow : OpenClaim := { program := "ytnpeomhpbakgnaagreat", sum := "fa1f4200f5143ac03c348fb0bb3796cd57ee78e1ca12b1375b7f9e79c3b37ec2", func := "loop.example/g00967/laws.FnJoins", spec := "fnJoins", apart := false, narrowed := true }
def FnJoinsUptoSaid : Prop := fnJoinsUptoRow.holds Tryz.pinned (OpenSpec.upto fnJoinsSpec)

/-- 'laws.FnData', WHERE WHAT IT READS IS OF BULK AT MOST 1048576: true; the input reads as it did. -/
def fnDataUptoRow : OpenClaim := { program := "ytnpeomhpbakgnaagreat", sum := "fa1f4200f5143ac03c348fb0bb3796cd57ee78e1ca12b1375b7f9e79c3b37ec2", func := "loop.example/g00967/laws.FnData", spec := "fnData", apart := false, narrowed := true }
def FnDataUptoSaid : Prop := fnDataUptoRow.holds Tryz.pinned (OpenSpec.upto fnDataSpec)

/-- 'laws.FnForged', WHERE WHAT IT READS IS OF BULK AT MOST 1048576: true; the input reads as it did. -/
def fnForgedUptoRow : OpenClaim := { program := "ytnpeomhpbakgnaagreat", sum := "fa1f4200f5143ac03c348fb0bb3796cd57ee78e1ca12b1375b7f9e79c3b37ec2", func := "loop.example/g00967/laws.FnForged", spec := "fnForged", apart := false, narrowed := true }
def FnForgedUptoSaid : Prop := fnForgedUptoRow.holds Tryz.pinned (OpenSpec.upto fnForgedSpec)

end Rows
end Go.Proofs.YtnpeomhpbakgnaaGreat
