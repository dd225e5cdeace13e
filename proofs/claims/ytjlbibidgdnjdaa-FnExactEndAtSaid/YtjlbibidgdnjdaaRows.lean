/-
  No cell of these rows narrows 'for every input' (looked for: loops, veiled, ifaces, maps, wideKeys, modest, calm, conditions, laid).
  DERIVED. THE GIVEN ROWS OF THIS SEAT. 15 by the template 'for every input the law returns true; each argument reads behind the call as it read before'; 0 by the template 'total and deterministic' (their statements: YtjlbibidgdnjdaaTotals.lean).
  GIVEN WITH THE SEED: the statements are not yours to turn. If you find one false, say at which input.
  Laid BY PROGRAM, IN A SANDBOX (cutbox-rows.mjs): the forced cells as the released guide's own fill.sh prints them over the translation 2adf61b830a7b341… (all of the seat's roots in one cut). By AI agents, Wed Nov 11 2026. No macro, syntax, notation, axiom, sorry.
-/
import Derived.Test.YtjlbibidgdnjdaaChecked
import GoSem.Claim
import GoSem.ClaimJoined
import GoSem.ClaimMapViews
import Derived.JoinedTies
import Derived.KernelRfl
namespace Go.Proofs.Ytjlbibidgdnjdaa
/- THE CELL 'sum', in the pinned program and in every row, IS THE sha256 OF THE DUMP (.gsa) THAT YtjlbibidgdnjdaaProg.lean LOADS. Nothing in Lean hashes anything: it is a label: what it is worth is what the hold of that sum in a sandbox is worth. -/
noncomputable def Try.pinned : Pinned := { name := "ytjlbibidgdnjdaa", sum := "2adf61b830a7b34142502d7efbd87175d7c662b70fab702b0e4f291c877ecb64", checked := Try.checked }
namespace Rows
def none {H : Type} : Left H := { results := [], args := [] }

/-- 'laws.FnExactOwnsAddr': WHATEVER THE INPUT: true; the input reads as it did. -/
def fnExactOwnsAddrSpec : ChangeSpec := { name := "fnExactOwnsAddr", fn := fun _ => fun
  | [d1, d2] => { results := [.lit (.bool true)], args := [d1, d2] }
  | _ => none }
def fnExactOwnsAddrRow : OpenClaim := { program := "ytjlbibidgdnjdaa", sum := "2adf61b830a7b34142502d7efbd87175d7c662b70fab702b0e4f291c877ecb64", func := "loop.example/g00967/laws.FnExactOwnsAddr", spec := "fnExactOwnsAddr", apart := false }
def FnExactOwnsAddrSaid : Prop := fnExactOwnsAddrRow.holds Try.pinned (OpenSpec.ofChange fnExactOwnsAddrSpec)

/-- ITS FALSE NEIGHBOUR: 'it returns false'. Refute it at one input. -/
def fnExactOwnsAddrWrong : ChangeSpec := { name := "fnExactOwnsAddr", fn := fun _ => fun
  | [d1, d2] => { results := [.lit (.bool false)], args := [d1, d2] }
  | _ => none }
def FnExactOwnsAddrWrongFalsely : Prop := fnExactOwnsAddrRow.holds Try.pinned (OpenSpec.ofChange fnExactOwnsAddrWrong)

/-- 'laws.FnExactSubAt': WHATEVER THE INPUT: true; the input reads as it did. -/
def fnExactSubAtSpec : ChangeSpec := { name := "fnExactSubAt", fn := fun _ => fun
  | [d1, d2] => { results := [.lit (.bool true)], args := [d1, d2] }
  | _ => none }
def fnExactSubAtRow : OpenClaim := { program := "ytjlbibidgdnjdaa", sum := "2adf61b830a7b34142502d7efbd87175d7c662b70fab702b0e4f291c877ecb64", func := "loop.example/g00967/laws.FnExactSubAt", spec := "fnExactSubAt", apart := false }
def FnExactSubAtSaid : Prop := fnExactSubAtRow.holds Try.pinned (OpenSpec.ofChange fnExactSubAtSpec)

/-- ITS FALSE NEIGHBOUR: 'it returns false'. Refute it at one input. -/
def fnExactSubAtWrong : ChangeSpec := { name := "fnExactSubAt", fn := fun _ => fun
  | [d1, d2] => { results := [.lit (.bool false)], args := [d1, d2] }
  | _ => none }
def FnExactSubAtWrongFalsely : Prop := fnExactSubAtRow.holds Try.pinned (OpenSpec.ofChange fnExactSubAtWrong)

/-- 'laws.FnExactSignedOn': WHATEVER THE INPUT: true; the input reads as it did. -/
def fnExactSignedOnSpec : ChangeSpec := { name := "fnExactSignedOn", fn := fun _ => fun
  | [d1, d2] => { results := [.lit (.bool true)], args := [d1, d2] }
  | _ => none }
def fnExactSignedOnRow : OpenClaim := { program := "ytjlbibidgdnjdaa", sum := "2adf61b830a7b34142502d7efbd87175d7c662b70fab702b0e4f291c877ecb64", func := "loop.example/g00967/laws.FnExactSignedOn", spec := "fnExactSignedOn", apart := false }
def FnExactSignedOnSaid : Prop := fnExactSignedOnRow.holds Try.pinned (OpenSpec.ofChange fnExactSignedOnSpec)

/-- ITS FALSE NEIGHBOUR: 'it returns false'. Refute it at one input. -/
def fnExactSignedOnWrong : ChangeSpec := { name := "fnExactSignedOn", fn := fun _ => fun
  | [d1, d2] => { results := [.lit (.bool false)], args := [d1, d2] }
  | _ => none }
def FnExactSignedOnWrongFalsely : Prop := fnExactSignedOnRow.holds Try.pinned (OpenSpec.ofChange fnExactSignedOnWrong)

/-- 'laws.FnExactOnOf': WHATEVER THE INPUT: true; the input reads as it did. -/
def fnExactOnOfSpec : ChangeSpec := { name := "fnExactOnOf", fn := fun _ => fun
  | [d] => { results := [.lit (.bool true)], args := [d] }
  | _ => none }
def fnExactOnOfRow : OpenClaim := { program := "ytjlbibidgdnjdaa", sum := "2adf61b830a7b34142502d7efbd87175d7c662b70fab702b0e4f291c877ecb64", func := "loop.example/g00967/laws.FnExactOnOf", spec := "fnExactOnOf", apart := false }
def FnExactOnOfSaid : Prop := fnExactOnOfRow.holds Try.pinned (OpenSpec.ofChange fnExactOnOfSpec)

/-- ITS FALSE NEIGHBOUR: 'it returns false'. Refute it at one input. -/
def fnExactOnOfWrong : ChangeSpec := { name := "fnExactOnOf", fn := fun _ => fun
  | [d] => { results := [.lit (.bool false)], args := [d] }
  | _ => none }
def FnExactOnOfWrongFalsely : Prop := fnExactOnOfRow.holds Try.pinned (OpenSpec.ofChange fnExactOnOfWrong)

/-- 'laws.FnExactEndNew': WHATEVER THE INPUT: true; the input reads as it did. -/
def fnExactEndNewSpec : ChangeSpec := { name := "fnExactEndNew", fn := fun _ => fun
  | [d1, d2, d3] => { results := [.lit (.bool true)], args := [d1, d2, d3] }
  | _ => none }
def fnExactEndNewRow : OpenClaim := { program := "ytjlbibidgdnjdaa", sum := "2adf61b830a7b34142502d7efbd87175d7c662b70fab702b0e4f291c877ecb64", func := "loop.example/g00967/laws.FnExactEndNew", spec := "fnExactEndNew", apart := false }
def FnExactEndNewSaid : Prop := fnExactEndNewRow.holds Try.pinned (OpenSpec.ofChange fnExactEndNewSpec)

/-- ITS FALSE NEIGHBOUR: 'it returns false'. Refute it at one input. -/
def fnExactEndNewWrong : ChangeSpec := { name := "fnExactEndNew", fn := fun _ => fun
  | [d1, d2, d3] => { results := [.lit (.bool false)], args := [d1, d2, d3] }
  | _ => none }
def FnExactEndNewWrongFalsely : Prop := fnExactEndNewRow.holds Try.pinned (OpenSpec.ofChange fnExactEndNewWrong)

/-- 'laws.FnExactHaveOf': WHATEVER THE INPUT: true; the input reads as it did. -/
def fnExactHaveOfSpec : ChangeSpec := { name := "fnExactHaveOf", fn := fun _ => fun
  | [d] => { results := [.lit (.bool true)], args := [d] }
  | _ => none }
def fnExactHaveOfRow : OpenClaim := { program := "ytjlbibidgdnjdaa", sum := "2adf61b830a7b34142502d7efbd87175d7c662b70fab702b0e4f291c877ecb64", func := "loop.example/g00967/laws.FnExactHaveOf", spec := "fnExactHaveOf", apart := false }
def FnExactHaveOfSaid : Prop := fnExactHaveOfRow.holds Try.pinned (OpenSpec.ofChange fnExactHaveOfSpec)

/-- ITS FALSE NEIGHBOUR: 'it returns false'. Refute it at one input. -/
def fnExactHaveOfWrong : ChangeSpec := { name := "fnExactHaveOf", fn := fun _ => fun
  | [d] => { results := [.lit (.bool false)], args := [d] }
  | _ => none }
def FnExactHaveOfWrongFalsely : Prop := fnExactHaveOfRow.holds Try.pinned (OpenSpec.ofChange fnExactHaveOfWrong)

/-- 'laws.FnExactEndOk': WHATEVER THE INPUT: true; the input reads as it did. -/
def fnExactEndOkSpec : ChangeSpec := { name := "fnExactEndOk", fn := fun _ => fun
  | [d] => { results := [.lit (.bool true)], args := [d] }
  | _ => none }
def fnExactEndOkRow : OpenClaim := { program := "ytjlbibidgdnjdaa", sum := "2adf61b830a7b34142502d7efbd87175d7c662b70fab702b0e4f291c877ecb64", func := "loop.example/g00967/laws.FnExactEndOk", spec := "fnExactEndOk", apart := false }
def FnExactEndOkSaid : Prop := fnExactEndOkRow.holds Try.pinned (OpenSpec.ofChange fnExactEndOkSpec)

/-- ITS FALSE NEIGHBOUR: 'it returns false'. Refute it at one input. -/
def fnExactEndOkWrong : ChangeSpec := { name := "fnExactEndOk", fn := fun _ => fun
  | [d] => { results := [.lit (.bool false)], args := [d] }
  | _ => none }
def FnExactEndOkWrongFalsely : Prop := fnExactEndOkRow.holds Try.pinned (OpenSpec.ofChange fnExactEndOkWrong)

/-- 'laws.FnExactNextSub': WHATEVER THE INPUT: true; the input reads as it did. -/
def fnExactNextSubSpec : ChangeSpec := { name := "fnExactNextSub", fn := fun _ => fun
  | [d] => { results := [.lit (.bool true)], args := [d] }
  | _ => none }
def fnExactNextSubRow : OpenClaim := { program := "ytjlbibidgdnjdaa", sum := "2adf61b830a7b34142502d7efbd87175d7c662b70fab702b0e4f291c877ecb64", func := "loop.example/g00967/laws.FnExactNextSub", spec := "fnExactNextSub", apart := false }
def FnExactNextSubSaid : Prop := fnExactNextSubRow.holds Try.pinned (OpenSpec.ofChange fnExactNextSubSpec)

/-- ITS FALSE NEIGHBOUR: 'it returns false'. Refute it at one input. -/
def fnExactNextSubWrong : ChangeSpec := { name := "fnExactNextSub", fn := fun _ => fun
  | [d] => { results := [.lit (.bool false)], args := [d] }
  | _ => none }
def FnExactNextSubWrongFalsely : Prop := fnExactNextSubRow.holds Try.pinned (OpenSpec.ofChange fnExactNextSubWrong)

/-- 'laws.FnExactDrawn': WHATEVER THE INPUT: true; the input reads as it did. -/
def fnExactDrawnSpec : ChangeSpec := { name := "fnExactDrawn", fn := fun _ => fun
  | [d] => { results := [.lit (.bool true)], args := [d] }
  | _ => none }
def fnExactDrawnRow : OpenClaim := { program := "ytjlbibidgdnjdaa", sum := "2adf61b830a7b34142502d7efbd87175d7c662b70fab702b0e4f291c877ecb64", func := "loop.example/g00967/laws.FnExactDrawn", spec := "fnExactDrawn", apart := false }
def FnExactDrawnSaid : Prop := fnExactDrawnRow.holds Try.pinned (OpenSpec.ofChange fnExactDrawnSpec)

/-- ITS FALSE NEIGHBOUR: 'it returns false'. Refute it at one input. -/
def fnExactDrawnWrong : ChangeSpec := { name := "fnExactDrawn", fn := fun _ => fun
  | [d] => { results := [.lit (.bool false)], args := [d] }
  | _ => none }
def FnExactDrawnWrongFalsely : Prop := fnExactDrawnRow.holds Try.pinned (OpenSpec.ofChange fnExactDrawnWrong)

/-- 'laws.FnExactMayInject': WHATEVER THE INPUT: true; the input reads as it did. -/
def fnExactMayInjectSpec : ChangeSpec := { name := "fnExactMayInject", fn := fun _ => fun
  | [d1, d2] => { results := [.lit (.bool true)], args := [d1, d2] }
  | _ => none }
def fnExactMayInjectRow : OpenClaim := { program := "ytjlbibidgdnjdaa", sum := "2adf61b830a7b34142502d7efbd87175d7c662b70fab702b0e4f291c877ecb64", func := "loop.example/g00967/laws.FnExactMayInject", spec := "fnExactMayInject", apart := false }
def FnExactMayInjectSaid : Prop := fnExactMayInjectRow.holds Try.pinned (OpenSpec.ofChange fnExactMayInjectSpec)

/-- ITS FALSE NEIGHBOUR: 'it returns false'. Refute it at one input. -/
def fnExactMayInjectWrong : ChangeSpec := { name := "fnExactMayInject", fn := fun _ => fun
  | [d1, d2] => { results := [.lit (.bool false)], args := [d1, d2] }
  | _ => none }
def FnExactMayInjectWrongFalsely : Prop := fnExactMayInjectRow.holds Try.pinned (OpenSpec.ofChange fnExactMayInjectWrong)

/-- 'laws.FnExactRead': WHATEVER THE INPUT: true; the input reads as it did. -/
def fnExactReadSpec : ChangeSpec := { name := "fnExactRead", fn := fun _ => fun
  | [d1, d2] => { results := [.lit (.bool true)], args := [d1, d2] }
  | _ => none }
def fnExactReadRow : OpenClaim := { program := "ytjlbibidgdnjdaa", sum := "2adf61b830a7b34142502d7efbd87175d7c662b70fab702b0e4f291c877ecb64", func := "loop.example/g00967/laws.FnExactRead", spec := "fnExactRead", apart := false }
def FnExactReadSaid : Prop := fnExactReadRow.holds Try.pinned (OpenSpec.ofChange fnExactReadSpec)

/-- ITS FALSE NEIGHBOUR: 'it returns false'. Refute it at one input. -/
def fnExactReadWrong : ChangeSpec := { name := "fnExactRead", fn := fun _ => fun
  | [d1, d2] => { results := [.lit (.bool false)], args := [d1, d2] }
  | _ => none }
def FnExactReadWrongFalsely : Prop := fnExactReadRow.holds Try.pinned (OpenSpec.ofChange fnExactReadWrong)

/-- 'laws.FnExactWrite': WHATEVER THE INPUT: true; the input reads as it did. -/
def fnExactWriteSpec : ChangeSpec := { name := "fnExactWrite", fn := fun _ => fun
  | [d1, d2] => { results := [.lit (.bool true)], args := [d1, d2] }
  | _ => none }
def fnExactWriteRow : OpenClaim := { program := "ytjlbibidgdnjdaa", sum := "2adf61b830a7b34142502d7efbd87175d7c662b70fab702b0e4f291c877ecb64", func := "loop.example/g00967/laws.FnExactWrite", spec := "fnExactWrite", apart := false }
def FnExactWriteSaid : Prop := fnExactWriteRow.holds Try.pinned (OpenSpec.ofChange fnExactWriteSpec)

/-- ITS FALSE NEIGHBOUR: 'it returns false'. Refute it at one input. -/
def fnExactWriteWrong : ChangeSpec := { name := "fnExactWrite", fn := fun _ => fun
  | [d1, d2] => { results := [.lit (.bool false)], args := [d1, d2] }
  | _ => none }
def FnExactWriteWrongFalsely : Prop := fnExactWriteRow.holds Try.pinned (OpenSpec.ofChange fnExactWriteWrong)

/-- 'laws.FnExactAddOwn': WHATEVER THE INPUT: true; the input reads as it did. -/
def fnExactAddOwnSpec : ChangeSpec := { name := "fnExactAddOwn", fn := fun _ => fun
  | [d1, d2] => { results := [.lit (.bool true)], args := [d1, d2] }
  | _ => none }
def fnExactAddOwnRow : OpenClaim := { program := "ytjlbibidgdnjdaa", sum := "2adf61b830a7b34142502d7efbd87175d7c662b70fab702b0e4f291c877ecb64", func := "loop.example/g00967/laws.FnExactAddOwn", spec := "fnExactAddOwn", apart := false }
def FnExactAddOwnSaid : Prop := fnExactAddOwnRow.holds Try.pinned (OpenSpec.ofChange fnExactAddOwnSpec)

/-- ITS FALSE NEIGHBOUR: 'it returns false'. Refute it at one input. -/
def fnExactAddOwnWrong : ChangeSpec := { name := "fnExactAddOwn", fn := fun _ => fun
  | [d1, d2] => { results := [.lit (.bool false)], args := [d1, d2] }
  | _ => none }
def FnExactAddOwnWrongFalsely : Prop := fnExactAddOwnRow.holds Try.pinned (OpenSpec.ofChange fnExactAddOwnWrong)

/-- 'laws.FnExactTellAddrs': WHATEVER THE INPUT: true; the input reads as it did. -/
def fnExactTellAddrsSpec : ChangeSpec := { name := "fnExactTellAddrs", fn := fun _ => fun
  | [d] => { results := [.lit (.bool true)], args := [d] }
  | _ => none }
def fnExactTellAddrsRow : OpenClaim := { program := "ytjlbibidgdnjdaa", sum := "2adf61b830a7b34142502d7efbd87175d7c662b70fab702b0e4f291c877ecb64", func := "loop.example/g00967/laws.FnExactTellAddrs", spec := "fnExactTellAddrs", apart := false }
def FnExactTellAddrsSaid : Prop := fnExactTellAddrsRow.holds Try.pinned (OpenSpec.ofChange fnExactTellAddrsSpec)

/-- ITS FALSE NEIGHBOUR: 'it returns false'. Refute it at one input. -/
def fnExactTellAddrsWrong : ChangeSpec := { name := "fnExactTellAddrs", fn := fun _ => fun
  | [d] => { results := [.lit (.bool false)], args := [d] }
  | _ => none }
def FnExactTellAddrsWrongFalsely : Prop := fnExactTellAddrsRow.holds Try.pinned (OpenSpec.ofChange fnExactTellAddrsWrong)

/-- 'laws.FnExactEndAt': WHATEVER THE INPUT: true; the input reads as it did. -/
def fnExactEndAtSpec : ChangeSpec := { name := "fnExactEndAt", fn := fun _ => fun
  | [d1, d2] => { results := [.lit (.bool true)], args := [d1, d2] }
  | _ => none }
def fnExactEndAtRow : OpenClaim := { program := "ytjlbibidgdnjdaa", sum := "2adf61b830a7b34142502d7efbd87175d7c662b70fab702b0e4f291c877ecb64", func := "loop.example/g00967/laws.FnExactEndAt", spec := "fnExactEndAt", apart := false }
def FnExactEndAtSaid : Prop := fnExactEndAtRow.holds Try.pinned (OpenSpec.ofChange fnExactEndAtSpec)

/-- ITS FALSE NEIGHBOUR: 'it returns false'. Refute it at one input. -/
def fnExactEndAtWrong : ChangeSpec := { name := "fnExactEndAt", fn := fun _ => fun
  | [d1, d2] => { results := [.lit (.bool false)], args := [d1, d2] }
  | _ => none }
def FnExactEndAtWrongFalsely : Prop := fnExactEndAtRow.holds Try.pinned (OpenSpec.ofChange fnExactEndAtWrong)

/- THE SECOND FORM. 'bulk': how many values and letters a reading holds, each counted each time it is reached (what is shared counts as often as it is met; a slice's spare places count too). A statement '..UptoSaid' is the law's where the arguments, and the package variables that the reading takes, are together of bulk at most 1048576: NARROWER than '..Said'. Prove '..Said' where nothing that the law and all that it calls make is longer than what came in: it says more and counts as full. Else prove '..UptoSaid'. A law counts once. -/
mutual
def uptoBulk {H : Type} : DataW H → Nat
  | .lit (.string bytes) => bytes.length + 1
  | .lit _ => 1
  | .nil => 1
  | .ptr d => uptoBulk d + 1
  | .slice elems spare => uptoBulkAll elems + uptoBulkAll spare + 1
  | .agg parts => uptoBulkAll parts + 1
  | .iface _ d => uptoBulk d + 1
  | .map entries => uptoBulkEntries entries + 1
  | .held _ => 1
def uptoBulkAll {H : Type} : List (DataW H) → Nat
  | [] => 0
  | d :: r => uptoBulk d + uptoBulkAll r
def uptoBulkEntries {H : Type} : List (Lit × DataW H) → Nat
  | [] => 0
  | x :: r => uptoBulkEntry x + uptoBulkEntries r
def uptoBulkEntry {H : Type} : Lit × DataW H → Nat
  | (.string bytes, d) => bytes.length + uptoBulk d + 1
  | (_, d) => uptoBulk d + 1
 end
def uptoSmall : (H : Type) → List (DataW H) → Bool := fun _ ds => decide (uptoBulkAll ds ≤ 1048576)
def OpenSpec.upto (s : _root_.Go.ChangeSpec) : _root_.Go.OpenSpec := { _root_.Go.OpenSpec.ofChange s with cond := some uptoSmall }

/-- 'laws.FnExactOwnsAddr', WHERE WHAT IT READS IS OF BULK AT MOST 1048576: true; the input reads as it did. -/
def fnExactOwnsAddrUptoRow : OpenClaim := { program := "ytjlbibidgdnjdaa", sum := "2adf61b830a7b34142502d7efbd87175d7c662b70fab702b0e4f291c877ecb64", func := "loop.example/g00967/laws.FnExactOwnsAddr", spec := "fnExactOwnsAddr", apart := false, narrowed := true }
def FnExactOwnsAddrUptoSaid : Prop := fnExactOwnsAddrUptoRow.holds Try.pinned (OpenSpec.upto fnExactOwnsAddrSpec)

/-- 'laws.FnExactSubAt', WHERE WHAT IT READS IS OF BULK AT MOST 1048576: true; the input reads as it did. -/
def fnExactSubAtUptoRow : OpenClaim := { program := "ytjlbibidgdnjdaa", sum := "2adf61b830a7b34142502d7efbd87175d7c662b70fab702b0e4f291c877ecb64", func := "loop.example/g00967/laws.FnExactSubAt", spec := "fnExactSubAt", apart := false, narrowed := true }
def FnExactSubAtUptoSaid : Prop := fnExactSubAtUptoRow.holds Try.pinned (OpenSpec.upto fnExactSubAtSpec)

/-- 'laws.FnExactSignedOn', WHERE WHAT IT READS IS OF BULK AT MOST 1048576: true; the input reads as it did. -/
def fnExactSignedOnUptoRow : OpenClaim := { program := "ytjlbibidgdnjdaa", sum := "2adf61b830a7b34142502d7efbd87175d7c662b70fab702b0e4f291c877ecb64", func := "loop.example/g00967/laws.FnExactSignedOn", spec := "fnExactSignedOn", apart := false, narrowed := true }
def FnExactSignedOnUptoSaid : Prop := fnExactSignedOnUptoRow.holds Try.pinned (OpenSpec.upto fnExactSignedOnSpec)

/-- 'laws.FnExactOnOf', WHERE WHAT IT READS IS OF BULK AT MOST 1048576: true; the input reads as it did. -/
def fnExactOnOfUptoRow : OpenClaim := { program := "ytjlbibidgdnjdaa", sum := "2adf61b830a7b34142502d7efbd87175d7c662b70fab702b0e4f291c877ecb64", func := "loop.example/g00967/laws.FnExactOnOf", spec := "fnExactOnOf", apart := false, narrowed := true }
def FnExactOnOfUptoSaid : Prop := fnExactOnOfUptoRow.holds Try.pinned (OpenSpec.upto fnExactOnOfSpec)

/-- 'laws.FnExactEndNew', WHERE WHAT IT READS IS OF BULK AT MOST 1048576: true; the input reads as it did. -/
def fnExactEndNewUptoRow : OpenClaim := { program := "ytjlbibidgdnjdaa", sum := "2adf61b830a7b34142502d7efbd87175d7c662b70fab702b0e4f291c877ecb64", func := "loop.example/g00967/laws.FnExactEndNew", spec := "fnExactEndNew", apart := false, narrowed := true }
def FnExactEndNewUptoSaid : Prop := fnExactEndNewUptoRow.holds Try.pinned (OpenSpec.upto fnExactEndNewSpec)

/-- 'laws.FnExactHaveOf', WHERE WHAT IT READS IS OF BULK AT MOST 1048576: true; the input reads as it did. -/
def fnExactHaveOfUptoRow : OpenClaim := { program := "ytjlbibidgdnjdaa", sum := "2adf61b830a7b34142502d7efbd87175d7c662b70fab702b0e4f291c877ecb64", func := "loop.example/g00967/laws.FnExactHaveOf", spec := "fnExactHaveOf", apart := false, narrowed := true }
def FnExactHaveOfUptoSaid : Prop := fnExactHaveOfUptoRow.holds Try.pinned (OpenSpec.upto fnExactHaveOfSpec)

/-- 'laws.FnExactEndOk', WHERE WHAT IT READS IS OF BULK AT MOST 1048576: true; the input reads as it did. -/
def fnExactEndOkUptoRow : OpenClaim := { program := "ytjlbibidgdnjdaa", sum := "2adf61b830a7b34142502d7efbd87175d7c662b70fab702b0e4f291c877ecb64", func := "loop.example/g00967/laws.FnExactEndOk", spec := "fnExactEndOk", apart := false, narrowed := true }
def FnExactEndOkUptoSaid : Prop := fnExactEndOkUptoRow.holds Try.pinned (OpenSpec.upto fnExactEndOkSpec)

/-- 'laws.FnExactNextSub', WHERE WHAT IT READS IS OF BULK AT MOST 1048576: true; the input reads as it did. -/
def fnExactNextSubUptoRow : OpenClaim := { program := "ytjlbibidgdnjdaa", sum := "2adf61b830a7b34142502d7efbd87175d7c662b70fab702b0e4f291c877ecb64", func := "loop.example/g00967/laws.FnExactNextSub", spec := "fnExactNextSub", apart := false, narrowed := true }
def FnExactNextSubUptoSaid : Prop := fnExactNextSubUptoRow.holds Try.pinned (OpenSpec.upto fnExactNextSubSpec)

/-- 'laws.FnExactDrawn', WHERE WHAT IT READS IS OF BULK AT MOST 1048576: true; the input reads as it did. -/
def fnExactDrawnUptoRow : OpenClaim := { program := "ytjlbibidgdnjdaa", sum := "2adf61b830a7b34142502d7efbd87175d7c662b70fab702b0e4f291c877ecb64", func := "loop.example/g00967/laws.FnExactDrawn", spec := "fnExactDrawn", apart := false, narrowed := true }
def FnExactDrawnUptoSaid : Prop := fnExactDrawnUptoRow.holds Try.pinned (OpenSpec.upto fnExactDrawnSpec)

/-- 'laws.FnExactMayInject', WHERE WHAT IT READS IS OF BULK AT MOST 1048576: true; the input reads as it did. -/
def fnExactMayInjectUptoRow : OpenClaim := { program := "ytjlbibidgdnjdaa", sum := "2adf61b830a7b34142502d7efbd87175d7c662b70fab702b0e4f291c877ecb64", func := "loop.example/g00967/laws.FnExactMayInject", spec := "fnExactMayInject", apart := false, narrowed := true }
def FnExactMayInjectUptoSaid : Prop := fnExactMayInjectUptoRow.holds Try.pinned (OpenSpec.upto fnExactMayInjectSpec)

/-- 'laws.FnExactRead', WHERE WHAT IT READS IS OF BULK AT MOST 1048576: true; the input reads as it did. -/
def fnExactReadUptoRow : OpenClaim := { program := "ytjlbibidgdnjdaa", sum := "2adf61b830a7b34142502d7efbd87175d7c662b70fab702b0e4f291c877ecb64", func := "loop.example/g00967/laws.FnExactRead", spec := "fnExactRead", apart := false, narrowed := true }
def FnExactReadUptoSaid : Prop := fnExactReadUptoRow.holds Try.pinned (OpenSpec.upto fnExactReadSpec)

/-- 'laws.FnExactWrite', WHERE WHAT IT READS IS OF BULK AT MOST 1048576: true; the input reads as it did. -/
def fnExactWriteUptoRow : OpenClaim := { program := "ytjlbibidgdnjdaa", sum := "2adf61b830a7b34142502d7efbd87175d7c662b70fab702b0e4f291c877ecb64", func := "loop.example/g00967/laws.FnExactWrite", spec := "fnExactWrite", apart := false, narrowed := true }
def FnExactWriteUptoSaid : Prop := fnExactWriteUptoRow.holds Try.pinned (OpenSpec.upto fnExactWriteSpec)

/-- 'laws.FnExactAddOwn', WHERE WHAT IT READS IS OF BULK AT MOST 1048576: true; the input reads as it did. -/
def fnExactAddOwnUptoRow : OpenClaim := { program := "ytjlbibidgdnjdaa", sum := "2adf61b830a7b34142502d7efbd87175d7c662b70fab702b0e4f291c877ecb64", func := "loop.example/g00967/laws.FnExactAddOwn", spec := "fnExactAddOwn", apart := false, narrowed := true }
def FnExactAddOwnUptoSaid : Prop := fnExactAddOwnUptoRow.holds Try.pinned (OpenSpec.upto fnExactAddOwnSpec)

/-- 'laws.FnExactTellAddrs', WHERE WHAT IT READS IS OF BULK AT MOST 1048576: true; the input reads as it did. -/
def fnExactTellAddrsUptoRow : OpenClaim := { program := "ytjlbibidgdnjdaa", sum := "2adf61b830a7b34142502d7efbd87175d7c662b70fab702b0e4f291c877ecb64", func := "loop.example/g00967/laws.FnExactTellAddrs", spec := "fnExactTellAddrs", apart := false, narrowed := true }
def FnExactTellAddrsUptoSaid : Prop := fnExactTellAddrsUptoRow.holds Try.pinned (OpenSpec.upto fnExactTellAddrsSpec)

/-- 'laws.FnExactEndAt', WHERE WHAT IT READS IS OF BULK AT MOST 1048576: true; the input reads as it did. -/
def fnExactEndAtUptoRow : OpenClaim := { program := "ytjlbibidgdnjdaa", sum := "2adf61b830a7b34142502d7efbd87175d7c662b70fab702b0e4f291c877ecb64", func := "loop.example/g00967/laws.FnExactEndAt", spec := "fnExactEndAt", apart := false, narrowed := true }
def FnExactEndAtUptoSaid : Prop := fnExactEndAtUptoRow.holds Try.pinned (OpenSpec.upto fnExactEndAtSpec)

end Rows
end Go.Proofs.Ytjlbibidgdnjdaa
