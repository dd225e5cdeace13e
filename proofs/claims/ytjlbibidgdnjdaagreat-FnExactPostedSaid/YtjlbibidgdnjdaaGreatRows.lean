/-
  No cell of these rows narrows 'for every input' (looked for: loops, veiled, ifaces, maps, wideKeys, modest, calm, conditions, laid).
  DERIVED. THE GIVEN ROWS OF THIS SEAT. 24 by the template 'for every input the law returns true; each argument reads behind the call as it read before'; 0 by the template 'total and deterministic' (their statements: YtjlbibidgdnjdaaGreatTotals.lean).
  GIVEN WITH THE SEED: the statements are not yours to turn. If you find one false, say at which input.
  Laid BY PROGRAM, IN A SANDBOX (cutbox-rows.mjs): the forced cells as the released guide's own fill.sh prints them over the translation 961c9088fd5dca2b… (all of the seat's roots in one cut). By AI agents, Wed Nov 11 2026. No macro, syntax, notation, axiom, sorry.
-/
import Derived.Test.YtjlbibidgdnjdaaGreatChecked
import GoSem.Claim
import GoSem.ClaimJoined
import GoSem.ClaimMapViews
import Derived.JoinedTies
import Derived.KernelRfl
namespace Go.Proofs.YtjlbibidgdnjdaaGreat
/- THE CELL 'sum', in the pinned program and in every row, IS THE sha256 OF THE DUMP (.gsa) THAT YtjlbibidgdnjdaaGreatProg.lean LOADS. Nothing in Lean hashes anything: it is a label: what it is worth is what the hold of that sum in a sandbox is worth. -/
noncomputable def Tryz.pinned : Pinned := { name := "ytjlbibidgdnjdaagreat", sum := "961c9088fd5dca2b36a89be0dca71056b420ac314d96b9297c5e0b323eed1ac0", checked := Tryz.checked }
namespace Rows
def none {H : Type} : Left H := { results := [], args := [] }

/-- 'laws.FnExactHear': WHATEVER THE INPUT: true; the input reads as it did. -/
def fnExactHearSpec : ChangeSpec := { name := "fnExactHear", fn := fun _ => fun
  | [d1, d2] => { results := [.lit (.bool true)], args := [d1, d2] }
  | _ => none }
def fnExactHearRow : OpenClaim := { program := "ytjlbibidgdnjdaagreat", sum := "961c9088fd5dca2b36a89be0dca71056b420ac314d96b9297c5e0b323eed1ac0", func := "loop.example/g00967/laws.FnExactHear", spec := "fnExactHear", apart := false }
def FnExactHearSaid : Prop := fnExactHearRow.holds Tryz.pinned (OpenSpec.ofChange fnExactHearSpec)

/-- ITS FALSE NEIGHBOUR: 'it returns false'. Refute it at one input. -/
def fnExactHearWrong : ChangeSpec := { name := "fnExactHear", fn := fun _ => fun
  | [d1, d2] => { results := [.lit (.bool false)], args := [d1, d2] }
  | _ => none }
def FnExactHearWrongFalsely : Prop := fnExactHearRow.holds Tryz.pinned (OpenSpec.ofChange fnExactHearWrong)

/-- 'laws.FnExactMeet': WHATEVER THE INPUT: true; the input reads as it did. -/
def fnExactMeetSpec : ChangeSpec := { name := "fnExactMeet", fn := fun _ => fun
  | [d1, d2] => { results := [.lit (.bool true)], args := [d1, d2] }
  | _ => none }
def fnExactMeetRow : OpenClaim := { program := "ytjlbibidgdnjdaagreat", sum := "961c9088fd5dca2b36a89be0dca71056b420ac314d96b9297c5e0b323eed1ac0", func := "loop.example/g00967/laws.FnExactMeet", spec := "fnExactMeet", apart := false }
def FnExactMeetSaid : Prop := fnExactMeetRow.holds Tryz.pinned (OpenSpec.ofChange fnExactMeetSpec)

/-- ITS FALSE NEIGHBOUR: 'it returns false'. Refute it at one input. -/
def fnExactMeetWrong : ChangeSpec := { name := "fnExactMeet", fn := fun _ => fun
  | [d1, d2] => { results := [.lit (.bool false)], args := [d1, d2] }
  | _ => none }
def FnExactMeetWrongFalsely : Prop := fnExactMeetRow.holds Tryz.pinned (OpenSpec.ofChange fnExactMeetWrong)

/-- 'laws.FnExactReset': WHATEVER THE INPUT: true; the input reads as it did. -/
def fnExactResetSpec : ChangeSpec := { name := "fnExactReset", fn := fun _ => fun
  | [d1, d2] => { results := [.lit (.bool true)], args := [d1, d2] }
  | _ => none }
def fnExactResetRow : OpenClaim := { program := "ytjlbibidgdnjdaagreat", sum := "961c9088fd5dca2b36a89be0dca71056b420ac314d96b9297c5e0b323eed1ac0", func := "loop.example/g00967/laws.FnExactReset", spec := "fnExactReset", apart := false }
def FnExactResetSaid : Prop := fnExactResetRow.holds Tryz.pinned (OpenSpec.ofChange fnExactResetSpec)

/-- ITS FALSE NEIGHBOUR: 'it returns false'. Refute it at one input. -/
def fnExactResetWrong : ChangeSpec := { name := "fnExactReset", fn := fun _ => fun
  | [d1, d2] => { results := [.lit (.bool false)], args := [d1, d2] }
  | _ => none }
def FnExactResetWrongFalsely : Prop := fnExactResetRow.holds Tryz.pinned (OpenSpec.ofChange fnExactResetWrong)

/-- 'laws.FnExactOpen': WHATEVER THE INPUT: true; the input reads as it did. -/
def fnExactOpenSpec : ChangeSpec := { name := "fnExactOpen", fn := fun _ => fun
  | [d1, d2] => { results := [.lit (.bool true)], args := [d1, d2] }
  | _ => none }
def fnExactOpenRow : OpenClaim := { program := "ytjlbibidgdnjdaagreat", sum := "961c9088fd5dca2b36a89be0dca71056b420ac314d96b9297c5e0b323eed1ac0", func := "loop.example/g00967/laws.FnExactOpen", spec := "fnExactOpen", apart := false }
def FnExactOpenSaid : Prop := fnExactOpenRow.holds Tryz.pinned (OpenSpec.ofChange fnExactOpenSpec)

/-- ITS FALSE NEIGHBOUR: 'it returns false'. Refute it at one input. -/
def fnExactOpenWrong : ChangeSpec := { name := "fnExactOpen", fn := fun _ => fun
  | [d1, d2] => { results := [.lit (.bool false)], args := [d1, d2] }
  | _ => none }
def FnExactOpenWrongFalsely : Prop := fnExactOpenRow.holds Tryz.pinned (OpenSpec.ofChange fnExactOpenWrong)

/-- 'laws.FnExactHearJoinAck': WHATEVER THE INPUT: true; the input reads as it did. -/
def fnExactHearJoinAckSpec : ChangeSpec := { name := "fnExactHearJoinAck", fn := fun _ => fun
  | [d1, d2] => { results := [.lit (.bool true)], args := [d1, d2] }
  | _ => none }
def fnExactHearJoinAckRow : OpenClaim := { program := "ytjlbibidgdnjdaagreat", sum := "961c9088fd5dca2b36a89be0dca71056b420ac314d96b9297c5e0b323eed1ac0", func := "loop.example/g00967/laws.FnExactHearJoinAck", spec := "fnExactHearJoinAck", apart := false }
def FnExactHearJoinAckSaid : Prop := fnExactHearJoinAckRow.holds Tryz.pinned (OpenSpec.ofChange fnExactHearJoinAckSpec)

/-- ITS FALSE NEIGHBOUR: 'it returns false'. Refute it at one input. -/
def fnExactHearJoinAckWrong : ChangeSpec := { name := "fnExactHearJoinAck", fn := fun _ => fun
  | [d1, d2] => { results := [.lit (.bool false)], args := [d1, d2] }
  | _ => none }
def FnExactHearJoinAckWrongFalsely : Prop := fnExactHearJoinAckRow.holds Tryz.pinned (OpenSpec.ofChange fnExactHearJoinAckWrong)

/-- 'laws.FnExactHearReset': WHATEVER THE INPUT: true; the input reads as it did. -/
def fnExactHearResetSpec : ChangeSpec := { name := "fnExactHearReset", fn := fun _ => fun
  | [d1, d2] => { results := [.lit (.bool true)], args := [d1, d2] }
  | _ => none }
def fnExactHearResetRow : OpenClaim := { program := "ytjlbibidgdnjdaagreat", sum := "961c9088fd5dca2b36a89be0dca71056b420ac314d96b9297c5e0b323eed1ac0", func := "loop.example/g00967/laws.FnExactHearReset", spec := "fnExactHearReset", apart := false }
def FnExactHearResetSaid : Prop := fnExactHearResetRow.holds Tryz.pinned (OpenSpec.ofChange fnExactHearResetSpec)

/-- ITS FALSE NEIGHBOUR: 'it returns false'. Refute it at one input. -/
def fnExactHearResetWrong : ChangeSpec := { name := "fnExactHearReset", fn := fun _ => fun
  | [d1, d2] => { results := [.lit (.bool false)], args := [d1, d2] }
  | _ => none }
def FnExactHearResetWrongFalsely : Prop := fnExactHearResetRow.holds Tryz.pinned (OpenSpec.ofChange fnExactHearResetWrong)

/-- 'laws.FnExactHearEcho': WHATEVER THE INPUT: true; the input reads as it did. -/
def fnExactHearEchoSpec : ChangeSpec := { name := "fnExactHearEcho", fn := fun _ => fun
  | [d1, d2] => { results := [.lit (.bool true)], args := [d1, d2] }
  | _ => none }
def fnExactHearEchoRow : OpenClaim := { program := "ytjlbibidgdnjdaagreat", sum := "961c9088fd5dca2b36a89be0dca71056b420ac314d96b9297c5e0b323eed1ac0", func := "loop.example/g00967/laws.FnExactHearEcho", spec := "fnExactHearEcho", apart := false }
def FnExactHearEchoSaid : Prop := fnExactHearEchoRow.holds Tryz.pinned (OpenSpec.ofChange fnExactHearEchoSpec)

/-- ITS FALSE NEIGHBOUR: 'it returns false'. Refute it at one input. -/
def fnExactHearEchoWrong : ChangeSpec := { name := "fnExactHearEcho", fn := fun _ => fun
  | [d1, d2] => { results := [.lit (.bool false)], args := [d1, d2] }
  | _ => none }
def FnExactHearEchoWrongFalsely : Prop := fnExactHearEchoRow.holds Tryz.pinned (OpenSpec.ofChange fnExactHearEchoWrong)

/-- 'laws.FnExactHearBack': WHATEVER THE INPUT: true; the input reads as it did. -/
def fnExactHearBackSpec : ChangeSpec := { name := "fnExactHearBack", fn := fun _ => fun
  | [d1, d2] => { results := [.lit (.bool true)], args := [d1, d2] }
  | _ => none }
def fnExactHearBackRow : OpenClaim := { program := "ytjlbibidgdnjdaagreat", sum := "961c9088fd5dca2b36a89be0dca71056b420ac314d96b9297c5e0b323eed1ac0", func := "loop.example/g00967/laws.FnExactHearBack", spec := "fnExactHearBack", apart := false }
def FnExactHearBackSaid : Prop := fnExactHearBackRow.holds Tryz.pinned (OpenSpec.ofChange fnExactHearBackSpec)

/-- ITS FALSE NEIGHBOUR: 'it returns false'. Refute it at one input. -/
def fnExactHearBackWrong : ChangeSpec := { name := "fnExactHearBack", fn := fun _ => fun
  | [d1, d2] => { results := [.lit (.bool false)], args := [d1, d2] }
  | _ => none }
def FnExactHearBackWrongFalsely : Prop := fnExactHearBackRow.holds Tryz.pinned (OpenSpec.ofChange fnExactHearBackWrong)

/-- 'laws.FnExactJoin': WHATEVER THE INPUT: true; the input reads as it did. -/
def fnExactJoinSpec : ChangeSpec := { name := "fnExactJoin", fn := fun _ => fun
  | [d1, d2, d3] => { results := [.lit (.bool true)], args := [d1, d2, d3] }
  | _ => none }
def fnExactJoinRow : OpenClaim := { program := "ytjlbibidgdnjdaagreat", sum := "961c9088fd5dca2b36a89be0dca71056b420ac314d96b9297c5e0b323eed1ac0", func := "loop.example/g00967/laws.FnExactJoin", spec := "fnExactJoin", apart := false }
def FnExactJoinSaid : Prop := fnExactJoinRow.holds Tryz.pinned (OpenSpec.ofChange fnExactJoinSpec)

/-- ITS FALSE NEIGHBOUR: 'it returns false'. Refute it at one input. -/
def fnExactJoinWrong : ChangeSpec := { name := "fnExactJoin", fn := fun _ => fun
  | [d1, d2, d3] => { results := [.lit (.bool false)], args := [d1, d2, d3] }
  | _ => none }
def FnExactJoinWrongFalsely : Prop := fnExactJoinRow.holds Tryz.pinned (OpenSpec.ofChange fnExactJoinWrong)

/-- 'laws.FnExactHearCame': WHATEVER THE INPUT: true; the input reads as it did. -/
def fnExactHearCameSpec : ChangeSpec := { name := "fnExactHearCame", fn := fun _ => fun
  | [d1, d2] => { results := [.lit (.bool true)], args := [d1, d2] }
  | _ => none }
def fnExactHearCameRow : OpenClaim := { program := "ytjlbibidgdnjdaagreat", sum := "961c9088fd5dca2b36a89be0dca71056b420ac314d96b9297c5e0b323eed1ac0", func := "loop.example/g00967/laws.FnExactHearCame", spec := "fnExactHearCame", apart := false }
def FnExactHearCameSaid : Prop := fnExactHearCameRow.holds Tryz.pinned (OpenSpec.ofChange fnExactHearCameSpec)

/-- ITS FALSE NEIGHBOUR: 'it returns false'. Refute it at one input. -/
def fnExactHearCameWrong : ChangeSpec := { name := "fnExactHearCame", fn := fun _ => fun
  | [d1, d2] => { results := [.lit (.bool false)], args := [d1, d2] }
  | _ => none }
def FnExactHearCameWrongFalsely : Prop := fnExactHearCameRow.holds Tryz.pinned (OpenSpec.ofChange fnExactHearCameWrong)

/-- 'laws.FnExactHearJoinBack': WHATEVER THE INPUT: true; the input reads as it did. -/
def fnExactHearJoinBackSpec : ChangeSpec := { name := "fnExactHearJoinBack", fn := fun _ => fun
  | [d1, d2] => { results := [.lit (.bool true)], args := [d1, d2] }
  | _ => none }
def fnExactHearJoinBackRow : OpenClaim := { program := "ytjlbibidgdnjdaagreat", sum := "961c9088fd5dca2b36a89be0dca71056b420ac314d96b9297c5e0b323eed1ac0", func := "loop.example/g00967/laws.FnExactHearJoinBack", spec := "fnExactHearJoinBack", apart := false }
def FnExactHearJoinBackSaid : Prop := fnExactHearJoinBackRow.holds Tryz.pinned (OpenSpec.ofChange fnExactHearJoinBackSpec)

/-- ITS FALSE NEIGHBOUR: 'it returns false'. Refute it at one input. -/
def fnExactHearJoinBackWrong : ChangeSpec := { name := "fnExactHearJoinBack", fn := fun _ => fun
  | [d1, d2] => { results := [.lit (.bool false)], args := [d1, d2] }
  | _ => none }
def FnExactHearJoinBackWrongFalsely : Prop := fnExactHearJoinBackRow.holds Tryz.pinned (OpenSpec.ofChange fnExactHearJoinBackWrong)

/-- 'laws.FnExactDropOwn': WHATEVER THE INPUT: true; the input reads as it did. -/
def fnExactDropOwnSpec : ChangeSpec := { name := "fnExactDropOwn", fn := fun _ => fun
  | [d1, d2] => { results := [.lit (.bool true)], args := [d1, d2] }
  | _ => none }
def fnExactDropOwnRow : OpenClaim := { program := "ytjlbibidgdnjdaagreat", sum := "961c9088fd5dca2b36a89be0dca71056b420ac314d96b9297c5e0b323eed1ac0", func := "loop.example/g00967/laws.FnExactDropOwn", spec := "fnExactDropOwn", apart := false }
def FnExactDropOwnSaid : Prop := fnExactDropOwnRow.holds Tryz.pinned (OpenSpec.ofChange fnExactDropOwnSpec)

/-- ITS FALSE NEIGHBOUR: 'it returns false'. Refute it at one input. -/
def fnExactDropOwnWrong : ChangeSpec := { name := "fnExactDropOwn", fn := fun _ => fun
  | [d1, d2] => { results := [.lit (.bool false)], args := [d1, d2] }
  | _ => none }
def FnExactDropOwnWrongFalsely : Prop := fnExactDropOwnRow.holds Tryz.pinned (OpenSpec.ofChange fnExactDropOwnWrong)

/-- 'laws.FnExactPush': WHATEVER THE INPUT: true; the input reads as it did. -/
def fnExactPushSpec : ChangeSpec := { name := "fnExactPush", fn := fun _ => fun
  | [d] => { results := [.lit (.bool true)], args := [d] }
  | _ => none }
def fnExactPushRow : OpenClaim := { program := "ytjlbibidgdnjdaagreat", sum := "961c9088fd5dca2b36a89be0dca71056b420ac314d96b9297c5e0b323eed1ac0", func := "loop.example/g00967/laws.FnExactPush", spec := "fnExactPush", apart := false }
def FnExactPushSaid : Prop := fnExactPushRow.holds Tryz.pinned (OpenSpec.ofChange fnExactPushSpec)

/-- ITS FALSE NEIGHBOUR: 'it returns false'. Refute it at one input. -/
def fnExactPushWrong : ChangeSpec := { name := "fnExactPush", fn := fun _ => fun
  | [d] => { results := [.lit (.bool false)], args := [d] }
  | _ => none }
def FnExactPushWrongFalsely : Prop := fnExactPushRow.holds Tryz.pinned (OpenSpec.ofChange fnExactPushWrong)

/-- 'laws.FnExactHearHello': WHATEVER THE INPUT: true; the input reads as it did. -/
def fnExactHearHelloSpec : ChangeSpec := { name := "fnExactHearHello", fn := fun _ => fun
  | [d1, d2] => { results := [.lit (.bool true)], args := [d1, d2] }
  | _ => none }
def fnExactHearHelloRow : OpenClaim := { program := "ytjlbibidgdnjdaagreat", sum := "961c9088fd5dca2b36a89be0dca71056b420ac314d96b9297c5e0b323eed1ac0", func := "loop.example/g00967/laws.FnExactHearHello", spec := "fnExactHearHello", apart := false }
def FnExactHearHelloSaid : Prop := fnExactHearHelloRow.holds Tryz.pinned (OpenSpec.ofChange fnExactHearHelloSpec)

/-- ITS FALSE NEIGHBOUR: 'it returns false'. Refute it at one input. -/
def fnExactHearHelloWrong : ChangeSpec := { name := "fnExactHearHello", fn := fun _ => fun
  | [d1, d2] => { results := [.lit (.bool false)], args := [d1, d2] }
  | _ => none }
def FnExactHearHelloWrongFalsely : Prop := fnExactHearHelloRow.holds Tryz.pinned (OpenSpec.ofChange fnExactHearHelloWrong)

/-- 'laws.FnExactHearJoinDone': WHATEVER THE INPUT: true; the input reads as it did. -/
def fnExactHearJoinDoneSpec : ChangeSpec := { name := "fnExactHearJoinDone", fn := fun _ => fun
  | [d1, d2] => { results := [.lit (.bool true)], args := [d1, d2] }
  | _ => none }
def fnExactHearJoinDoneRow : OpenClaim := { program := "ytjlbibidgdnjdaagreat", sum := "961c9088fd5dca2b36a89be0dca71056b420ac314d96b9297c5e0b323eed1ac0", func := "loop.example/g00967/laws.FnExactHearJoinDone", spec := "fnExactHearJoinDone", apart := false }
def FnExactHearJoinDoneSaid : Prop := fnExactHearJoinDoneRow.holds Tryz.pinned (OpenSpec.ofChange fnExactHearJoinDoneSpec)

/-- ITS FALSE NEIGHBOUR: 'it returns false'. Refute it at one input. -/
def fnExactHearJoinDoneWrong : ChangeSpec := { name := "fnExactHearJoinDone", fn := fun _ => fun
  | [d1, d2] => { results := [.lit (.bool false)], args := [d1, d2] }
  | _ => none }
def FnExactHearJoinDoneWrongFalsely : Prop := fnExactHearJoinDoneRow.holds Tryz.pinned (OpenSpec.ofChange fnExactHearJoinDoneWrong)

/-- 'laws.FnExactHearGone': WHATEVER THE INPUT: true; the input reads as it did. -/
def fnExactHearGoneSpec : ChangeSpec := { name := "fnExactHearGone", fn := fun _ => fun
  | [d1, d2] => { results := [.lit (.bool true)], args := [d1, d2] }
  | _ => none }
def fnExactHearGoneRow : OpenClaim := { program := "ytjlbibidgdnjdaagreat", sum := "961c9088fd5dca2b36a89be0dca71056b420ac314d96b9297c5e0b323eed1ac0", func := "loop.example/g00967/laws.FnExactHearGone", spec := "fnExactHearGone", apart := false }
def FnExactHearGoneSaid : Prop := fnExactHearGoneRow.holds Tryz.pinned (OpenSpec.ofChange fnExactHearGoneSpec)

/-- ITS FALSE NEIGHBOUR: 'it returns false'. Refute it at one input. -/
def fnExactHearGoneWrong : ChangeSpec := { name := "fnExactHearGone", fn := fun _ => fun
  | [d1, d2] => { results := [.lit (.bool false)], args := [d1, d2] }
  | _ => none }
def FnExactHearGoneWrongFalsely : Prop := fnExactHearGoneRow.holds Tryz.pinned (OpenSpec.ofChange fnExactHearGoneWrong)

/-- 'laws.FnExactHearAddr': WHATEVER THE INPUT: true; the input reads as it did. -/
def fnExactHearAddrSpec : ChangeSpec := { name := "fnExactHearAddr", fn := fun _ => fun
  | [d1, d2] => { results := [.lit (.bool true)], args := [d1, d2] }
  | _ => none }
def fnExactHearAddrRow : OpenClaim := { program := "ytjlbibidgdnjdaagreat", sum := "961c9088fd5dca2b36a89be0dca71056b420ac314d96b9297c5e0b323eed1ac0", func := "loop.example/g00967/laws.FnExactHearAddr", spec := "fnExactHearAddr", apart := false }
def FnExactHearAddrSaid : Prop := fnExactHearAddrRow.holds Tryz.pinned (OpenSpec.ofChange fnExactHearAddrSpec)

/-- ITS FALSE NEIGHBOUR: 'it returns false'. Refute it at one input. -/
def fnExactHearAddrWrong : ChangeSpec := { name := "fnExactHearAddr", fn := fun _ => fun
  | [d1, d2] => { results := [.lit (.bool false)], args := [d1, d2] }
  | _ => none }
def FnExactHearAddrWrongFalsely : Prop := fnExactHearAddrRow.holds Tryz.pinned (OpenSpec.ofChange fnExactHearAddrWrong)

/-- 'laws.FnExactWriteAll': WHATEVER THE INPUT: true; the input reads as it did. -/
def fnExactWriteAllSpec : ChangeSpec := { name := "fnExactWriteAll", fn := fun _ => fun
  | [d1, d2] => { results := [.lit (.bool true)], args := [d1, d2] }
  | _ => none }
def fnExactWriteAllRow : OpenClaim := { program := "ytjlbibidgdnjdaagreat", sum := "961c9088fd5dca2b36a89be0dca71056b420ac314d96b9297c5e0b323eed1ac0", func := "loop.example/g00967/laws.FnExactWriteAll", spec := "fnExactWriteAll", apart := false }
def FnExactWriteAllSaid : Prop := fnExactWriteAllRow.holds Tryz.pinned (OpenSpec.ofChange fnExactWriteAllSpec)

/-- ITS FALSE NEIGHBOUR: 'it returns false'. Refute it at one input. -/
def fnExactWriteAllWrong : ChangeSpec := { name := "fnExactWriteAll", fn := fun _ => fun
  | [d1, d2] => { results := [.lit (.bool false)], args := [d1, d2] }
  | _ => none }
def FnExactWriteAllWrongFalsely : Prop := fnExactWriteAllRow.holds Tryz.pinned (OpenSpec.ofChange fnExactWriteAllWrong)

/-- 'laws.FnExactWorldNew': WHATEVER THE INPUT: true; the input reads as it did. -/
def fnExactWorldNewSpec : ChangeSpec := { name := "fnExactWorldNew", fn := fun _ => fun
  | [d] => { results := [.lit (.bool true)], args := [d] }
  | _ => none }
def fnExactWorldNewRow : OpenClaim := { program := "ytjlbibidgdnjdaagreat", sum := "961c9088fd5dca2b36a89be0dca71056b420ac314d96b9297c5e0b323eed1ac0", func := "loop.example/g00967/laws.FnExactWorldNew", spec := "fnExactWorldNew", apart := false }
def FnExactWorldNewSaid : Prop := fnExactWorldNewRow.holds Tryz.pinned (OpenSpec.ofChange fnExactWorldNewSpec)

/-- ITS FALSE NEIGHBOUR: 'it returns false'. Refute it at one input. -/
def fnExactWorldNewWrong : ChangeSpec := { name := "fnExactWorldNew", fn := fun _ => fun
  | [d] => { results := [.lit (.bool false)], args := [d] }
  | _ => none }
def FnExactWorldNewWrongFalsely : Prop := fnExactWorldNewRow.holds Tryz.pinned (OpenSpec.ofChange fnExactWorldNewWrong)

/-- 'laws.FnExactHearJoin': WHATEVER THE INPUT: true; the input reads as it did. -/
def fnExactHearJoinSpec : ChangeSpec := { name := "fnExactHearJoin", fn := fun _ => fun
  | [d1, d2] => { results := [.lit (.bool true)], args := [d1, d2] }
  | _ => none }
def fnExactHearJoinRow : OpenClaim := { program := "ytjlbibidgdnjdaagreat", sum := "961c9088fd5dca2b36a89be0dca71056b420ac314d96b9297c5e0b323eed1ac0", func := "loop.example/g00967/laws.FnExactHearJoin", spec := "fnExactHearJoin", apart := false }
def FnExactHearJoinSaid : Prop := fnExactHearJoinRow.holds Tryz.pinned (OpenSpec.ofChange fnExactHearJoinSpec)

/-- ITS FALSE NEIGHBOUR: 'it returns false'. Refute it at one input. -/
def fnExactHearJoinWrong : ChangeSpec := { name := "fnExactHearJoin", fn := fun _ => fun
  | [d1, d2] => { results := [.lit (.bool false)], args := [d1, d2] }
  | _ => none }
def FnExactHearJoinWrongFalsely : Prop := fnExactHearJoinRow.holds Tryz.pinned (OpenSpec.ofChange fnExactHearJoinWrong)

/-- 'laws.FnExactHearData': WHATEVER THE INPUT: true; the input reads as it did. -/
def fnExactHearDataSpec : ChangeSpec := { name := "fnExactHearData", fn := fun _ => fun
  | [d1, d2] => { results := [.lit (.bool true)], args := [d1, d2] }
  | _ => none }
def fnExactHearDataRow : OpenClaim := { program := "ytjlbibidgdnjdaagreat", sum := "961c9088fd5dca2b36a89be0dca71056b420ac314d96b9297c5e0b323eed1ac0", func := "loop.example/g00967/laws.FnExactHearData", spec := "fnExactHearData", apart := false }
def FnExactHearDataSaid : Prop := fnExactHearDataRow.holds Tryz.pinned (OpenSpec.ofChange fnExactHearDataSpec)

/-- ITS FALSE NEIGHBOUR: 'it returns false'. Refute it at one input. -/
def fnExactHearDataWrong : ChangeSpec := { name := "fnExactHearData", fn := fun _ => fun
  | [d1, d2] => { results := [.lit (.bool false)], args := [d1, d2] }
  | _ => none }
def FnExactHearDataWrongFalsely : Prop := fnExactHearDataRow.holds Tryz.pinned (OpenSpec.ofChange fnExactHearDataWrong)

/-- 'laws.FnExactPosted': WHATEVER THE INPUT: true; the input reads as it did. -/
def fnExactPostedSpec : ChangeSpec := { name := "fnExactPosted", fn := fun _ => fun
  | [d1, d2, d3] => { results := [.lit (.bool true)], args := [d1, d2, d3] }
  | _ => none }
def fnExactPostedRow : OpenClaim := { program := "ytjlbibidgdnjdaagreat", sum := "961c9088fd5dca2b36a89be0dca71056b420ac314d96b9297c5e0b323eed1ac0", func := "loop.example/g00967/laws.FnExactPosted", spec := "fnExactPosted", apart := false }
def FnExactPostedSaid : Prop := fnExactPostedRow.holds Tryz.pinned (OpenSpec.ofChange fnExactPostedSpec)

/-- ITS FALSE NEIGHBOUR: 'it returns false'. Refute it at one input. -/
def fnExactPostedWrong : ChangeSpec := { name := "fnExactPosted", fn := fun _ => fun
  | [d1, d2, d3] => { results := [.lit (.bool false)], args := [d1, d2, d3] }
  | _ => none }
def FnExactPostedWrongFalsely : Prop := fnExactPostedRow.holds Tryz.pinned (OpenSpec.ofChange fnExactPostedWrong)

/-- 'laws.FnExactManage': WHATEVER THE INPUT: true; the input reads as it did. -/
def fnExactManageSpec : ChangeSpec := { name := "fnExactManage", fn := fun _ => fun
  | [d] => { results := [.lit (.bool true)], args := [d] }
  | _ => none }
def fnExactManageRow : OpenClaim := { program := "ytjlbibidgdnjdaagreat", sum := "961c9088fd5dca2b36a89be0dca71056b420ac314d96b9297c5e0b323eed1ac0", func := "loop.example/g00967/laws.FnExactManage", spec := "fnExactManage", apart := false }
def FnExactManageSaid : Prop := fnExactManageRow.holds Tryz.pinned (OpenSpec.ofChange fnExactManageSpec)

/-- ITS FALSE NEIGHBOUR: 'it returns false'. Refute it at one input. -/
def fnExactManageWrong : ChangeSpec := { name := "fnExactManage", fn := fun _ => fun
  | [d] => { results := [.lit (.bool false)], args := [d] }
  | _ => none }
def FnExactManageWrongFalsely : Prop := fnExactManageRow.holds Tryz.pinned (OpenSpec.ofChange fnExactManageWrong)

/-- 'laws.FnExactTick': WHATEVER THE INPUT: true; the input reads as it did. -/
def fnExactTickSpec : ChangeSpec := { name := "fnExactTick", fn := fun _ => fun
  | [d] => { results := [.lit (.bool true)], args := [d] }
  | _ => none }
def fnExactTickRow : OpenClaim := { program := "ytjlbibidgdnjdaagreat", sum := "961c9088fd5dca2b36a89be0dca71056b420ac314d96b9297c5e0b323eed1ac0", func := "loop.example/g00967/laws.FnExactTick", spec := "fnExactTick", apart := false }
def FnExactTickSaid : Prop := fnExactTickRow.holds Tryz.pinned (OpenSpec.ofChange fnExactTickSpec)

/-- ITS FALSE NEIGHBOUR: 'it returns false'. Refute it at one input. -/
def fnExactTickWrong : ChangeSpec := { name := "fnExactTick", fn := fun _ => fun
  | [d] => { results := [.lit (.bool false)], args := [d] }
  | _ => none }
def FnExactTickWrongFalsely : Prop := fnExactTickRow.holds Tryz.pinned (OpenSpec.ofChange fnExactTickWrong)

/- THE SECOND FORM. 'bulk': how many values and letters a reading holds, each counted each time it is reached (what is shared counts as often as it is met; a slice's spare places count too). A statement '..UptoSaid' is the law's where the arguments, and the package variables that the reading takes, are together of bulk at most 1048576: NARROWER than '..Said'. Prove '..Said' where nothing that the law and all that it calls make is longer than what came in: it says more and counts as full. Else prove '..UptoSaid'. A law counts once. -/
mutual
def uptoBulk {H : Type} : DataW H → Nat
  | .lit (.string bytes) => bytes.length + 1
  | .lit _ => 1
  | .nil => 1
  | .ptr d => uptoBulk d + 1
  | .slice elems spare => uptoBulkAll elems + uptoBulkAll spare + 1
  | .agg parts => uptoBulkAll parts + 1
  | .iface _ d => uptoBulk d + 1
  | .map entries => uptoBulkEntries entries + 1
  | .held _ => 1
def uptoBulkAll {H : Type} : List (DataW H) → Nat
  | [] => 0
  | d :: r => uptoBulk d + uptoBulkAll r
def uptoBulkEntries {H : Type} : List (Lit × DataW H) → Nat
  | [] => 0
  | x :: r => uptoBulkEntry x + uptoBulkEntries r
def uptoBulkEntry {H : Type} : Lit × DataW H → Nat
  | (.string bytes, d) => bytes.length + uptoBulk d + 1
  | (_, d) => uptoBulk d + 1
 end
def uptoSmall : (H : Type) → List (DataW H) → Bool := fun _ ds => decide (uptoBulkAll ds ≤ 1048576)
def OpenSpec.upto (s : _root_.Go.ChangeSpec) : _root_.Go.OpenSpec := { _root_.Go.OpenSpec.ofChange s with cond := some uptoSmall }

/-- 'laws.FnExactHear', WHERE WHAT IT READS IS OF BULK AT MOST 1048576: true; the input reads as it did. -/
def fnExactHearUptoRow : OpenClaim := { program := "ytjlbibidgdnjdaagreat", sum := "961c9088fd5dca2b36a89be0dca71056b420ac314d96b9297c5e0b323eed1ac0", func := "loop.example/g00967/laws.FnExactHear", spec := "fnExactHear", apart := false, narrowed := true }
def FnExactHearUptoSaid : Prop := fnExactHearUptoRow.holds Tryz.pinned (OpenSpec.upto fnExactHearSpec)

/-- 'laws.FnExactMeet', WHERE WHAT IT READS IS OF BULK AT MOST 1048576: true; the input reads as it did. -/
def fnExactMeetUptoRow : OpenClaim := { program := "ytjlbibidgdnjdaagreat", sum := "961c9088fd5dca2b36a89be0dca71056b420ac314d96b9297c5e0b323eed1ac0", func := "loop.example/g00967/laws.FnExactMeet", spec := "fnExactMeet", apart := false, narrowed := true }
def FnExactMeetUptoSaid : Prop := fnExactMeetUptoRow.holds Tryz.pinned (OpenSpec.upto fnExactMeetSpec)

/-- 'laws.FnExactReset', WHERE WHAT IT READS IS OF BULK AT MOST 1048576: true; the input reads as it did. -/
def fnExactResetUptoRow : OpenClaim := { program := "ytjlbibidgdnjdaagreat", sum := "961c9088fd5dca2b36a89be0dca71056b420ac314d96b9297c5e0b323eed1ac0", func := "loop.example/g00967/laws.FnExactReset", spec := "fnExactReset", apart := false, narrowed := true }
def FnExactResetUptoSaid : Prop := fnExactResetUptoRow.holds Tryz.pinned (OpenSpec.upto fnExactResetSpec)

/-- 'laws.FnExactOpen', WHERE WHAT IT READS IS OF BULK AT MOST 1048576: true; the input reads as it did. -/
def fnExactOpenUptoRow : OpenClaim := { program := "ytjlbibidgdnjdaagreat", sum := "961c9088fd5dca2b36a89be0dca71056b420ac314d96b9297c5e0b323eed1ac0", func := "loop.example/g00967/laws.FnExactOpen", spec := "fnExactOpen", apart := false, narrowed := true }
def FnExactOpenUptoSaid : Prop := fnExactOpenUptoRow.holds Tryz.pinned (OpenSpec.upto fnExactOpenSpec)

/-- 'laws.FnExactHearJoinAck', WHERE WHAT IT READS IS OF BULK AT MOST 1048576: true; the input reads as it did. -/
def fnExactHearJoinAckUptoRow : OpenClaim := { program := "ytjlbibidgdnjdaagreat", sum := "961c9088fd5dca2b36a89be0dca71056b420ac314d96b9297c5e0b323eed1ac0", func := "loop.example/g00967/laws.FnExactHearJoinAck", spec := "fnExactHearJoinAck", apart := false, narrowed := true }
def FnExactHearJoinAckUptoSaid : Prop := fnExactHearJoinAckUptoRow.holds Tryz.pinned (OpenSpec.upto fnExactHearJoinAckSpec)

/-- 'laws.FnExactHearReset', WHERE WHAT IT READS IS OF BULK AT MOST 1048576: true; the input reads as it did. -/
def fnExactHearResetUptoRow : OpenClaim := { program := "ytjlbibidgdnjdaagreat", sum := "961c9088fd5dca2b36a89be0dca71056b420ac314d96b9297c5e0b323eed1ac0", func := "loop.example/g00967/laws.FnExactHearReset", spec := "fnExactHearReset", apart := false, narrowed := true }
def FnExactHearResetUptoSaid : Prop := fnExactHearResetUptoRow.holds Tryz.pinned (OpenSpec.upto fnExactHearResetSpec)

/-- 'laws.FnExactHearEcho', WHERE WHAT IT READS IS OF BULK AT MOST 1048576: true; the input reads as it did. -/
def fnExactHearEchoUptoRow : OpenClaim := { program := "ytjlbibidgdnjdaagreat", sum := "961c9088fd5dca2b36a89be0dca71056b420ac314d96b9297c5e0b323eed1ac0", func := "loop.example/g00967/laws.FnExactHearEcho", spec := "fnExactHearEcho", apart := false, narrowed := true }
def FnExactHearEchoUptoSaid : Prop := fnExactHearEchoUptoRow.holds Tryz.pinned (OpenSpec.upto fnExactHearEchoSpec)

/-- 'laws.FnExactHearBack', WHERE WHAT IT READS IS OF BULK AT MOST 1048576: true; the input reads as it did. -/
def fnExactHearBackUptoRow : OpenClaim := { program := "ytjlbibidgdnjdaagreat", sum := "961c9088fd5dca2b36a89be0dca71056b420ac314d96b9297c5e0b323eed1ac0", func := "loop.example/g00967/laws.FnExactHearBack", spec := "fnExactHearBack", apart := false, narrowed := true }
def FnExactHearBackUptoSaid : Prop := fnExactHearBackUptoRow.holds Tryz.pinned (OpenSpec.upto fnExactHearBackSpec)

/-- 'laws.FnExactJoin', WHERE WHAT IT READS IS OF BULK AT MOST 1048576: true; the input reads as it did. -/
def fnExactJoinUptoRow : OpenClaim := { program := "ytjlbibidgdnjdaagreat", sum := "961c9088fd5dca2b36a89be0dca71056b420ac314d96b9297c5e0b323eed1ac0", func := "loop.example/g00967/laws.FnExactJoin", spec := "fnExactJoin", apart := false, narrowed := true }
def FnExactJoinUptoSaid : Prop := fnExactJoinUptoRow.holds Tryz.pinned (OpenSpec.upto fnExactJoinSpec)

/-- 'laws.FnExactHearCame', WHERE WHAT IT READS IS OF BULK AT MOST 1048576: true; the input reads as it did. -/
def fnExactHearCameUptoRow : OpenClaim := { program := "ytjlbibidgdnjdaagreat", sum := "961c9088fd5dca2b36a89be0dca71056b420ac314d96b9297c5e0b323eed1ac0", func := "loop.example/g00967/laws.FnExactHearCame", spec := "fnExactHearCame", apart := false, narrowed := true }
def FnExactHearCameUptoSaid : Prop := fnExactHearCameUptoRow.holds Tryz.pinned (OpenSpec.upto fnExactHearCameSpec)

/-- 'laws.FnExactHearJoinBack', WHERE WHAT IT READS IS OF BULK AT MOST 1048576: true; the input reads as it did. -/
def fnExactHearJoinBackUptoRow : OpenClaim := { program := "ytjlbibidgdnjdaagreat", sum := "961c9088fd5dca2b36a89be0dca71056b420ac314d96b9297c5e0b323eed1ac0", func := "loop.example/g00967/laws.FnExactHearJoinBack", spec := "fnExactHearJoinBack", apart := false, narrowed := true }
def FnExactHearJoinBackUptoSaid : Prop := fnExactHearJoinBackUptoRow.holds Tryz.pinned (OpenSpec.upto fnExactHearJoinBackSpec)

/-- 'laws.FnExactDropOwn', WHERE WHAT IT READS IS OF BULK AT MOST 1048576: true; the input reads as it did. -/
def fnExactDropOwnUptoRow : OpenClaim := { program := "ytjlbibidgdnjdaagreat", sum := "961c9088fd5dca2b36a89be0dca71056b420ac314d96b9297c5e0b323eed1ac0", func := "loop.example/g00967/laws.FnExactDropOwn", spec := "fnExactDropOwn", apart := false, narrowed := true }
def FnExactDropOwnUptoSaid : Prop := fnExactDropOwnUptoRow.holds Tryz.pinned (OpenSpec.upto fnExactDropOwnSpec)

/-- 'laws.FnExactPush', WHERE WHAT IT READS IS OF BULK AT MOST 1048576: true; the input reads as it did. -/
def fnExactPushUptoRow : OpenClaim := { program := "ytjlbibidgdnjdaagreat", sum := "961c9088fd5dca2b36a89be0dca71056b420ac314d96b9297c5e0b323eed1ac0", func := "loop.example/g00967/laws.FnExactPush", spec := "fnExactPush", apart := false, narrowed := true }
def FnExactPushUptoSaid : Prop := fnExactPushUptoRow.holds Tryz.pinned (OpenSpec.upto fnExactPushSpec)

/-- 'laws.FnExactHearHello', WHERE WHAT IT READS IS OF BULK AT MOST 1048576: true; the input reads as it did. -/
def fnExactHearHelloUptoRow : OpenClaim := { program := "ytjlbibidgdnjdaagreat", sum := "961c9088fd5dca2b36a89be0dca71056b420ac314d96b9297c5e0b323eed1ac0", func := "loop.example/g00967/laws.FnExactHearHello", spec := "fnExactHearHello", apart := false, narrowed := true }
def FnExactHearHelloUptoSaid : Prop := fnExactHearHelloUptoRow.holds Tryz.pinned (OpenSpec.upto fnExactHearHelloSpec)

/-- 'laws.FnExactHearJoinDone', WHERE WHAT IT READS IS OF BULK AT MOST 1048576: true; the input reads as it did. -/
def fnExactHearJoinDoneUptoRow : OpenClaim := { program := "ytjlbibidgdnjdaagreat", sum := "961c9088fd5dca2b36a89be0dca71056b420ac314d96b9297c5e0b323eed1ac0", func := "loop.example/g00967/laws.FnExactHearJoinDone", spec := "fnExactHearJoinDone", apart := false, narrowed := true }
def FnExactHearJoinDoneUptoSaid : Prop := fnExactHearJoinDoneUptoRow.holds Tryz.pinned (OpenSpec.upto fnExactHearJoinDoneSpec)

/-- 'laws.FnExactHearGone', WHERE WHAT IT READS IS OF BULK AT MOST 1048576: true; the input reads as it did. -/
def fnExactHearGoneUptoRow : OpenClaim := { program := "ytjlbibidgdnjdaagreat", sum := "961c9088fd5dca2b36a89be0dca71056b420ac314d96b9297c5e0b323eed1ac0", func := "loop.example/g00967/laws.FnExactHearGone", spec := "fnExactHearGone", apart := false, narrowed := true }
def FnExactHearGoneUptoSaid : Prop := fnExactHearGoneUptoRow.holds Tryz.pinned (OpenSpec.upto fnExactHearGoneSpec)

/-- 'laws.FnExactHearAddr', WHERE WHAT IT READS IS OF BULK AT MOST 1048576: true; the input reads as it did. -/
def fnExactHearAddrUptoRow : OpenClaim := { program := "ytjlbibidgdnjdaagreat", sum := "961c9088fd5dca2b36a89be0dca71056b420ac314d96b9297c5e0b323eed1ac0", func := "loop.example/g00967/laws.FnExactHearAddr", spec := "fnExactHearAddr", apart := false, narrowed := true }
def FnExactHearAddrUptoSaid : Prop := fnExactHearAddrUptoRow.holds Tryz.pinned (OpenSpec.upto fnExactHearAddrSpec)

/-- 'laws.FnExactWriteAll', WHERE WHAT IT READS IS OF BULK AT MOST 1048576: true; the input reads as it did. -/
def fnExactWriteAllUptoRow : OpenClaim := { program := "ytjlbibidgdnjdaagreat", sum := "961c9088fd5dca2b36a89be0dca71056b420ac314d96b9297c5e0b323eed1ac0", func := "loop.example/g00967/laws.FnExactWriteAll", spec := "fnExactWriteAll", apart := false, narrowed := true }
def FnExactWriteAllUptoSaid : Prop := fnExactWriteAllUptoRow.holds Tryz.pinned (OpenSpec.upto fnExactWriteAllSpec)

/-- 'laws.FnExactWorldNew', WHERE WHAT IT READS IS OF BULK AT MOST 1048576: true; the input reads as it did. -/
def fnExactWorldNewUptoRow : OpenClaim := { program := "ytjlbibidgdnjdaagreat", sum := "961c9088fd5dca2b36a89be0dca71056b420ac314d96b9297c5e0b323eed1ac0", func := "loop.example/g00967/laws.FnExactWorldNew", spec := "fnExactWorldNew", apart := false, narrowed := true }
def FnExactWorldNewUptoSaid : Prop := fnExactWorldNewUptoRow.holds Tryz.pinned (OpenSpec.upto fnExactWorldNewSpec)

/-- 'laws.FnExactHearJoin', WHERE WHAT IT READS IS OF BULK AT MOST 1048576: true; the input reads as it did. -/
def fnExactHearJoinUptoRow : OpenClaim := { program := "ytjlbibidgdnjdaagreat", sum := "961c9088fd5dca2b36a89be0dca71056b420ac314d96b9297c5e0b323eed1ac0", func := "loop.example/g00967/laws.FnExactHearJoin", spec := "fnExactHearJoin", apart := false, narrowed := true }
def FnExactHearJoinUptoSaid : Prop := fnExactHearJoinUptoRow.holds Tryz.pinned (OpenSpec.upto fnExactHearJoinSpec)

/-- 'laws.FnExactHearData', WHERE WHAT IT READS IS OF BULK AT MOST 1048576: true; the input reads as it did. -/
def fnExactHearDataUptoRow : OpenClaim := { program := "ytjlbibidgdnjdaagreat", sum := "961c9088fd5dca2b36a89be0dca71056b420ac314d96b9297c5e0b323eed1ac0", func := "loop.example/g00967/laws.FnExactHearData", spec := "fnExactHearData", apart := false, narrowed := true }
def FnExactHearDataUptoSaid : Prop := fnExactHearDataUptoRow.holds Tryz.pinned (OpenSpec.upto fnExactHearDataSpec)

/-- 'laws.FnExactPosted', WHERE WHAT IT READS IS OF BULK AT MOST 1048576: true; the input reads as it did. -/
def fnExactPostedUptoRow : OpenClaim := { program := "ytjlbibidgdnjdaagreat", sum := "961c9088fd5dca2b36a89be0dca71056b420ac314d96b9297c5e0b323eed1ac0", func := "loop.example/g00967/laws.FnExactPosted", spec := "fnExactPosted", apart := false, narrowed := true }
def FnExactPostedUptoSaid : Prop := fnExactPostedUptoRow.holds Tryz.pinned (OpenSpec.upto fnExactPostedSpec)

/-- 'laws.FnExactManage', WHERE WHAT IT READS IS OF BULK AT MOST 1048576: true; the input reads as it did. -/
def fnExactManageUptoRow : OpenClaim := { program := "ytjlbibidgdnjdaagreat", sum := "961c9088fd5dca2b36a89be0dca71056b420ac314d96b9297c5e0b323eed1ac0", func := "loop.example/g00967/laws.FnExactManage", spec := "fnExactManage", apart := false, narrowed := true }
def FnExactManageUptoSaid : Prop := fnExactManageUptoRow.holds Tryz.pinned (OpenSpec.upto fnExactManageSpec)

/-- 'laws.FnExactTick', WHERE WHAT IT READS IS OF BULK AT MOST 1048576: true; the input reads as it did. -/
def fnExactTickUptoRow : OpenClaim := { program := "ytjlbibidgdnjdaagreat", sum := "961c9088fd5dca2b36a89be0dca71056b420ac314d96b9297c5e0b323eed1ac0", func := "loop.example/g00967/laws.FnExactTick", spec := "fnExactTick", apart := false, narrowed := true }
def FnExactTickUptoSaid : Prop := fnExactTickUptoRow.holds Tryz.pinned (OpenSpec.upto fnExactTickSpec)

end Rows
end Go.Proofs.YtjlbibidgdnjdaaGreat
