/- For all arguments the law FnTwice returns true and its arguments read afterwards as before; no condition on the arguments. -/
import Derived.Test.YtnpeomhpbakgnaaGreatRows
import Derived.Test.YtnpeomhpbakgnaaGreatLawFnTwice
import Derived.Test.YtnpeomhpbakgnaaGreatHead
import Derived.WalkKit
import Derived.ProofKit
import Derived.OpenShut
namespace Go.Proofs.YtnpeomhpbakgnaaGreat.fnTwice
open Go.ChangeShapes Go.WideShapes Go.ChangeAt Go.RowKit Go.Eng
set_option linter.unusedVariables false
set_option linter.unusedSimpArgs false

theorem own : ownKnob Tryz.prog.godebug = none := by kernel_rfl
set_option maxRecDepth 100000 in
theorem tys : tysOk E Tryz.f4.params.toList [aRow .u8] := ⟨rfl, rfl, trivial⟩
theorem reads : ∀ t ∈ Tryz.f4.params.toList, E.P.readableRec t = true ∧ t < E.P.types.size := by
  have h : (Tryz.f4.params.toList.all fun t => E.P.readableRec t && decide (t < E.P.types.size)) = true := by kernel_rfl
  intro t ht
  have := List.all_eq_true.1 h t ht
  simpa using this

theorem facts : joinedFacts Tryz.prog 4 Tryz.f4 Rows.fnTwiceSpec Rows.fnTwiceRow = true := by
  unfold joinedFacts
  rw [laid, rowed, heard, enter, lift, made, plain]
  kernel_rfl

set_option maxRecDepth 100000 in
theorem lifted (os : Os) (started : os.Started) (H : Type) (enc : TypeId × Value → H) :
    ReturnsInHanded {} Tryz.checked os 4 .any (Rows.fnTwiceSpec.pre6 enc Tryz.prog Tryz.f4 Rows.fnTwiceRow.domain false) (Rows.fnTwiceSpec.post enc Tryz.prog Tryz.f4 false true false false) := by
  refine returnsInHanded_of_change (C := Tryz.checked) own started (by kernel_rfl) Tryz.func4
    (ChangeSpec.witness6 (enc := enc) (C := Tryz.checked) false ⟨#[], #[.slice none 0 0], []⟩ 8 (by kernel_rfl) (by kernel_rfl) (by kernel_rfl) (by kernel_rfl)) ?_
  intro W base args ds gs before hval0 hW hcnd _
  have hval : ∀ (j : Nat) (t : TypeId) (v : Value), Tryz.f4.params.toList[j]? = some t → args.toList[j]? = some v → Value.okWide E.P W .any base t v := fun j t v h1 h2 => hval0 j t v (by simpa using h1) (by simpa using h2)
  have hW' := hW
  obtain ⟨p, q, hA0, hV, rfl, hfz, hnd⟩ := hW
  have hA0' := hA0
  have hA : DataW.TrodAll enc Tryz.prog W 0 (fun _ => true) true Tryz.f4.params.toList args.toList ds p := hA0
  rw [Tryz.params4] at hA
  obtain ⟨v0, vs0, d0, ds0, p0, q0, hg0, rfl, rfl, h0, r0⟩ := trodAll_cons hA
  obtain ⟨rfl, rfl, rfl⟩ := trodAll_nil r0
  obtain ⟨x, ro, ha, hwf⟩ := args_read (E := E) tys hA0' hval
  have hc := law_calls (E := E) h_laws_FnTwice ha hwf
  rw [Array.toArray_toList] at hc
  refine Calls.mono hc fun e W' ⟨he, hb⟩ => ?_
  subst he
  obtain ⟨rfl, rfl⟩ := trodVars_none hV
  exact ⟨_, rfl, law_post (E := E) laid reads rfl rfl rfl rfl hW' hb⟩

theorem over : Rows.fnTwiceRow.holds Tryz.pinned (OpenSpec.ofChange Rows.fnTwiceSpec) :=
  OpenClaim.holds_of_wide 4 Tryz.f4 rfl rfl rfl rfl rfl rfl rfl ⟨rfl, rfl, rfl, rfl, rfl⟩ rfl rfl rfl rfl rfl (by kernel_rfl) Tryz.func4 facts
    (of_decide_eq_true (by kernel_rfl)) (by unfold Func.isWrapper; first | (rw [if_pos (by decide +kernel)]; kernel_rfl) | (rw [if_neg (by decide +kernel)]; exact ⟨rfl, rfl⟩))
    (fun os started H enc _ => lifted os started H enc)

/-- THE STATEMENT -/
theorem proved : Rows.FnTwiceSaid :=
  over
end Go.Proofs.YtnpeomhpbakgnaaGreat.fnTwice
