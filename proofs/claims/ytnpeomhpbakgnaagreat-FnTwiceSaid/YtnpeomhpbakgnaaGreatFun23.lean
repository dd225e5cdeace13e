/- Contracts of functions of the program, each shown over the text. -/
import Derived.Test.YtnpeomhpbakgnaaGreatFun21
set_option linter.unusedVariables false
set_option linter.unusedSimpArgs false
set_option maxRecDepth 100000
set_option maxHeartbeats 1000000
namespace Go.Proofs.YtnpeomhpbakgnaaGreat
open Go.Eng
theorem h_spec_l22End : Ctr.holds E 158 (⟨[aCur], [.ref], [aEnd], (fun ((c : DCur), _) => c.B), (fun ((c : DCur), _) => (dEnd c, ())), (fun ((c : DCur), _) => (dEndC c, ())), false, .ret⟩) := by
  refine fn_okw prgOk (gcons h_spec_l22Ends (gcons h_spec_l01Once gnil)) Tryz.func158 rfl rfl rfl (fun ⟨c, _⟩ _ => ⟨by simp [LenC, dEndC_b], trivial⟩) ?_
  rintro ty ⟨(c : DCur), _⟩ (hp : c.B)
  have hb1 := mEnds_B hp
  obtain ⟨_, _, _⟩ := id hb1
  refine ⟨[], ?_⟩
  repeat' ((conv => whnf); first | refine toOb2 ?_ | refine And.intro (fun _ => ?_) (fun _ => ?_) | refine And.intro ?_ ?_ | refine toEx2 ?_ | refine toY ?_ | intro _)
  all_goals first | refine Ob2.mk ?_ | (show drawOk _ _ _ = true; exact rfl)
  all_goals (try simp only [allP, side, Ctr.reads, etas]); all_goals repeat' (first | exact sp1 | refine And.intro ?_ ?_)
  all_goals (try simp only [cfa, cfb, mCur_b, mCur_fold, mEnds_b, Ctr.reads, etas] at *)
  all_goals (try simp only [nbls] at *)
  all_goals first | done | with_reducible assumption | with_reducible rfl | omega | grind [dEnd, dEndC, mOnce]
theorem h_spec_l14Any : Ctr.holds E 161 (⟨[aCur], [.ref], [aRow .half], (fun ((c : DCur), _) => c.B), (fun ((c : DCur), _) => ((dHalfsAny c).1, ())), (fun ((c : DCur), _) => ((dHalfsAny c).2, ())), false, .ret⟩) := by
  refine fn_okw prgOk (gcons h_spec_l14List (gcons h_spec_l01Once (gcons h_spec_l14Half (gcons h_spec_l01PickInt gnil)))) Tryz.func161 rfl rfl rfl (fun ⟨c, _⟩ _ => ⟨by simp [LenC, dHalfsAny_b], trivial⟩) ?_
  rintro ty ⟨(c : DCur), _⟩ (hp : c.B)
  obtain ⟨_, _, _⟩ := id hp
  have hb1 := dHalfs_B hp
  obtain ⟨_, _, _⟩ := id hb1
  have hb2 := mBelowC_B 8 hb1
  obtain ⟨_, _, _⟩ := id hb2
  have hb3 := dHalfC_B hb2
  obtain ⟨_, _, _⟩ := id hb3
  have hb4 := mBelowC_B 10 hb2
  obtain ⟨_, _, _⟩ := id hb4
  have hb5 := mBelowC_B 10 hb3
  obtain ⟨_, _, _⟩ := id hb5
  have hln := dHalfs_len c
  have hla : lTil.length = 2 := rfl
  have hlit : ([-1, 1000000001] : List Int) = lTil := rfl
  refine ⟨[], ?_⟩
  repeat' ((conv => whnf); first | refine toOb2 ?_ | refine And.intro (fun _ => ?_) (fun _ => ?_) | refine And.intro ?_ ?_ | refine toEx2 ?_ | refine toY ?_ | intro _)
  all_goals first | refine Ob2.mk ?_ | (show drawOk _ _ _ = true; exact rfl)
  all_goals (try simp only [allP, side, Ctr.reads, etas]); all_goals repeat' (first | exact sp1 | refine And.intro ?_ ?_)
  all_goals (try simp only [cfa, cfb, cfc, hlit, ETy.frm, Ctr.reads, etas] at *)
  all_goals (try simp only [nbls] at *)
  all_goals first | done | with_reducible assumption | with_reducible rfl | omega | grind [dHalfsAny, dHalfs1, dHalfs2]
set_option maxHeartbeats 4000000 in
theorem h_spec_l10Out : Ctr.holds E 219 (⟨[aCur], [.ref], [aOut], (fun ((c : DCur), _) => c.B), (fun ((c : DCur), _) => ((dOutL c).1, ())), (fun ((c : DCur), _) => ((dOutL c).2, ())), false, .ret⟩) := by
  refine fn_okw prgOk (gcons h_spec_l01Below (gcons h_spec_l01PickInt (gcons h_spec_l01Text (gcons h_spec_Accept (gcons h_spec_WasSent (gcons h_spec_Came (gcons h_spec_Anew gnil))))))) Tryz.func219 rfl rfl rfl (fun ⟨c, _⟩ _ => ⟨by simp [LenC, dOutL_b], trivial⟩) ?_
  rintro ty ⟨(c : DCur), _⟩ (hp : c.B)
  have hty : Nat.beq (ty 0) (ty 0) = true := Nat.beq_refl _
  obtain ⟨_, _, _⟩ := id hp
  have hb1 := mBelowC_B 50 hp
  obtain ⟨_, _, _⟩ := id hb1
  have hc1 : (mPickIntC (mBelowC c 50) lRoom).B := mBelowC_B _ hb1
  have hla : lRoom.length = 4 := rfl
  have hlit : ([200, 60, 10, 1] : List Int) = lRoom := rfl
  refine ⟨[(4, { X := Nat × DCur × DOut, inv := fun z => z.1 ≤ 5 ∧ z.2.1.B ∧ z.2.1.b = c.b ∧ dLoop 5 outStep (6 - z.1) z.1 z.2.1 z.2.2 = dOutL c, mu := fun z => 5 - z.1, vk := [4], ov := fun z => [.a (.c (.leaf (.int (z.1 : Int))))], bk := [0, 3], ob := fun z => [[.row 0, .leaf (.int z.2.1.i), .leaf (.int z.2.1.h)], [.leaf (.str z.2.2.text), .leaf (.int z.2.2.base), .leaf (.int z.2.2.sent), .leaf (.int z.2.2.room)]], rk := [], orr := fun z => [] })], ?_⟩
  repeat' ((conv => whnf); first | refine toOb2 ?_ | (refine fun y hy => ?_; (try simp only [Ctr.reads, cfa, cfb, cfc, ETy.frm, hlit, etas] at hy); subst hy) | refine And.intro (fun _ => ?_) (fun _ => ?_) | refine And.intro (toOb2 ?_) ?_ | refine And.intro (?_ : drawOk _ _ _ = true) ?_ | (refine And.intro ⟨?_, ?_⟩ ?_; fail) | intro _)
  all_goals first | (refine Ob2.mk ?_; (try simp only [allP, side, Ctr.reads, cfa, cfb, cfc, ETy.frm, hlit, etas]); first | done | trivial | assumption | omega | ((repeat' (first | exact id | with_reducible assumption | exact trivial | refine And.intro ?_ ?_)); all_goals first | done | omega | trace_state) | trace_state) | (show drawOk _ _ _ = true; exact rfl) | skip
  conv => whnf
  refine And.intro ⟨((0, mPickIntC (mBelowC c 50) lRoom, dOut0 c) : Nat × DCur × DOut), Ob.mk ?_, ?_⟩ (fun (z : Nat × DCur × DOut) hi => ?_)
  · exact And.intro (Nat.zero_le _) (And.intro hc1 (And.intro (by first | rfl | simp only [cfa, cfb, cfc, ETy.frm]) rfl))
  · conv => whnf
    rw [hty]
    conv => whnf
    refine Ob.mk ?_
    all_goals (try simp only [allP, side, Ctr.reads, etas]); all_goals repeat' (first | exact sp1 | refine And.intro ?_ ?_)
    all_goals (try simp only [dCur_eta, cfa, cfb, cfc, ETy.frm])
    all_goals first | done | rfl | exact trivial | trace_state
  obtain ⟨i, u, o⟩ := z
  obtain ⟨hi, hu, hcb, hm⟩ := hi
  have hi : i ≤ 5 := hi
  have hu : u.B := hu
  have hcb : u.b = c.b := hcb
  have hm : dLoop 5 outStep (6 - i) i u o = dOutL c := hm
  obtain ⟨k, hk⟩ : ∃ k, 6 - i = k + 1 := ⟨5 - i, by omega⟩
  have hk2 : 6 - (i + 1) = k := by omega
  rw [hk, dLoop] at hm
  have hbd := mBelow_bd (c := u) (n := 5) (by decide)
  have hu1 := mBelowC_B 5 hu
  have hfold : (⟨c.b, u.i, u.h⟩ : DCur) = u := dCur_fold hcb
  obtain ⟨_, _, _⟩ := id hu
  obtain ⟨_, _, _⟩ := id hu1
  by_cases hlt : (i : Int) < mBelow u 5
  · rw [if_pos hlt, ← hk2] at hm
    have hw := w64_succ (i := i) (m := 5) (by omega) (by decide)
    have hnext : ((i + 1 ≤ 5 ∧ (outStep (mBelowC u 5) o).2.B ∧ (outStep (mBelowC u 5) o).2.b = c.b ∧ dLoop 5 outStep (6 - (i + 1)) (i + 1) (outStep (mBelowC u 5) o).2 (outStep (mBelowC u 5) o).1 = dOutL c) ∧ 5 - (i + 1) < 5 - i) := ⟨⟨by omega, outStep_B _ _ hu1, by rw [outStep_b, mBelowC_b, hcb], hm⟩, by omega⟩
    clear hm
    have hkb := mBelow_bd (c := mBelowC u 5) (n := 4) (by decide)
    have hu2 := mBelowC_B 4 hu1
    have hu3 := mBelowC_B 40 hu2
    have hu4 := mBelowC_B 20 hu2
    obtain ⟨_, _, _⟩ := id hu2
    obtain ⟨_, _, _⟩ := id hu3
    have hkc : mBelow (mBelowC u 5) 4 = 0 ∨ mBelow (mBelowC u 5) 4 = 1 ∨ mBelow (mBelowC u 5) 4 = 2 ∨ mBelow (mBelowC u 5) 4 = 3 := by omega
    rcases hkc with hkk | hkk | hkk | hkk
    all_goals (
      have hS : outStep (mBelowC u 5) o = outStep (mBelowC u 5) o := rfl
      conv at hS => rhs; rw [outStep]
      simp only [hkk, Int.reduceEq, if_true, if_false] at hS
      repeat' ((conv => whnf); first | refine toOb2 ?_ | (refine fun y hy => ?_; (try simp only [Ctr.reads, Ctr.parts, hkk, hlt, hfold, cfa, cfb, cfc, ETy.frm, hcb, beq_iff_eq, beq_self_eq_true, beq_eq_false_iff_ne, ne_eq, Int.reduceEq, spps, reduceCtorEq, ETy.frm, if_true, if_false, implies_true, nbls, etas] at hy); subst hy) | (refine And.intro (fun h => ?_) (fun h => ?_) <;> (try simp only [hkk, hlt, hfold, cfa, cfb, cfc, ETy.frm, hcb, beq_iff_eq, beq_self_eq_true, beq_eq_false_iff_ne, ne_eq, Int.reduceEq, spps, reduceCtorEq, ETy.frm, if_true, if_false, implies_true, nbls, etas] at h)) | refine And.intro (toOb2 ?_) ?_ | refine And.intro (?_ : drawOk _ _ _ = true) ?_ | (refine And.intro ⟨?_, ?_⟩ ?_; fail) | intro _)
      all_goals try (exfalso; omega)
      all_goals first | (refine Ob2.mk ?_; (try simp only [allP, side, Ctr.reads, hS, hkk, hlt, hfold, cfa, cfb, cfc, ETy.frm, hcb, beq_iff_eq, beq_self_eq_true, beq_eq_false_iff_ne, ne_eq, Int.reduceEq, etas])) | (show drawOk _ _ _ = true; exact rfl) | (refine toEx2 ?_; refine Ex2.of ((i + 1, (outStep (mBelowC u 5) o).2, (outStep (mBelowC u 5) o).1) : Nat × DCur × DOut) hnext ?_; (conv => whnf); rw [hty]; (conv => whnf); refine Ob.mk ?_; (try simp only [allP, side, Ctr.reads, hS, hkk, hlt, hfold, cfa, cfb, cfc, ETy.frm, hcb, beq_iff_eq, beq_self_eq_true, beq_eq_false_iff_ne, ne_eq, Int.reduceEq, etas])) | skip
      all_goals first | done | with_reducible assumption | ((repeat' (first | with_reducible exact rfl | exact trivial | with_reducible assumption | exact id | refine And.intro ?_ ?_)); all_goals first | done | omega | exact hw.symm | exact hcb | exact hcb.symm | exact Nat.zero_le _ | trace_state) | trace_state)
  · rw [if_neg hlt] at hm
    repeat' ((conv => whnf); first | refine toOb2 ?_ | (refine fun y hy => ?_; (try simp only [Ctr.reads, Ctr.parts, hlt, hfold, cfa, cfb, cfc, ETy.frm, hcb, spps, reduceCtorEq, ETy.frm, if_true, if_false, implies_true, nbls, etas] at hy); subst hy) | (refine And.intro (fun h => ?_) (fun h => ?_) <;> (try simp only [hlt, hfold, cfa, cfb, cfc, ETy.frm, hcb, spps, reduceCtorEq, ETy.frm, if_true, if_false, implies_true, nbls, etas] at h)) | refine And.intro (toOb2 ?_) ?_ | refine And.intro (?_ : drawOk _ _ _ = true) ?_ | (refine And.intro ⟨?_, ?_⟩ ?_; fail) | intro _)
    all_goals try (exfalso; omega)
    all_goals first | (refine Ob2.mk ?_; (try simp only [allP, side, Ctr.reads, hlt, hfold, cfa, cfb, cfc, ETy.frm, hcb, ← hm, etas])) | (show drawOk _ _ _ = true; exact rfl) | skip
    all_goals first | done | with_reducible assumption | ((repeat' (first | with_reducible exact rfl | exact trivial | with_reducible assumption | exact id | refine And.intro ?_ ?_)); all_goals first | done | omega | exact hw.symm | exact hcb | exact hcb.symm | exact Nat.zero_le _ | trace_state) | trace_state
theorem h_spec_l10Any : Ctr.holds E 162 (⟨[aCur], [.ref], [aOut], (fun ((c : DCur), _) => c.B), (fun ((c : DCur), _) => ((dOutAny c).1, ())), (fun ((c : DCur), _) => ((dOutAny c).2, ())), false, .ret⟩) := by
  refine fn_okw prgOk (gcons h_spec_l10Out (gcons h_spec_l01Below (gcons h_spec_l01PickInt gnil))) Tryz.func162 rfl rfl rfl (fun ⟨c, _⟩ _ => ⟨by simp [LenC, dOutAny_b], trivial⟩) ?_
  rintro ty ⟨(c : DCur), _⟩ (hp : c.B)
  obtain ⟨_, _, _⟩ := id hp
  have hb1 := dOutL_B hp
  obtain ⟨_, _, _⟩ := id hb1
  have hb2 := mBelowC_B 12 hb1
  obtain ⟨_, _, _⟩ := id hb2
  have hla1 : lBase.length = 4 := rfl
  have hla2 : lSent.length = 3 := rfl
  have hla3 : lRoom2.length = 4 := rfl
  have hlit : ([-1, 1000000000, 1000000001, 3] : List Int) = lBase := rfl
  have hlit2 : ([-1, 0, 500] : List Int) = lSent := rfl
  have hlit3 : ([0, 201, 1, -1] : List Int) = lRoom2 := rfl
  refine ⟨[], ?_⟩
  repeat' ((conv => whnf); first | refine toOb2 ?_ | refine And.intro (fun _ => ?_) (fun _ => ?_) | refine And.intro ?_ ?_ | refine toEx2 ?_ | refine toY ?_ | intro _)
  all_goals first | refine Ob2.mk ?_ | (show drawOk _ _ _ = true; exact rfl)
  all_goals (try simp only [allP, side, Ctr.reads, etas]); all_goals repeat' (first | exact sp1 | refine And.intro ?_ ?_)
  all_goals (try simp only [cfa, cfb, cfc, hlit, hlit2, hlit3, ETy.frm, Ctr.reads, etas] at *)
  all_goals (try simp only [nbls] at *)
  all_goals first | done | with_reducible assumption | with_reducible rfl | omega | grind [dOutAny, dOut2]
set_option maxHeartbeats 4000000 in
theorem h_spec_l09Pieces : Ctr.holds E 220 (⟨[aCur], [.ref], [aPieces], (fun ((c : DCur), _) => c.B), (fun ((c : DCur), _) => ((dPcs c).1, ())), (fun ((c : DCur), _) => ((dPcs c).2, ())), false, .ret⟩) := by
  refine fn_okw prgOk (gcons h_spec_l01Below (gcons h_spec_l01Text (gcons h_spec_PutPiece gnil))) Tryz.func220 rfl rfl rfl (fun ⟨c, _⟩ _ => ⟨by simp [LenC, dPcs_b], trivial⟩) ?_
  rintro ty ⟨(c : DCur), _⟩ (hp : c.B)
  have hty : Nat.beq (ty 0) (ty 0) = true := Nat.beq_refl _
  obtain ⟨_, _, _⟩ := id hp
  have hc1 : (mBelowC c 9).B := mBelowC_B _ hp
  have hlit : True := trivial
  refine ⟨[(3, { X := Nat × DCur × DPieces, inv := fun z => z.1 ≤ 6 ∧ z.2.1.B ∧ z.2.1.b = c.b ∧ dLoop 6 pcStep (7 - z.1) z.1 z.2.1 z.2.2 = dPcs c ∧ (z.2.2.O), mu := fun z => 6 - z.1, vk := [4], ov := fun z => [.a (.c (.leaf (.int (z.1 : Int))))], bk := [0, 3], ob := fun z => [[.row 0, .leaf (.int z.2.1.i), .leaf (.int z.2.1.h)], [.leaf (.int z.2.2.read), .leaf (.str z.2.2.ready), .row 20000]], rk := [20000], orr := fun z => [⟨.piece, z.2.2.list, true, none⟩] })], ?_⟩
  repeat' ((conv => whnf); first | refine toOb2 ?_ | (refine fun y hy => ?_; (try simp only [Ctr.reads, cfa, cfb, cfc, ETy.frm, hlit, etas] at hy); subst hy) | refine And.intro (fun _ => ?_) (fun _ => ?_) | refine And.intro (toOb2 ?_) ?_ | refine And.intro (?_ : drawOk _ _ _ = true) ?_ | (refine And.intro ⟨?_, ?_⟩ ?_; fail) | intro _)
  all_goals first | (refine Ob2.mk ?_; (try simp only [allP, side, Ctr.reads, cfa, cfb, cfc, ETy.frm, hlit, etas]); first | done | trivial | assumption | omega | ((repeat' (first | exact id | with_reducible assumption | exact trivial | refine And.intro ?_ ?_)); all_goals first | done | omega | trace_state) | trace_state) | (show drawOk _ _ _ = true; exact rfl) | skip
  conv => whnf
  refine And.intro ⟨((0, mBelowC c 9, dPcs0 c) : Nat × DCur × DPieces), Ob.mk ?_, ?_⟩ (fun (z : Nat × DCur × DPieces) hi => ?_)
  · exact And.intro (Nat.zero_le _) (And.intro hc1 (And.intro (by first | rfl | simp only [cfa, cfb, cfc, ETy.frm]) (And.intro rfl (dPcs0_O c))))
  · conv => whnf
    rw [hty]
    conv => whnf
    refine Ob.mk ?_
    all_goals (try simp only [allP, side, Ctr.reads, etas]); all_goals repeat' (first | exact sp1 | refine And.intro ?_ ?_)
    all_goals (try simp only [dCur_eta, cfa, cfb, cfc, ETy.frm])
    all_goals first | done | rfl | exact trivial | trace_state
  obtain ⟨i, u, o⟩ := z
  obtain ⟨hi, hu, hcb, hm, hx⟩ := hi
  have hi : i ≤ 6 := hi
  have hu : u.B := hu
  have hcb : u.b = c.b := hcb
  have hm : dLoop 6 pcStep (7 - i) i u o = dPcs c := hm
  have hx : o.O := hx
  obtain ⟨k, hk⟩ : ∃ k, 7 - i = k + 1 := ⟨6 - i, by omega⟩
  have hk2 : 7 - (i + 1) = k := by omega
  rw [hk, dLoop] at hm
  have hbd := mBelow_bd (c := u) (n := 6) (by decide)
  have hu1 := mBelowC_B 6 hu
  have hfold : (⟨c.b, u.i, u.h⟩ : DCur) = u := dCur_fold hcb
  obtain ⟨_, _, _⟩ := id hu
  obtain ⟨_, _, _⟩ := id hu1
  by_cases hlt : (i : Int) < mBelow u 6
  · rw [if_pos hlt, ← hk2] at hm
    have hw := w64_succ (i := i) (m := 6) (by omega) (by decide)
    have hnext : ((i + 1 ≤ 6 ∧ (pcStep (mBelowC u 6) o).2.B ∧ (pcStep (mBelowC u 6) o).2.b = c.b ∧ dLoop 6 pcStep (7 - (i + 1)) (i + 1) (pcStep (mBelowC u 6) o).2 (pcStep (mBelowC u 6) o).1 = dPcs c ∧ ((pcStep (mBelowC u 6) o).1.O)) ∧ 6 - (i + 1) < 6 - i) := ⟨⟨by omega, pcStep_B _ _ hu1, by rw [pcStep_b, mBelowC_b, hcb], hm, pcStep_O _ _ hx⟩, by omega⟩
    clear hm
    have hu2 := mBelowC_B 50 hu1
    have hu3 := mBelowC_B 12 hu2
    obtain ⟨_, _, _⟩ := id hu2
    obtain ⟨_, _, _⟩ := id hu3
    have hS0 := O_S hx
    have hS : pcStep (mBelowC u 6) o = (mPutPiece o (mBelow (mBelowC u 6) 50) (dText (mBelowC (mBelowC (mBelowC u 6) 50) 12) (w64 (1 + mBelow (mBelowC (mBelowC u 6) 50) 12))), dTextC (mBelowC (mBelowC (mBelowC u 6) 50) 12) (w64 (1 + mBelow (mBelowC (mBelowC u 6) 50) 12))) := rfl
    repeat' ((conv => whnf); first | refine toOb2 ?_ | (refine fun y hy => ?_; (try simp only [Ctr.reads, Ctr.parts, hlt, hfold, cfa, cfb, cfc, ETy.frm, hcb, spps, reduceCtorEq, ETy.frm, if_true, if_false, implies_true, nbls, etas] at hy); subst hy) | (refine And.intro (fun h => ?_) (fun h => ?_) <;> (try simp only [hlt, hfold, cfa, cfb, cfc, ETy.frm, hcb, spps, reduceCtorEq, ETy.frm, if_true, if_false, implies_true, nbls, etas] at h)) | refine And.intro (toOb2 ?_) ?_ | refine And.intro (?_ : drawOk _ _ _ = true) ?_ | (refine And.intro ⟨?_, ?_⟩ ?_; fail) | intro _)
    all_goals try (exfalso; omega)
    all_goals first | (refine Ob2.mk ?_; (try simp only [allP, side, Ctr.reads, hS, hlt, hfold, cfa, cfb, cfc, ETy.frm, hcb, etas])) | (show drawOk _ _ _ = true; exact rfl) | (refine toEx2 ?_; refine Ex2.of ((i + 1, (pcStep (mBelowC u 6) o).2, (pcStep (mBelowC u 6) o).1) : Nat × DCur × DPieces) hnext ?_; (conv => whnf); rw [hty]; (conv => whnf); refine Ob.mk ?_; (try simp only [allP, side, Ctr.reads, hS, hlt, hfold, cfa, cfb, cfc, ETy.frm, hcb, etas])) | skip
    all_goals first | done | with_reducible assumption | ((repeat' (first | with_reducible exact rfl | exact trivial | with_reducible assumption | exact id | refine And.intro ?_ ?_)); all_goals first | done | omega | exact hw.symm | exact hcb | exact hcb.symm | exact Nat.zero_le _ | trace_state) | trace_state
  · rw [if_neg hlt] at hm
    repeat' ((conv => whnf); first | refine toOb2 ?_ | (refine fun y hy => ?_; (try simp only [Ctr.reads, Ctr.parts, hlt, hfold, cfa, cfb, cfc, ETy.frm, hcb, spps, reduceCtorEq, ETy.frm, if_true, if_false, implies_true, nbls, etas] at hy); subst hy) | (refine And.intro (fun h => ?_) (fun h => ?_) <;> (try simp only [hlt, hfold, cfa, cfb, cfc, ETy.frm, hcb, spps, reduceCtorEq, ETy.frm, if_true, if_false, implies_true, nbls, etas] at h)) | refine And.intro (toOb2 ?_) ?_ | refine And.intro (?_ : drawOk _ _ _ = true) ?_ | (refine And.intro ⟨?_, ?_⟩ ?_; fail) | intro _)
    all_goals try (exfalso; omega)
    all_goals first | (refine Ob2.mk ?_; (try simp only [allP, side, Ctr.reads, hlt, hfold, cfa, cfb, cfc, ETy.frm, hcb, ← hm, etas])) | (show drawOk _ _ _ = true; exact rfl) | skip
    all_goals first | done | with_reducible assumption | ((repeat' (first | with_reducible exact rfl | exact trivial | with_reducible assumption | exact id | refine And.intro ?_ ?_)); all_goals first | done | omega | exact hw.symm | exact hcb | exact hcb.symm | exact Nat.zero_le _ | trace_state) | trace_state
theorem h_spec_l01Pick : Ctr.holds E 221 (⟨[aCur, aRow .str], [.ref, .ro], [aStr], (fun ((c : DCur), (l : List (List UInt8)), _) => c.B ∧ 0 < l.length ∧ l.length ≤ 1073741824), (fun ((c : DCur), (l : List (List UInt8)), _) => (mPickS c l, ())), (fun ((c : DCur), (l : List (List UInt8)), _) => (mPickSC c l, l, ())), false, .ret⟩) := by
  refine fn_okw prgOk (gcons h_spec_l01Below gnil) Tryz.func221 rfl rfl rfl (fun ⟨c, n, _⟩ _ => ⟨by simp [LenC, mPickSC, mBelowC_b], trivial, trivial⟩) ?_
  rintro ty ⟨(c : DCur), (l : List (List UInt8)), _⟩ (hp : c.B ∧ 0 < l.length ∧ l.length ≤ 1073741824)
  obtain ⟨hp, hl, hl2⟩ := hp
  have hbd := mBelow_bd (c := c) (n := l.length) (by omega)
  refine ⟨[], ?_⟩
  repeat' ((conv => whnf); first | refine toOb2 ?_ | refine And.intro (fun _ => ?_) (fun _ => ?_) | refine And.intro ?_ ?_ | refine toEx2 ?_ | refine toY ?_ | intro _)
  all_goals first | refine Ob2.mk ?_ | (show drawOk _ _ _ = true; exact rfl)
  all_goals (try simp only [allP, side, Ctr.reads, etas]); all_goals repeat' (first | exact sp1 | refine And.intro ?_ ?_)
  all_goals (try simp only [cfa, Ctr.reads, etas] at *)
  all_goals (try simp only [nbls] at *)
  all_goals first | done | with_reducible assumption | with_reducible rfl | omega | grind [mPickS, mPickSC]
set_option maxHeartbeats 4000000 in
theorem h_spec_l09Any : Ctr.holds E 163 (⟨[aCur], [.ref], [aPieces], (fun ((c : DCur), _) => c.B), (fun ((c : DCur), _) => ((dPcsAny c).1, ())), (fun ((c : DCur), _) => ((dPcsAny c).2, ())), false, .ret⟩) := by
  refine fn_okw prgOk (gcons h_spec_l09Pieces (gcons h_spec_l01Below (gcons h_spec_l01PickInt (gcons h_spec_l01Pick (gcons h_spec_l01Long gnil))))) Tryz.func163 rfl rfl rfl (fun ⟨c, _⟩ _ => ⟨by simp [LenC, dPcsAny_b], trivial⟩) ?_
  rintro ty ⟨(c : DCur), _⟩ (hp : c.B)
  have hty : Nat.beq (ty 0) (ty 0) = true := Nat.beq_refl _
  have hb1 := dPcs_B hp
  obtain ⟨_, _, _⟩ := id hp
  obtain ⟨_, _, _⟩ := id hb1
  have hb2 := mBelowC_B 16 hb1
  obtain ⟨_, _, _⟩ := id hb2
  have hb3 := mBelowC_B 60 hb2
  obtain ⟨_, _, _⟩ := id hb3
  have hO := dPcs_O c
  have hln : (dPcs c).1.list.length ≤ 20 := by have := (piecesOk_bd hO.1).2; omega
  have hkb := mBelow_bd (c := (dPcs c).2) (n := 16) (by decide)
  have hlb := pickInt_mem (mBelowC (dPcs c).2 16) (l := lReady) (by decide)
  have hlb2 : 0 ≤ mPickInt (mBelowC (dPcs c).2 16) lReady ∧ mPickInt (mBelowC (dPcs c).2 16) lReady ≤ 201 := by
    generalize mPickInt (mBelowC (dPcs c).2 16) lReady = t at hlb
    simp only [lReady, List.mem_cons, List.not_mem_nil, or_false] at hlb
    rcases hlb with rfl | rfl | rfl <;> decide
  clear hlb
  have hla1 : lRead.length = 3 := rfl
  have hla2 : lReady.length = 3 := rfl
  have hla3 : lText.length = 2 := rfl
  have hlit : ([-1, 1000000001, 1000000000] : List Int) = lRead := rfl
  have hlit2 : ([190, 200, 201] : List Int) = lReady := rfl
  have hlit3 : ([[], [97]] : List (List UInt8)) = lText := rfl
  have hfold : (⟨c.b, (dPcs c).2.i, (dPcs c).2.h⟩ : DCur) = (dPcs c).2 := dCur_fold (dPcs_b c)
  have hAny : dPcsAny c = dPcs2 (dPcs c).1 (dPcs c).2 := rfl
  generalize hP1 : (dPcs c).1 = p at *
  generalize hP2 : (dPcs c).2 = d at *
  have hdb : d.b = c.b := by rw [← hP2, dPcs_b]
  have hfold2 : (⟨c.b, d.i, d.h⟩ : DCur) = d := dCur_fold hdb
  clear hO
  refine ⟨[(11, { X := Nat, inv := fun i => i ≤ 20, mu := fun i => 20 - i, vk := [4, 6], ov := fun i => [.a (.c (.leaf (.int (i : Int)))), .any], bk := [3], ob := fun i => [[.leaf (.int p.read), .leaf (.str p.ready), .row 386]], rk := [386], orr := fun i => [⟨.piece, pcZ p.list i, true, none⟩] })], ?_⟩
  have hkc : (mBelow d 16 = 0 ∨ mBelow d 16 = 1 ∨ mBelow d 16 = 2) ∨ mBelow d 16 = 3 ∨ (mBelow d 16 ≠ 0 ∧ mBelow d 16 ≠ 1 ∧ mBelow d 16 ≠ 2 ∧ mBelow d 16 ≠ 3) := by omega
  rcases hkc with hkc | hkk | ⟨hk0, hk1, hk2, hk3⟩
  · rcases hkc with hkk | hkk | hkk
    all_goals (
      have hS := hAny
      simp only [dPcs2, hkk, Int.reduceEq, if_true, if_false] at hS
      repeat' ((conv => whnf); first | refine toOb2 ?_ | (refine fun y hy => ?_; (try simp only [Ctr.reads, Ctr.parts, hkk, hS, hfold, hfold2, hP1, hP2, hdb, cfa, cfb, cfc, ETy.frm, hlit, hlit2, hlit3, beq_iff_eq, beq_self_eq_true, beq_eq_false_iff_ne, ne_eq, Int.reduceEq, spps, reduceCtorEq, ETy.frm, if_true, if_false, implies_true, nbls, etas] at hy); subst hy) | (refine And.intro (fun h => ?_) (fun h => ?_) <;> (try simp only [hkk, hS, hfold, hfold2, hP1, hP2, hdb, cfa, cfb, cfc, ETy.frm, hlit, hlit2, hlit3, beq_iff_eq, beq_self_eq_true, beq_eq_false_iff_ne, ne_eq, Int.reduceEq, spps, reduceCtorEq, ETy.frm, if_true, if_false, implies_true, nbls, etas] at h)) | refine And.intro (toOb2 ?_) ?_ | refine And.intro (?_ : drawOk _ _ _ = true) ?_ | (refine And.intro ⟨?_, ?_⟩ ?_; fail) | intro _)
      all_goals try (exfalso; omega)
      all_goals first | (refine Ob2.mk ?_; (try simp only [allP, side, Ctr.reads, hkk, hS, hfold, hfold2, hP1, hP2, hdb, cfa, cfb, cfc, ETy.frm, hlit, hlit2, hlit3, beq_iff_eq, beq_self_eq_true, beq_eq_false_iff_ne, ne_eq, Int.reduceEq, etas])) | (show drawOk _ _ _ = true; exact rfl) | skip
      all_goals first | done | with_reducible assumption | ((repeat' (first | with_reducible exact rfl | exact trivial | with_reducible assumption | exact id | refine And.intro ?_ ?_)); all_goals first | done | omega | (simp only [List.length_append, List.length_cons, List.length_nil]; omega) | exact hw.symm | exact hcb | exact hcb.symm | exact Nat.zero_le _ | trace_state) | trace_state)
  · have hS := hAny
    rw [dPcs2, if_neg (by omega), if_neg (by omega), if_neg (by omega), if_pos hkk] at hS
    repeat' ((conv => whnf); first | refine toOb2 ?_ | (refine fun y hy => ?_; (try simp only [Ctr.reads, Ctr.parts, hkk, hS, hfold, hfold2, hP1, hP2, hdb, cfa, cfb, cfc, ETy.frm, hlit, hlit2, hlit3, beq_iff_eq, beq_self_eq_true, beq_eq_false_iff_ne, ne_eq, Int.reduceEq, spps, reduceCtorEq, ETy.frm, if_true, if_false, implies_true, nbls, etas] at hy); subst hy) | (refine And.intro (fun h => ?_) (fun h => ?_) <;> (try simp only [hkk, hS, hfold, hfold2, hP1, hP2, hdb, cfa, cfb, cfc, ETy.frm, hlit, hlit2, hlit3, beq_iff_eq, beq_self_eq_true, beq_eq_false_iff_ne, ne_eq, Int.reduceEq, spps, reduceCtorEq, ETy.frm, if_true, if_false, implies_true, nbls, etas] at h)) | refine And.intro (toOb2 ?_) ?_ | refine And.intro (?_ : drawOk _ _ _ = true) ?_ | (refine And.intro ⟨?_, ?_⟩ ?_; fail) | intro _)
    all_goals try (exfalso; omega)
    all_goals first | (refine Ob2.mk ?_; (try simp only [allP, side, Ctr.reads, hkk, hS, hfold, hfold2, hP1, hP2, hdb, cfa, cfb, cfc, ETy.frm, hlit, hlit2, hlit3, beq_iff_eq, beq_self_eq_true, beq_eq_false_iff_ne, ne_eq, Int.reduceEq, etas]); first | done | trivial | with_reducible assumption | ((repeat' (first | exact id | exact trivial | with_reducible rfl | with_reducible assumption | exact fun _ => id | refine And.intro ?_ ?_)); all_goals first | done | omega | (refine fun _ => ?_; first | with_reducible assumption | omega) | trace_state) | trace_state) | (show drawOk _ _ _ = true; exact rfl) | skip
    conv => whnf
    refine And.intro ⟨(0 : Nat), Ob.mk ?_, ?_⟩ (fun (i : Nat) hi => ?_)
    · show (0 : Nat) ≤ 20; decide
    · conv => whnf
      rw [hty]
      conv => whnf
      refine Ob.mk ?_
      all_goals (try simp only [allP, side, Ctr.reads, etas]); all_goals repeat' (first | exact sp1 | refine And.intro ?_ ?_)
      all_goals first | done | rfl | exact trivial | trace_state
    have hi : i ≤ 20 := hi
    have hzl := pcZ_len p.list i
    rcases Nat.lt_or_ge i 20 with hlt | hge
    · have hw := w64_succ (i := i) (m := 20) hlt (by decide)
      have hlti : ((i : Int) < 20) = True := by simp; omega
      repeat' ((conv => whnf); first | refine toOb2 ?_ | (refine fun y hy => ?_; (try simp only [Ctr.reads, Ctr.parts, hlti, hkk, hfold, hfold2, hP1, hP2, hdb, cfa, cfb, cfc, ETy.frm, hlit, hlit2, hlit3, beq_iff_eq, beq_self_eq_true, beq_eq_false_iff_ne, ne_eq, Int.reduceEq, spps, reduceCtorEq, ETy.frm, if_true, if_false, implies_true, nbls, etas] at hy); subst hy) | (refine And.intro (fun h => ?_) (fun h => ?_) <;> (try simp only [hlti, hkk, hfold, hfold2, hP1, hP2, hdb, cfa, cfb, cfc, ETy.frm, hlit, hlit2, hlit3, beq_iff_eq, beq_self_eq_true, beq_eq_false_iff_ne, ne_eq, Int.reduceEq, spps, reduceCtorEq, ETy.frm, if_true, if_false, implies_true, nbls, etas] at h)) | refine And.intro (toOb2 ?_) ?_ | refine And.intro (?_ : drawOk _ _ _ = true) ?_ | (refine And.intro ⟨?_, ?_⟩ ?_; fail) | intro _)
      all_goals try (exfalso; omega)
      all_goals first | (refine Ob2.mk ?_; (try simp only [allP, side, Ctr.reads, hfold, hfold2, hP1, hP2, hdb, cfa, cfb, cfc, ETy.frm, hlit, hlit2, hlit3, beq_iff_eq, beq_self_eq_true, beq_eq_false_iff_ne, ne_eq, Int.reduceEq, etas])) | (show drawOk _ _ _ = true; exact rfl) | (refine toEx2 ?_; refine Ex2.of (i + 1 : Nat) (And.intro hlt (by show 20 - (i + 1) < 20 - i; omega)) ?_; (conv => whnf); rw [hty]; (conv => whnf); refine Ob.mk ?_; (try simp only [allP, side, Ctr.reads, pcZ, hfold, hfold2, hP1, hP2, hdb, cfa, cfb, cfc, ETy.frm, hlit, hlit2, hlit3, beq_iff_eq, beq_self_eq_true, beq_eq_false_iff_ne, ne_eq, Int.reduceEq, etas])) | skip
      all_goals first | done | with_reducible assumption | ((repeat' (first | with_reducible exact rfl | exact trivial | with_reducible assumption | exact id | refine And.intro ?_ ?_)); all_goals first | done | omega | (simp only [List.length_append, List.length_cons, List.length_nil]; omega) | exact hw.symm | exact hcb | exact hcb.symm | exact Nat.zero_le _ | trace_state) | trace_state
    · have h20 : i = 20 := by omega
      subst h20
      have hlti : (((20 : Nat) : Int) < 20) = False := by simp
      repeat' ((conv => whnf); first | refine toOb2 ?_ | (refine fun y hy => ?_; (try simp only [Ctr.reads, Ctr.parts, hlti, hkk, hS, hfold, hfold2, hP1, hP2, hdb, cfa, cfb, cfc, ETy.frm, hlit, hlit2, hlit3, beq_iff_eq, beq_self_eq_true, beq_eq_false_iff_ne, ne_eq, Int.reduceEq, spps, reduceCtorEq, ETy.frm, if_true, if_false, implies_true, nbls, etas] at hy); subst hy) | (refine And.intro (fun h => ?_) (fun h => ?_) <;> (try simp only [hlti, hkk, hS, hfold, hfold2, hP1, hP2, hdb, cfa, cfb, cfc, ETy.frm, hlit, hlit2, hlit3, beq_iff_eq, beq_self_eq_true, beq_eq_false_iff_ne, ne_eq, Int.reduceEq, spps, reduceCtorEq, ETy.frm, if_true, if_false, implies_true, nbls, etas] at h)) | refine And.intro (toOb2 ?_) ?_ | refine And.intro (?_ : drawOk _ _ _ = true) ?_ | (refine And.intro ⟨?_, ?_⟩ ?_; fail) | intro _)
      all_goals try (exfalso; omega)
      all_goals first | (refine Ob2.mk ?_; (try simp only [allP, side, Ctr.reads, hlti, hkk, hS, hfold, hfold2, hP1, hP2, hdb, cfa, cfb, cfc, ETy.frm, hlit, hlit2, hlit3, beq_iff_eq, beq_self_eq_true, beq_eq_false_iff_ne, ne_eq, Int.reduceEq, etas])) | (show drawOk _ _ _ = true; exact rfl) | skip
      all_goals first | done | with_reducible assumption | ((repeat' (first | with_reducible exact rfl | exact trivial | with_reducible assumption | exact id | refine And.intro ?_ ?_)); all_goals first | done | omega | (simp only [List.length_append, List.length_cons, List.length_nil]; omega) | exact hw.symm | exact hcb | exact hcb.symm | exact Nat.zero_le _ | trace_state) | trace_state
  · have hS := hAny
    rw [dPcs2, if_neg hk0, if_neg hk1, if_neg hk2, if_neg hk3] at hS
    have hk0 := eq_false hk0
    have hk1 := eq_false hk1
    have hk2 := eq_false hk2
    have hk3 := eq_false hk3
    repeat' ((conv => whnf); first | refine toOb2 ?_ | (refine fun y hy => ?_; (try simp only [Ctr.reads, Ctr.parts, hk0, hk1, hk2, hk3, hS, hfold, hfold2, hP1, hP2, hdb, cfa, cfb, cfc, ETy.frm, hlit, hlit2, hlit3, beq_iff_eq, beq_self_eq_true, beq_eq_false_iff_ne, ne_eq, Int.reduceEq, spps, reduceCtorEq, ETy.frm, if_true, if_false, implies_true, nbls, etas] at hy); subst hy) | (refine And.intro (fun h => ?_) (fun h => ?_) <;> (try simp only [hk0, hk1, hk2, hk3, hS, hfold, hfold2, hP1, hP2, hdb, cfa, cfb, cfc, ETy.frm, hlit, hlit2, hlit3, beq_iff_eq, beq_self_eq_true, beq_eq_false_iff_ne, ne_eq, Int.reduceEq, spps, reduceCtorEq, ETy.frm, if_true, if_false, implies_true, nbls, etas] at h)) | refine And.intro (toOb2 ?_) ?_ | refine And.intro (?_ : drawOk _ _ _ = true) ?_ | (refine And.intro ⟨?_, ?_⟩ ?_; fail) | intro _)
    all_goals try (exfalso; omega)
    all_goals first | (refine Ob2.mk ?_; (try simp only [allP, side, Ctr.reads, hk0, hk1, hk2, hk3, hS, hfold, hfold2, hP1, hP2, hdb, cfa, cfb, cfc, ETy.frm, hlit, hlit2, hlit3, beq_iff_eq, beq_self_eq_true, beq_eq_false_iff_ne, ne_eq, Int.reduceEq, etas])) | (show drawOk _ _ _ = true; exact rfl) | skip
    all_goals first | done | with_reducible assumption | ((repeat' (first | with_reducible exact rfl | exact trivial | with_reducible assumption | exact id | refine And.intro ?_ ?_)); all_goals first | done | omega | (simp only [List.length_append, List.length_cons, List.length_nil]; omega) | exact hw.symm | exact hcb | exact hcb.symm | exact Nat.zero_le _ | trace_state) | trace_state
set_option maxHeartbeats 9000000 in
theorem h_spec_l17Any : Ctr.holds E 68 (⟨[aCur], [.ref], [aEnd], (fun ((c : DCur), _) => c.B), (fun ((c : DCur), _) => ((dAny c).1, ())), (fun ((c : DCur), _) => ((dAny c).2, ())), false, .ret⟩) := by
  refine fn_okw prgOk (gcons h_spec_l22End (gcons h_spec_l01Below (gcons h_spec_l01PickInt (gcons h_spec_l11Any (gcons h_spec_l14Any (gcons h_spec_l10Any (gcons h_spec_l09Any gnil))))))) Tryz.func68 rfl rfl rfl (fun ⟨c, _⟩ _ => ⟨by simp [LenC, dAny_b], trivial⟩) ?_
  rintro ty ⟨(c : DCur), _⟩ (hp : c.B)
  have hty : Nat.beq (ty 0) (ty 0) = true := Nat.beq_refl _
  have hb1 := dEndC_B hp
  obtain ⟨_, _, _⟩ := id hp
  obtain ⟨_, _, _⟩ := id hb1
  have hb2 := mBelowC_B 18 hb1
  obtain ⟨_, _, _⟩ := id hb2
  have hkb := mBelow_bd (c := dEndC c) (n := 18) (by decide)
  have hR := dEnd_R c
  have hEB := G_B hR.1
  have hsl := (G_E hR.1).subs.1
  obtain ⟨h1, h2, h3, h4, h5, h6, h7⟩ := id hEB
  have hfold : (⟨c.b, (dEndC c).i, (dEndC c).h⟩ : DCur) = dEndC c := dCur_fold (dEndC_b c)
  have hAny : dAny c = altK (mBelow (dEndC c) 18) (dEnd c) (mBelowC (dEndC c) 18) := rfl
  have ht0 : Int.toNat 0 = 0 := rfl
  have hla1 : lState.length = 4 := rfl
  have hla2 : lDraw.length = 4 := rfl
  have hla3 : lRead3.length = 3 := rfl
  have hla4 : lOver.length = 4 := rfl
  have hla5 : lPick.length = 3 := rfl
  have hlit1 : ([-1, 0, 1, 3] : List Int) = lState := rfl
  have hlit2 : ([0, 1000000000, 999999998, -1] : List Int) = lDraw := rfl
  have hlit3 : ([-1, 1000000000, 1000000001] : List Int) = lRead3 := rfl
  have hlit4 : ([3, 256, -1, 0] : List Int) = lOver := rfl
  have hlit5 : ([1000000000, -1, 5] : List Int) = lPick := rfl
  generalize hP1 : dEnd c = E at *
  generalize hP2 : dEndC c = d at *
  have hdb : d.b = c.b := by rw [← hP2, dEndC_b]
  have hfold2 : (⟨c.b, d.i, d.h⟩ : DCur) = d := dCur_fold hdb
  have hfold3 : (⟨c.b, (mBelowC d 18).i, (mBelowC d 18).h⟩ : DCur) = mBelowC d 18 := dCur_fold (by rw [mBelowC_b, hdb])
  refine ⟨[(20, { X := Nat × DCur × List DSub, inv := fun z => 10 ≤ z.1 + z.2.2.length ∧ z.2.1.B ∧ z.2.1.b = c.b ∧ z.2.2.length ≤ 9 ∧ subFill z.1 z.2.2 z.2.1 = subFill 10 E.subs (mBelowC d 18), mu := fun z => z.1, vk := [5], ov := fun z => [.any], bk := [0, 3], ob := fun z => [[.row 0, .leaf (.int z.2.1.i), .leaf (.int z.2.1.h)], [.leaf (.int E.side), .leaf (.int E.state), .leaf (.int E.key), .leaf (.int E.peer), .leaf (.int E.policy.kind), .leaf (.int E.policy.many), .row 326, .row 327, .row 328, .row 329, .leaf (.int E.bucket.rate), .leaf (.int E.bucket.burst), .leaf (.int E.bucket.hav), .leaf (.str E.out.text), .leaf (.int E.out.base), .leaf (.int E.out.sent), .leaf (.int E.out.room), .leaf (.int E.inn.read), .leaf (.str E.inn.ready), .row 339, .row 340, .row 341, .leaf (.int E.draw), .leaf (.int E.now), .leaf (.int E.pick)]], rk := [328], orr := fun z => [⟨.sub, z.2.2, true, none⟩] })], ?_⟩
  have hkc : (mBelow d 18 = 0 ∨ mBelow d 18 = 1 ∨ mBelow d 18 = 2 ∨ mBelow d 18 = 3 ∨ mBelow d 18 = 4 ∨ mBelow d 18 = 5 ∨ mBelow d 18 = 6 ∨ mBelow d 18 = 7 ∨ mBelow d 18 = 10 ∨ mBelow d 18 = 11 ∨ mBelow d 18 = 12) ∨ mBelow d 18 = 8 ∨ mBelow d 18 = 9 ∨ 13 ≤ mBelow d 18 := by omega
  rcases hkc with hkc | hkk | hkk | hkk
  · rcases hkc with hkk | hkk | hkk | hkk | hkk | hkk | hkk | hkk | hkk | hkk | hkk
    all_goals (
      have hS := hAny
      rw [hkk] at hS
      simp only [altKs] at hS
      repeat' ((conv => whnf); first | refine toOb2 ?_ | (refine fun y hy => ?_; (try simp only [Ctr.reads, Ctr.parts, hkk, hS, ht0, hfold, hfold2, hfold3, hP1, hP2, hdb, cfa, cfb, cfc, ETy.frm, hlit1, hlit2, hlit3, hlit4, hlit5, beq_iff_eq, beq_self_eq_true, beq_eq_false_iff_ne, ne_eq, Int.reduceEq, gt_iff_lt, spps, reduceCtorEq, ETy.frm, if_true, if_false, implies_true, nbls, etas] at hy); subst hy) | (refine And.intro (fun h => ?_) (fun h => ?_) <;> (try simp only [hkk, hS, ht0, hfold, hfold2, hfold3, hP1, hP2, hdb, cfa, cfb, cfc, ETy.frm, hlit1, hlit2, hlit3, hlit4, hlit5, beq_iff_eq, beq_self_eq_true, beq_eq_false_iff_ne, ne_eq, Int.reduceEq, gt_iff_lt, spps, reduceCtorEq, ETy.frm, if_true, if_false, implies_true, nbls, etas] at h)) | refine And.intro (toOb2 ?_) ?_ | refine And.intro (?_ : drawOk _ _ _ = true) ?_ | (refine And.intro ⟨?_, ?_⟩ ?_; fail) | intro _)
      all_goals try (exfalso; omega)
      all_goals first | (refine Ob2.mk ?_; (try simp only [allP, side, Ctr.reads, hkk, hS, ht0, hfold, hfold2, hfold3, hP1, hP2, hdb, cfa, cfb, cfc, ETy.frm, hlit1, hlit2, hlit3, hlit4, hlit5, beq_iff_eq, beq_self_eq_true, beq_eq_false_iff_ne, ne_eq, Int.reduceEq, gt_iff_lt, etas])) | (show drawOk _ _ _ = true; exact rfl) | skip
      all_goals first | done | with_reducible assumption | ((repeat' (first | with_reducible exact rfl | exact trivial | with_reducible assumption | exact id | refine And.intro ?_ ?_)); all_goals first | done | omega | (simp only [List.length_append, List.length_cons, List.length_nil]; omega) | exact hw.symm | exact hcb | exact hcb.symm | exact Nat.zero_le _ | trace_state) | trace_state)
  · have hS := hAny
    rw [hkk] at hS
    simp only [altKs] at hS
    repeat' ((conv => whnf); first | refine toOb2 ?_ | (refine fun y hy => ?_; (try simp only [Ctr.reads, Ctr.parts, hkk, hS, ht0, hfold, hfold2, hfold3, hP1, hP2, hdb, cfa, cfb, cfc, ETy.frm, hlit1, hlit2, hlit3, hlit4, hlit5, beq_iff_eq, beq_self_eq_true, beq_eq_false_iff_ne, ne_eq, Int.reduceEq, gt_iff_lt, spps, reduceCtorEq, ETy.frm, if_true, if_false, implies_true, nbls, etas] at hy); subst hy) | (refine And.intro (fun h => ?_) (fun h => ?_) <;> (try simp only [hkk, hS, ht0, hfold, hfold2, hfold3, hP1, hP2, hdb, cfa, cfb, cfc, ETy.frm, hlit1, hlit2, hlit3, hlit4, hlit5, beq_iff_eq, beq_self_eq_true, beq_eq_false_iff_ne, ne_eq, Int.reduceEq, gt_iff_lt, spps, reduceCtorEq, ETy.frm, if_true, if_false, implies_true, nbls, etas] at h)) | refine And.intro (toOb2 ?_) ?_ | refine And.intro (?_ : drawOk _ _ _ = true) ?_ | (refine And.intro ⟨?_, ?_⟩ ?_; fail) | intro _)
    all_goals try (exfalso; omega)
    all_goals first | (refine Ob2.mk ?_; (try simp only [allP, side, Ctr.reads, hkk, hS, ht0, hfold, hfold2, hfold3, hP1, hP2, hdb, cfa, cfb, cfc, ETy.frm, hlit1, hlit2, hlit3, hlit4, hlit5, beq_iff_eq, beq_self_eq_true, beq_eq_false_iff_ne, ne_eq, Int.reduceEq, gt_iff_lt, etas]); first | done | trivial | with_reducible assumption | ((repeat' (first | exact id | exact trivial | with_reducible rfl | with_reducible assumption | exact fun _ => id | refine And.intro ?_ ?_)); all_goals first | done | omega | (refine fun _ => ?_; first | with_reducible assumption | omega) | trace_state) | trace_state) | (show drawOk _ _ _ = true; exact rfl) | skip
    conv => whnf
    refine And.intro ⟨((10, mBelowC d 18, E.subs) : Nat × DCur × List DSub), Ob.mk ?_, ?_⟩ (fun (z : Nat × DCur × List DSub) hi => ?_)
    · exact And.intro (by show 10 ≤ 10 + E.subs.length; omega) (And.intro hb2 (And.intro (by rw [mBelowC_b, hdb]) (And.intro (by show E.subs.length ≤ 9; omega) rfl)))
    · conv => whnf
      rw [hty]
      conv => whnf
      refine Ob.mk ?_
      all_goals (try simp only [allP, side, Ctr.reads, etas]); all_goals repeat' (first | exact sp1 | refine And.intro ?_ ?_)
      all_goals (try simp only [dCur_eta, hP1, hP2, hfold2, hfold3])
      all_goals first | done | rfl | exact trivial | trace_state
    obtain ⟨k, u, l⟩ := z
    obtain ⟨hk, hu, hcb, hl, hm⟩ := hi
    have hk : 10 ≤ k + l.length := hk
    have hu : u.B := hu
    have hcb : u.b = c.b := hcb
    have hl : l.length ≤ 9 := hl
    have hm : subFill k l u = subFill 10 E.subs (mBelowC d 18) := hm
    rw [← hm] at hS
    obtain ⟨q, hq⟩ : ∃ q, k = q + 1 := ⟨k - 1, by omega⟩
    subst hq
    have hbd := mBelow_bd (c := u) (n := 2) (by decide)
    have hu1 := mBelowC_B 2 hu
    have hfu : (⟨c.b, u.i, u.h⟩ : DCur) = u := dCur_fold hcb
    have hfu2 : (⟨c.b, (mBelowC u 2).i, (mBelowC u 2).h⟩ : DCur) = mBelowC u 2 := dCur_fold (by rw [mBelowC_b, hcb])
    obtain ⟨_, _, _⟩ := id hu
    obtain ⟨_, _, _⟩ := id hu1
    have hw8 : w64 (8 + mBelow u 2) = 8 + mBelow u 2 := w64_id (by omega) (by omega)
    clear hR hEB hAny
    by_cases hlt : 0 < l.length
    · have hlt2 : ((0 : Int) < (l.length : Int)) = True := by simp; omega
      by_cases hlu : (l.length : Int) < 8 + mBelow u 2
      · have hm2 : subFill (q + 1) l u = subFill q (l ++ [l.getD 0 (ETy.zero .sub)]) (mBelowC u 2) := by rw [subFill, if_pos hlt, hw8, if_pos hlu]
        rw [hm2] at hm
        clear hm2 hS
        repeat' ((conv => whnf); first | refine toOb2 ?_ | (refine fun y hy => ?_; (try simp only [Ctr.reads, Ctr.parts, hlt2, hlu, hw8, hfu, hfu2, hcb, ht0, hfold, hfold2, hfold3, hP1, hP2, hdb, cfa, cfb, cfc, ETy.frm, hlit1, hlit2, hlit3, hlit4, hlit5, beq_iff_eq, beq_self_eq_true, beq_eq_false_iff_ne, ne_eq, Int.reduceEq, gt_iff_lt, spps, reduceCtorEq, ETy.frm, if_true, if_false, implies_true, nbls, etas] at hy); subst hy) | (refine And.intro (fun h => ?_) (fun h => ?_) <;> (try simp only [hlt2, hlu, hw8, hfu, hfu2, hcb, ht0, hfold, hfold2, hfold3, hP1, hP2, hdb, cfa, cfb, cfc, ETy.frm, hlit1, hlit2, hlit3, hlit4, hlit5, beq_iff_eq, beq_self_eq_true, beq_eq_false_iff_ne, ne_eq, Int.reduceEq, gt_iff_lt, spps, reduceCtorEq, ETy.frm, if_true, if_false, implies_true, nbls, etas] at h)) | refine And.intro (toOb2 ?_) ?_ | refine And.intro (?_ : drawOk _ _ _ = true) ?_ | (refine And.intro ⟨?_, ?_⟩ ?_; fail) | intro _)
        all_goals try (exfalso; omega)
        all_goals first | (refine Ob2.mk ?_; (try simp only [allP, side, Ctr.reads, hlt2, hlu, hw8, hfu, hfu2, hcb, ht0, hfold, hfold2, hfold3, hP1, hP2, hdb, cfa, cfb, cfc, ETy.frm, hlit1, hlit2, hlit3, hlit4, hlit5, beq_iff_eq, beq_self_eq_true, beq_eq_false_iff_ne, ne_eq, Int.reduceEq, gt_iff_lt, etas])) | (show drawOk _ _ _ = true; exact rfl) | (refine toEx2 ?_; refine Ex2.of ((q, mBelowC u 2, l ++ [l.getD 0 (ETy.zero .sub)]) : Nat × DCur × List DSub) (And.intro (And.intro (by simp only [List.length_append, List.length_cons, List.length_nil]; omega) (And.intro hu1 (And.intro (by rw [mBelowC_b, hcb]) (And.intro (by simp only [List.length_append, List.length_cons, List.length_nil]; omega) hm)))) (by show q < q + 1; omega)) ?_; (conv => whnf); rw [hty]; (conv => whnf); refine Ob.mk ?_; (try simp only [allP, side, Ctr.reads, hlt2, hlu, hw8, hfu, hfu2, hcb, ht0, hfold, hfold2, hfold3, hP1, hP2, hdb, cfa, cfb, cfc, ETy.frm, hlit1, hlit2, hlit3, hlit4, hlit5, beq_iff_eq, beq_self_eq_true, beq_eq_false_iff_ne, ne_eq, Int.reduceEq, gt_iff_lt, etas])) | skip
        all_goals first | done | with_reducible assumption | ((repeat' (first | with_reducible exact rfl | exact trivial | with_reducible assumption | exact id | refine And.intro ?_ ?_)); all_goals first | done | omega | (simp only [List.length_append, List.length_cons, List.length_nil]; omega) | exact hw.symm | exact hcb | exact hcb.symm | exact Nat.zero_le _ | trace_state) | trace_state
      · rw [show subFill (q + 1) l u = (l, mBelowC u 2) by rw [subFill, if_pos hlt, hw8, if_neg hlu]] at hS
        repeat' ((conv => whnf); first | refine toOb2 ?_ | (refine fun y hy => ?_; (try simp only [Ctr.reads, Ctr.parts, hlt2, hlu, hw8, hfu, hfu2, hcb, hkk, hS, ht0, hfold, hfold2, hfold3, hP1, hP2, hdb, cfa, cfb, cfc, ETy.frm, hlit1, hlit2, hlit3, hlit4, hlit5, beq_iff_eq, beq_self_eq_true, beq_eq_false_iff_ne, ne_eq, Int.reduceEq, gt_iff_lt, spps, reduceCtorEq, ETy.frm, if_true, if_false, implies_true, nbls, etas] at hy); subst hy) | (refine And.intro (fun h => ?_) (fun h => ?_) <;> (try simp only [hlt2, hlu, hw8, hfu, hfu2, hcb, hkk, hS, ht0, hfold, hfold2, hfold3, hP1, hP2, hdb, cfa, cfb, cfc, ETy.frm, hlit1, hlit2, hlit3, hlit4, hlit5, beq_iff_eq, beq_self_eq_true, beq_eq_false_iff_ne, ne_eq, Int.reduceEq, gt_iff_lt, spps, reduceCtorEq, ETy.frm, if_true, if_false, implies_true, nbls, etas] at h)) | refine And.intro (toOb2 ?_) ?_ | refine And.intro (?_ : drawOk _ _ _ = true) ?_ | (refine And.intro ⟨?_, ?_⟩ ?_; fail) | intro _)
        all_goals try (exfalso; omega)
        all_goals first | (refine Ob2.mk ?_; (try simp only [allP, side, Ctr.reads, hlt2, hlu, hw8, hfu, hfu2, hcb, hkk, hS, ht0, hfold, hfold2, hfold3, hP1, hP2, hdb, cfa, cfb, cfc, ETy.frm, hlit1, hlit2, hlit3, hlit4, hlit5, beq_iff_eq, beq_self_eq_true, beq_eq_false_iff_ne, ne_eq, Int.reduceEq, gt_iff_lt, etas])) | (show drawOk _ _ _ = true; exact rfl) | skip
        all_goals first | done | with_reducible assumption | ((repeat' (first | with_reducible exact rfl | exact trivial | with_reducible assumption | exact id | refine And.intro ?_ ?_)); all_goals first | done | omega | (simp only [List.length_append, List.length_cons, List.length_nil]; omega) | exact hw.symm | exact hcb | exact hcb.symm | exact Nat.zero_le _ | trace_state) | trace_state
    · have hl0 : l = [] := List.eq_nil_of_length_eq_zero (by omega)
      subst hl0
      rw [show subFill (q + 1) [] u = ([], u) from rfl] at hS
      have hlt2 : ((0 : Int) < (([] : List DSub).length : Int)) = False := by simp
      repeat' ((conv => whnf); first | refine toOb2 ?_ | (refine fun y hy => ?_; (try simp only [Ctr.reads, Ctr.parts, hlt2, hfu, hcb, hkk, hS, List.length_nil, Int.natCast_zero, Int.lt_irrefl, ht0, hfold, hfold2, hfold3, hP1, hP2, hdb, cfa, cfb, cfc, ETy.frm, hlit1, hlit2, hlit3, hlit4, hlit5, beq_iff_eq, beq_self_eq_true, beq_eq_false_iff_ne, ne_eq, Int.reduceEq, gt_iff_lt, spps, reduceCtorEq, ETy.frm, if_true, if_false, implies_true, nbls, etas] at hy); subst hy) | (refine And.intro (fun h => ?_) (fun h => ?_) <;> (try simp only [hlt2, hfu, hcb, hkk, hS, List.length_nil, Int.natCast_zero, Int.lt_irrefl, ht0, hfold, hfold2, hfold3, hP1, hP2, hdb, cfa, cfb, cfc, ETy.frm, hlit1, hlit2, hlit3, hlit4, hlit5, beq_iff_eq, beq_self_eq_true, beq_eq_false_iff_ne, ne_eq, Int.reduceEq, gt_iff_lt, spps, reduceCtorEq, ETy.frm, if_true, if_false, implies_true, nbls, etas] at h)) | refine And.intro (toOb2 ?_) ?_ | refine And.intro (?_ : drawOk _ _ _ = true) ?_ | (refine And.intro ⟨?_, ?_⟩ ?_; fail) | intro _)
      all_goals try (exfalso; omega)
      all_goals first | (refine Ob2.mk ?_; (try simp only [allP, side, Ctr.reads, hlt2, hfu, hcb, hkk, hS, List.length_nil, Int.natCast_zero, Int.lt_irrefl, ht0, hfold, hfold2, hfold3, hP1, hP2, hdb, cfa, cfb, cfc, ETy.frm, hlit1, hlit2, hlit3, hlit4, hlit5, beq_iff_eq, beq_self_eq_true, beq_eq_false_iff_ne, ne_eq, Int.reduceEq, gt_iff_lt, etas])) | (show drawOk _ _ _ = true; exact rfl) | skip
      all_goals first | done | with_reducible assumption | ((repeat' (first | with_reducible exact rfl | exact trivial | with_reducible assumption | exact id | refine And.intro ?_ ?_)); all_goals first | done | omega | (simp only [List.length_append, List.length_cons, List.length_nil]; omega) | exact hw.symm | exact hcb | exact hcb.symm | exact Nat.zero_le _ | trace_state) | trace_state
  · by_cases hse : 0 < E.subs.length
    · have hse2 : ((0 : Int) < (E.subs.length : Int)) = True := by simp; omega
      have hS := hAny
      rw [hkk] at hS
      simp only [altKs] at hS
      rw [if_pos hse] at hS
      repeat' ((conv => whnf); first | refine toOb2 ?_ | (refine fun y hy => ?_; (try simp only [Ctr.reads, Ctr.parts, hse2, hkk, hS, ht0, hfold, hfold2, hfold3, hP1, hP2, hdb, cfa, cfb, cfc, ETy.frm, hlit1, hlit2, hlit3, hlit4, hlit5, beq_iff_eq, beq_self_eq_true, beq_eq_false_iff_ne, ne_eq, Int.reduceEq, gt_iff_lt, spps, reduceCtorEq, ETy.frm, if_true, if_false, implies_true, nbls, etas] at hy); subst hy) | (refine And.intro (fun h => ?_) (fun h => ?_) <;> (try simp only [hse2, hkk, hS, ht0, hfold, hfold2, hfold3, hP1, hP2, hdb, cfa, cfb, cfc, ETy.frm, hlit1, hlit2, hlit3, hlit4, hlit5, beq_iff_eq, beq_self_eq_true, beq_eq_false_iff_ne, ne_eq, Int.reduceEq, gt_iff_lt, spps, reduceCtorEq, ETy.frm, if_true, if_false, implies_true, nbls, etas] at h)) | refine And.intro (toOb2 ?_) ?_ | refine And.intro (?_ : drawOk _ _ _ = true) ?_ | (refine And.intro ⟨?_, ?_⟩ ?_; fail) | intro _)
      all_goals try (exfalso; omega)
      all_goals first | (refine Ob2.mk ?_; (try simp only [allP, side, Ctr.reads, hse2, hkk, hS, ht0, hfold, hfold2, hfold3, hP1, hP2, hdb, cfa, cfb, cfc, ETy.frm, hlit1, hlit2, hlit3, hlit4, hlit5, beq_iff_eq, beq_self_eq_true, beq_eq_false_iff_ne, ne_eq, Int.reduceEq, gt_iff_lt, etas])) | (show drawOk _ _ _ = true; exact rfl) | skip
      all_goals first | done | with_reducible assumption | ((repeat' (first | with_reducible exact rfl | exact trivial | with_reducible assumption | exact id | refine And.intro ?_ ?_)); all_goals first | done | omega | (simp only [List.length_append, List.length_cons, List.length_nil]; omega) | exact hw.symm | exact hcb | exact hcb.symm | exact Nat.zero_le _ | trace_state) | trace_state
    · have hse2 : ((0 : Int) < (E.subs.length : Int)) = False := eq_false (by omega)
      have hS := hAny
      rw [hkk] at hS
      simp only [altKs] at hS
      rw [if_neg hse] at hS
      repeat' ((conv => whnf); first | refine toOb2 ?_ | (refine fun y hy => ?_; (try simp only [Ctr.reads, Ctr.parts, hse2, hkk, hS, ht0, hfold, hfold2, hfold3, hP1, hP2, hdb, cfa, cfb, cfc, ETy.frm, hlit1, hlit2, hlit3, hlit4, hlit5, beq_iff_eq, beq_self_eq_true, beq_eq_false_iff_ne, ne_eq, Int.reduceEq, gt_iff_lt, spps, reduceCtorEq, ETy.frm, if_true, if_false, implies_true, nbls, etas] at hy); subst hy) | (refine And.intro (fun h => ?_) (fun h => ?_) <;> (try simp only [hse2, hkk, hS, ht0, hfold, hfold2, hfold3, hP1, hP2, hdb, cfa, cfb, cfc, ETy.frm, hlit1, hlit2, hlit3, hlit4, hlit5, beq_iff_eq, beq_self_eq_true, beq_eq_false_iff_ne, ne_eq, Int.reduceEq, gt_iff_lt, spps, reduceCtorEq, ETy.frm, if_true, if_false, implies_true, nbls, etas] at h)) | refine And.intro (toOb2 ?_) ?_ | refine And.intro (?_ : drawOk _ _ _ = true) ?_ | (refine And.intro ⟨?_, ?_⟩ ?_; fail) | intro _)
      all_goals try (exfalso; omega)
      all_goals first | (refine Ob2.mk ?_; (try simp only [allP, side, Ctr.reads, hse2, hkk, hS, ht0, hfold, hfold2, hfold3, hP1, hP2, hdb, cfa, cfb, cfc, ETy.frm, hlit1, hlit2, hlit3, hlit4, hlit5, beq_iff_eq, beq_self_eq_true, beq_eq_false_iff_ne, ne_eq, Int.reduceEq, gt_iff_lt, etas])) | (show drawOk _ _ _ = true; exact rfl) | skip
      all_goals first | done | with_reducible assumption | ((repeat' (first | with_reducible exact rfl | exact trivial | with_reducible assumption | exact id | refine And.intro ?_ ?_)); all_goals first | done | omega | (simp only [List.length_append, List.length_cons, List.length_nil]; omega) | exact hw.symm | exact hcb | exact hcb.symm | exact Nat.zero_le _ | trace_state) | trace_state
  · have hS := hAny
    rw [altK_no hkk] at hS
    have hk0 : (mBelow d 18 = 0) = False := eq_false (by omega)
    have hk1 : (mBelow d 18 = 1) = False := eq_false (by omega)
    have hk2 : (mBelow d 18 = 2) = False := eq_false (by omega)
    have hk3 : (mBelow d 18 = 3) = False := eq_false (by omega)
    have hk4 : (mBelow d 18 = 4) = False := eq_false (by omega)
    have hk5 : (mBelow d 18 = 5) = False := eq_false (by omega)
    have hk6 : (mBelow d 18 = 6) = False := eq_false (by omega)
    have hk7 : (mBelow d 18 = 7) = False := eq_false (by omega)
    have hk8 : (mBelow d 18 = 8) = False := eq_false (by omega)
    have hk9 : (mBelow d 18 = 9) = False := eq_false (by omega)
    have hk10 : (mBelow d 18 = 10) = False := eq_false (by omega)
    have hk11 : (mBelow d 18 = 11) = False := eq_false (by omega)
    have hk12 : (mBelow d 18 = 12) = False := eq_false (by omega)
    repeat' ((conv => whnf); first | refine toOb2 ?_ | (refine fun y hy => ?_; (try simp only [Ctr.reads, Ctr.parts, hk0, hk1, hk2, hk3, hk4, hk5, hk6, hk7, hk8, hk9, hk10, hk11, hk12, hS, ht0, hfold, hfold2, hfold3, hP1, hP2, hdb, cfa, cfb, cfc, ETy.frm, hlit1, hlit2, hlit3, hlit4, hlit5, beq_iff_eq, beq_self_eq_true, beq_eq_false_iff_ne, ne_eq, Int.reduceEq, gt_iff_lt, spps, reduceCtorEq, ETy.frm, if_true, if_false, implies_true, nbls, etas] at hy); subst hy) | (refine And.intro (fun h => ?_) (fun h => ?_) <;> (try simp only [hk0, hk1, hk2, hk3, hk4, hk5, hk6, hk7, hk8, hk9, hk10, hk11, hk12, hS, ht0, hfold, hfold2, hfold3, hP1, hP2, hdb, cfa, cfb, cfc, ETy.frm, hlit1, hlit2, hlit3, hlit4, hlit5, beq_iff_eq, beq_self_eq_true, beq_eq_false_iff_ne, ne_eq, Int.reduceEq, gt_iff_lt, spps, reduceCtorEq, ETy.frm, if_true, if_false, implies_true, nbls, etas] at h)) | refine And.intro (toOb2 ?_) ?_ | refine And.intro (?_ : drawOk _ _ _ = true) ?_ | (refine And.intro ⟨?_, ?_⟩ ?_; fail) | intro _)
    all_goals try (exfalso; omega)
    all_goals first | (refine Ob2.mk ?_; (try simp only [allP, side, Ctr.reads, hk0, hk1, hk2, hk3, hk4, hk5, hk6, hk7, hk8, hk9, hk10, hk11, hk12, hS, ht0, hfold, hfold2, hfold3, hP1, hP2, hdb, cfa, cfb, cfc, ETy.frm, hlit1, hlit2, hlit3, hlit4, hlit5, beq_iff_eq, beq_self_eq_true, beq_eq_false_iff_ne, ne_eq, Int.reduceEq, gt_iff_lt, etas])) | (show drawOk _ _ _ = true; exact rfl) | skip
    all_goals first | done | with_reducible assumption | ((repeat' (first | with_reducible exact rfl | exact trivial | with_reducible assumption | exact id | refine And.intro ?_ ?_)); all_goals first | done | omega | (simp only [List.length_append, List.length_cons, List.length_nil]; omega) | exact hw.symm | exact hcb | exact hcb.symm | exact Nat.zero_le _ | trace_state) | trace_state
end Go.Proofs.YtnpeomhpbakgnaaGreat
