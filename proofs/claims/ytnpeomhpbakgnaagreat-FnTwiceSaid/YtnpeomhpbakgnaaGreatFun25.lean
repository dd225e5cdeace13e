/- Contracts of functions of the program, each shown over the text. -/
import Derived.Test.YtnpeomhpbakgnaaGreatFun23
set_option linter.unusedVariables false
set_option linter.unusedSimpArgs false
set_option maxRecDepth 100000
set_option maxHeartbeats 1000000
namespace Go.Proofs.YtnpeomhpbakgnaaGreat
open Go.Eng
set_option maxHeartbeats 4000000 in
theorem h_spec_l16Letter : Ctr.holds E 233 (⟨[aCur], [.ref], [aLetter], (fun ((c : DCur), _) => c.B), (fun ((c : DCur), _) => ((dLet c).1, ())), (fun ((c : DCur), _) => ((dLet c).2, ())), false, .ret⟩) := by
  refine fn_okw prgOk (gcons h_spec_l01Below (gcons h_spec_l01PickInt (gcons h_spec_l01Once (gcons h_spec_l15Tag (gcons h_spec_l01Pick gnil))))) Tryz.func233 rfl rfl rfl (fun ⟨c, _⟩ _ => ⟨by simp [LenC, dLet_b], trivial⟩) ?_
  rintro ty ⟨(c : DCur), _⟩ (hp : c.B)
  obtain ⟨_, _, _⟩ := id hp
  have hb0 : (mBelowC c 13).B := mBelowC_B _ hp
  obtain ⟨_, _, _⟩ := id hb0
  have hb1 : (mPickIntC (mBelowC c 13) lFive).B := mBelowC_B _ hb0
  obtain ⟨_, _, _⟩ := id hb1
  have hb2 : (mPickIntC (mPickIntC (mBelowC c 13) lFive) lFive).B := mBelowC_B _ hb1
  obtain ⟨_, _, _⟩ := id hb2
  have hb3 : (mBelowC (mPickIntC (mPickIntC (mBelowC c 13) lFive) lFive) 3).B := mBelowC_B _ hb2
  obtain ⟨_, _, _⟩ := id hb3
  have hb4 : (mBelowC (mBelowC (mPickIntC (mPickIntC (mBelowC c 13) lFive) lFive) 3) 3).B := mBelowC_B _ hb3
  obtain ⟨_, _, _⟩ := id hb4
  have hb5 : (mPickIntC (mBelowC (mBelowC (mPickIntC (mPickIntC (mBelowC c 13) lFive) lFive) 3) 3) lTok).B := mBelowC_B _ hb4
  obtain ⟨_, _, _⟩ := id hb5
  have hb6 : (mBelowC (mPickIntC (mBelowC (mBelowC (mPickIntC (mPickIntC (mBelowC c 13) lFive) lFive) 3) 3) lTok) 9).B := mBelowC_B _ hb5
  obtain ⟨_, _, _⟩ := id hb6
  have hb7 : (mBelowC (mBelowC (mPickIntC (mBelowC (mBelowC (mPickIntC (mPickIntC (mBelowC c 13) lFive) lFive) 3) 3) lTok) 9) 9).B := mBelowC_B _ hb6
  obtain ⟨_, _, _⟩ := id hb7
  have hb8 : (mBelowC (mBelowC (mBelowC (mPickIntC (mBelowC (mBelowC (mPickIntC (mPickIntC (mBelowC c 13) lFive) lFive) 3) 3) lTok) 9) 9) 9).B := mBelowC_B _ hb7
  obtain ⟨_, _, _⟩ := id hb8
  have hb9 : (mBelowC (mBelowC (mBelowC (mBelowC (mPickIntC (mBelowC (mBelowC (mPickIntC (mPickIntC (mBelowC c 13) lFive) lFive) 3) 3) lTok) 9) 9) 9) 4).B := mBelowC_B _ hb8
  obtain ⟨_, _, _⟩ := id hb9
  have hb10 : (mPickIntC (mBelowC (mBelowC (mBelowC (mBelowC (mPickIntC (mBelowC (mBelowC (mPickIntC (mPickIntC (mBelowC c 13) lFive) lFive) 3) 3) lTok) 9) 9) 9) 4) lSeven).B := mBelowC_B _ hb9
  obtain ⟨_, _, _⟩ := id hb10
  have hb11 : (mBelowC (mPickIntC (mBelowC (mBelowC (mBelowC (mBelowC (mPickIntC (mBelowC (mBelowC (mPickIntC (mPickIntC (mBelowC c 13) lFive) lFive) 3) 3) lTok) 9) 9) 9) 4) lSeven) 30).B := mBelowC_B _ hb10
  obtain ⟨_, _, _⟩ := id hb11
  have hb20 := mBelowC_B 3 hb11
  obtain ⟨_, _, _⟩ := id hb20
  have hb21 := dTagC_B hb20
  obtain ⟨_, _, _⟩ := id hb21
  have hl1 : lFive.length = 5 := rfl
  have hl2 : lTok.length = 3 := rfl
  have hl3 : lSeven.length = 7 := rfl
  have hl4 : lEvil.length = 4 := rfl
  have ht1 : ([11, 12, 21, 22, 31] : List Int) = lFive := rfl
  have ht2 : ([101, 102, 7] : List Int) = lTok := rfl
  have ht3 : ([11, 12, 13, 21, 22, 23, 31] : List Int) = lSeven := rfl
  have ht4 : ([[97], [101, 118, 105, 108], [122, 122], []] : List (List UInt8)) = lEvil := rfl
  have hS : dLet c = dLetText (dLetTag (dLet0 c) (dLet0C c)).1 (dLetTag (dLet0 c) (dLet0C c)).2 := rfl
  simp only [dLetTag, dLetText, dLet0C, dLet0] at hS
  refine ⟨[], ?_⟩
  cases ho : mOnce (mBelowC (mPickIntC (mBelowC (mBelowC (mBelowC (mBelowC (mPickIntC (mBelowC (mBelowC (mPickIntC (mPickIntC (mBelowC c 13) lFive) lFive) 3) 3) lTok) 9) 9) 9) 4) lSeven) 30) 3
  all_goals (
    simp only [ho, reduceCtorEq, if_true, if_false] at hS
    by_cases hk : w64 (1 + mBelow c 13) = 11
    all_goals (
      first | rw [if_pos hk] at hS | rw [if_neg hk] at hS
      repeat' ((conv => whnf); first | refine toOb2 ?_ | (refine fun y hy => ?_; (try simp only [Ctr.reads, Ctr.parts, ho, hk, hS, ht1, ht2, ht3, ht4, beq_iff_eq, beq_eq_false_iff_ne, ne_eq, cfa, cfb, cfc, cfd, spps, reduceCtorEq, ETy.frm, if_true, if_false, implies_true, nbls, etas] at hy); subst hy) | (refine And.intro (fun h => ?_) (fun h => ?_) <;> (try simp only [ho, hk, hS, ht1, ht2, ht3, ht4, beq_iff_eq, beq_eq_false_iff_ne, ne_eq, cfa, cfb, cfc, cfd, spps, reduceCtorEq, ETy.frm, if_true, if_false, implies_true, nbls, etas] at h)) | refine And.intro (toOb2 ?_) ?_ | refine And.intro (?_ : drawOk _ _ _ = true) ?_ | (refine And.intro ⟨?_, ?_⟩ ?_; fail) | intro _)
      all_goals try (exfalso; omega)
      all_goals first | (refine Ob2.mk ?_; (try simp only [allP, side, Ctr.reads, ho, hk, hS, ht1, ht2, ht3, ht4, beq_iff_eq, beq_eq_false_iff_ne, ne_eq, cfa, cfb, cfc, cfd, etas])) | (show drawOk _ _ _ = true; exact rfl) | skip
      all_goals first | done | with_reducible assumption | ((repeat' (first | with_reducible exact rfl | exact trivial | with_reducible assumption | exact id | refine And.intro ?_ ?_)); all_goals first | done | omega | (simp only [List.length_append, List.length_cons, List.length_nil]; omega) | exact hw.symm | exact hcb | exact hcb.symm | exact Nat.zero_le _ | trace_state) | trace_state))
set_option maxHeartbeats 4000000 in
theorem h_spec_l16Any : Ctr.holds E 224 (⟨[aCur], [.ref], [aLetter], (fun ((c : DCur), _) => c.B), (fun ((c : DCur), _) => ((dLetAny c).1, ())), (fun ((c : DCur), _) => ((dLetAny c).2, ())), false, .ret⟩) := by
  refine fn_okw prgOk (gcons h_spec_l16Letter (gcons h_spec_l01Below (gcons h_spec_l01PickInt (gcons h_spec_l01Long gnil)))) Tryz.func224 rfl rfl rfl (fun ⟨c, _⟩ _ => ⟨by simp [LenC, dLetAny_b], trivial⟩) ?_
  rintro ty ⟨(c : DCur), _⟩ (hp : c.B)
  obtain ⟨_, _, _⟩ := id hp
  have hb1 := dLet_B hp
  obtain ⟨_, _, _⟩ := id hb1
  have hb2 := mBelowC_B 12 hb1
  obtain ⟨_, _, _⟩ := id hb2
  have hkb := mBelow_bd (c := (dLet c).2) (n := 12) (by decide)
  have hlb := pickInt_mem (mBelowC (dLet c).2 12) (l := lLen) (by decide)
  have hlb2 : 0 ≤ mPickInt (mBelowC (dLet c).2 12) lLen ∧ mPickInt (mBelowC (dLet c).2 12) lLen ≤ 21 := by
    generalize mPickInt (mBelowC (dLet c).2 12) lLen = t at hlb
    simp only [lLen, List.mem_cons, List.not_mem_nil, or_false] at hlb
    rcases hlb with rfl | rfl <;> decide
  clear hlb
  have hla1 : lKind.length = 3 := rfl
  have hla2 : lLen.length = 2 := rfl
  have hla3 : lTil.length = 2 := rfl
  have ht1 : ([0, 14, 13] : List Int) = lKind := rfl
  have ht2 : ([20, 21] : List Int) = lLen := rfl
  have ht3 : ([-1, 1000000001] : List Int) = lTil := rfl
  have hAny : dLetAny c = dLet2 (dLet c).1 (dLet c).2 := rfl
  generalize hP1 : (dLet c).1 = x at *
  generalize hP2 : (dLet c).2 = d at *
  have hdb : d.b = c.b := by rw [← hP2, dLet_b]
  have hfold2 : (⟨c.b, d.i, d.h⟩ : DCur) = d := dCur_fold hdb
  refine ⟨[], ?_⟩
  have hkc : mBelow d 12 = 0 ∨ mBelow d 12 = 1 ∨ mBelow d 12 = 2 ∨ mBelow d 12 = 3 ∨ (mBelow d 12 ≠ 0 ∧ mBelow d 12 ≠ 1 ∧ mBelow d 12 ≠ 2 ∧ mBelow d 12 ≠ 3) := by omega
  rcases hkc with hkk | hkk | hkk | hkk | ⟨hk0, hk1, hk2, hk3⟩
  iterate 4 (
    next =>
      have hS := hAny
      simp only [dLet2, hkk, Int.reduceEq, if_true, if_false] at hS
      repeat' ((conv => whnf); first | refine toOb2 ?_ | (refine fun y hy => ?_; (try simp only [Ctr.reads, Ctr.parts, hkk, hS, ht1, ht2, ht3, hfold2, hP1, hP2, hdb, beq_iff_eq, beq_eq_false_iff_ne, ne_eq, Int.reduceEq, cfa, cfb, cfc, cfd, spps, reduceCtorEq, ETy.frm, if_true, if_false, implies_true, nbls, etas] at hy); subst hy) | (refine And.intro (fun h => ?_) (fun h => ?_) <;> (try simp only [hkk, hS, ht1, ht2, ht3, hfold2, hP1, hP2, hdb, beq_iff_eq, beq_eq_false_iff_ne, ne_eq, Int.reduceEq, cfa, cfb, cfc, cfd, spps, reduceCtorEq, ETy.frm, if_true, if_false, implies_true, nbls, etas] at h)) | refine And.intro (toOb2 ?_) ?_ | refine And.intro (?_ : drawOk _ _ _ = true) ?_ | (refine And.intro ⟨?_, ?_⟩ ?_; fail) | intro _)
      all_goals try (exfalso; omega)
      all_goals first | (refine Ob2.mk ?_; (try simp only [allP, side, Ctr.reads, hkk, hS, ht1, ht2, ht3, hfold2, hP1, hP2, hdb, beq_iff_eq, beq_eq_false_iff_ne, ne_eq, Int.reduceEq, cfa, cfb, cfc, cfd, etas])) | (show drawOk _ _ _ = true; exact rfl) | skip
      all_goals first | done | with_reducible assumption | ((repeat' (first | with_reducible exact rfl | exact trivial | with_reducible assumption | exact id | refine And.intro ?_ ?_)); all_goals first | done | omega | (simp only [List.length_append, List.length_cons, List.length_nil]; omega) | exact hw.symm | exact hcb | exact hcb.symm | exact Nat.zero_le _ | trace_state) | trace_state)
  · have hS := hAny
    rw [dLet2, if_neg hk0, if_neg hk1, if_neg hk2, if_neg hk3] at hS
    repeat' ((conv => whnf); first | refine toOb2 ?_ | (refine fun y hy => ?_; (try simp only [Ctr.reads, Ctr.parts, hk0, hk1, hk2, hk3, hS, hfold2, hP1, hP2, hdb, beq_iff_eq, beq_eq_false_iff_ne, ne_eq, Int.reduceEq, cfa, cfb, cfc, cfd, spps, reduceCtorEq, ETy.frm, if_true, if_false, implies_true, nbls, etas] at hy); subst hy) | (refine And.intro (fun h => ?_) (fun h => ?_) <;> (try simp only [hk0, hk1, hk2, hk3, hS, hfold2, hP1, hP2, hdb, beq_iff_eq, beq_eq_false_iff_ne, ne_eq, Int.reduceEq, cfa, cfb, cfc, cfd, spps, reduceCtorEq, ETy.frm, if_true, if_false, implies_true, nbls, etas] at h)) | refine And.intro (toOb2 ?_) ?_ | refine And.intro (?_ : drawOk _ _ _ = true) ?_ | (refine And.intro ⟨?_, ?_⟩ ?_; fail) | intro _)
    all_goals try (exfalso; omega)
    all_goals first | (refine Ob2.mk ?_; (try simp only [allP, side, Ctr.reads, hk0, hk1, hk2, hk3, hS, hfold2, hP1, hP2, hdb, beq_iff_eq, beq_eq_false_iff_ne, ne_eq, Int.reduceEq, cfa, cfb, cfc, cfd, etas])) | (show drawOk _ _ _ = true; exact rfl) | skip
    all_goals first | done | with_reducible assumption | ((repeat' (first | with_reducible exact rfl | exact trivial | with_reducible assumption | exact id | refine And.intro ?_ ?_)); all_goals first | done | omega | (simp only [List.length_append, List.length_cons, List.length_nil]; omega) | exact hw.symm | exact hcb | exact hcb.symm | exact Nat.zero_le _ | trace_state) | trace_state
set_option maxHeartbeats 4000000 in
theorem h_spec_l17Letter : Ctr.holds E 186 (⟨[aCur, aEnd], [.ref, .ro], [aLetter], (fun ((c : DCur), (e : DEnd), _) => c.B ∧ e.B), (fun ((c : DCur), (e : DEnd), _) => ((dFit e c).1, ())), (fun ((c : DCur), (e : DEnd), _) => ((dFit e c).2, e, ())), false, .ret⟩) := by
  refine fn_okw prgOk (gcons h_spec_l16Any (gcons h_spec_l01Once (gcons h_spec_l01Below (gcons h_spec_RoadBack (gcons h_spec_Between gnil))))) Tryz.func186 rfl rfl rfl (fun ⟨c, e, _⟩ _ => ⟨by simp [LenC, dFit_b], trivial, trivial⟩) ?_
  rintro ty ⟨(c : DCur), (e : DEnd), _⟩ (hp : c.B ∧ e.B)
  obtain ⟨hp, hB⟩ := hp
  obtain ⟨_, _, _⟩ := id hp
  have hb1 := dLetAny_B hp
  obtain ⟨_, _, _⟩ := id hb1
  have hb2 := mBelowC_B 4 hb1
  obtain ⟨_, _, _⟩ := id hb2
  have hb3 := mBelowC_B (e.subs.length : Int) hb2
  obtain ⟨_, _, _⟩ := id hb3
  have hsl := hB.2.2.1
  have hF : dFit e c = dFit1 e (dLetAny c).1 (dLetAny c).2 := rfl
  have hdb := dLetAny_b c
  generalize hP1 : (dLetAny c).1 = x at *
  generalize hP2 : (dLetAny c).2 = d at *
  have hfold2 : (⟨c.b, d.i, d.h⟩ : DCur) = d := dCur_fold hdb
  refine ⟨[], ?_⟩
  by_cases hs : 0 < e.subs.length
  · have hs2 : ((0 : Int) < (e.subs.length : Int)) = True := by simp; omega
    have hkb := mBelow_bd (c := mBelowC d 4) (n := (e.subs.length : Int)) (by omega)
    rw [dFit1, if_pos hs] at hF
    cases ho : mOnce d 4
    all_goals (
      simp only [ho, reduceCtorEq, if_true, if_false, gSub, mBetween, mBack] at hF
      repeat' ((conv => whnf); first | refine toOb2 ?_ | (refine fun y hy => ?_; (try simp only [Ctr.reads, Ctr.parts, hs2, ho, hF, mBetween, mBack, hfold2, hP1, hP2, hdb, gt_iff_lt, cfa, cfb, cfc, cfd, spps, reduceCtorEq, ETy.frm, if_true, if_false, implies_true, nbls, etas] at hy); subst hy) | (refine And.intro (fun h => ?_) (fun h => ?_) <;> (try simp only [hs2, ho, hF, mBetween, mBack, hfold2, hP1, hP2, hdb, gt_iff_lt, cfa, cfb, cfc, cfd, spps, reduceCtorEq, ETy.frm, if_true, if_false, implies_true, nbls, etas] at h)) | refine And.intro (toOb2 ?_) ?_ | refine And.intro (?_ : drawOk _ _ _ = true) ?_ | (refine And.intro ⟨?_, ?_⟩ ?_; fail) | intro _)
      all_goals try (exfalso; omega)
      all_goals first | (refine Ob2.mk ?_; (try simp only [allP, side, Ctr.reads, hs2, ho, hF, mBetween, mBack, hfold2, hP1, hP2, hdb, gt_iff_lt, cfa, cfb, cfc, cfd, etas])) | (show drawOk _ _ _ = true; exact rfl) | skip
      all_goals first | done | with_reducible assumption | ((repeat' (first | with_reducible exact rfl | exact trivial | with_reducible assumption | exact id | refine And.intro ?_ ?_)); all_goals first | done | omega | (simp only [List.length_append, List.length_cons, List.length_nil]; omega) | exact hw.symm | exact hcb | exact hcb.symm | exact Nat.zero_le _ | trace_state) | trace_state)
  · have hs2 : ((0 : Int) < (e.subs.length : Int)) = False := eq_false (by omega)
    rw [dFit1, if_neg hs] at hF
    repeat' ((conv => whnf); first | refine toOb2 ?_ | (refine fun y hy => ?_; (try simp only [Ctr.reads, Ctr.parts, hs2, hF, hfold2, hP1, hP2, hdb, gt_iff_lt, cfa, cfb, cfc, cfd, spps, reduceCtorEq, ETy.frm, if_true, if_false, implies_true, nbls, etas] at hy); subst hy) | (refine And.intro (fun h => ?_) (fun h => ?_) <;> (try simp only [hs2, hF, hfold2, hP1, hP2, hdb, gt_iff_lt, cfa, cfb, cfc, cfd, spps, reduceCtorEq, ETy.frm, if_true, if_false, implies_true, nbls, etas] at h)) | refine And.intro (toOb2 ?_) ?_ | refine And.intro (?_ : drawOk _ _ _ = true) ?_ | (refine And.intro ⟨?_, ?_⟩ ?_; fail) | intro _)
    all_goals try (exfalso; omega)
    all_goals first | (refine Ob2.mk ?_; (try simp only [allP, side, Ctr.reads, hs2, hF, hfold2, hP1, hP2, hdb, gt_iff_lt, cfa, cfb, cfc, cfd, etas])) | (show drawOk _ _ _ = true; exact rfl) | skip
    all_goals first | done | with_reducible assumption | ((repeat' (first | with_reducible exact rfl | exact trivial | with_reducible assumption | exact id | refine And.intro ?_ ?_)); all_goals first | done | omega | (simp only [List.length_append, List.length_cons, List.length_nil]; omega) | exact hw.symm | exact hcb | exact hcb.symm | exact Nat.zero_le _ | trace_state) | trace_state
set_option maxHeartbeats 20000000 in
theorem h_spec_l19Hears : Ctr.holds E 97 (.reads [aRow .u8, aInt] [aEnd, aLetter] (fun ((b : List Int), (k : Int), _) => b.length ≤ 1073741824) fun ((b : List Int), (k : Int), _) => (hE b, hX k b, ())) := by
  refine fn_ok prgOk (gcons h_spec_l01New (gcons h_spec_l17Any (gcons h_spec_l17Letter (gcons h_spec_l01Once (gcons h_spec_l01Below (gcons h_spec_TokenFor (gcons h_spec_RoadBack (gcons h_spec_Between (gcons h_spec_TagBack (gcons h_spec_TagDone gnil)))))))))) Tryz.func97 rfl rfl rfl rfl ?_
  rintro ty ⟨(b : List Int), (k : Int), _⟩ (hp : b.length ≤ 1073741824)
  have hb1 := mCur_B hp
  obtain ⟨_, _, _⟩ := id hb1
  have hn0 : (mNew b).i = 0 := rfl
  have hb2 := dAny_B hb1
  have hU := dAny_U (mCur b)
  have hdb := dAny_b (mCur b)
  have hEd : hE b = (dAny (mCur b)).1 := rfl
  have hXd : hX k b = hrX k (dAny (mCur b)).1 (dAny (mCur b)).2 := rfl
  generalize hA1 : (dAny (mCur b)).1 = E at *
  generalize hA2 : (dAny (mCur b)).2 = C at *
  have hdb : C.b = b := hdb
  have hfC : (⟨b, C.i, C.h⟩ : DCur) = C := dCur_fold hdb
  obtain ⟨_, _, _⟩ := id hb2
  have hEB := U_B hU
  have hsl := hEB.2.2.1
  have hhl := hEB.2.2.2.1
  have hb3 := dFit_B E hb2
  have hX0d : hrX0 k E C = (hrC E (hrB E (hrA k (dFit E C).1 (dFit E C).2) (mBelowC (dFit E C).2 12)).1 (hrB E (hrA k (dFit E C).1 (dFit E C).2) (mBelowC (dFit E C).2 12)).2, mBelowC (hrB E (hrA k (dFit E C).1 (dFit E C).2) (mBelowC (dFit E C).2 12)).2 2) := rfl
  have hT0B := hrX0_B k E hb2
  have hT1 : hr1L k E E.subs (hrX0 k E C).1 (hrX0 k E C).2 = hrX1 k E C := rfl
  have hT2 : hr2L k E E.halfs (hrX1 k E C).1 (hrX1 k E C).2 = hrX2 k E C := rfl
  have hT3 : hr3L k E E.subs (hrX2 k E C).1 (hrX2 k E C).2 = hrX k E C := rfl
  have hc1b := dFit_b E C
  generalize hF1 : (dFit E C).1 = x0 at *
  generalize hF2 : (dFit E C).2 = c1 at *
  have hc1b : c1.b = b := hc1b.trans hdb
  have hfc1 : (⟨b, c1.i, c1.h⟩ : DCur) = c1 := dCur_fold hc1b
  obtain ⟨_, _, _⟩ := id hb3
  have hb4 := mBelowC_B 12 hb3
  obtain ⟨_, _, _⟩ := id hb4
  have hb5 := mBelowC_B 2 hb4
  obtain ⟨_, _, _⟩ := id hb5
  have hb6 := mBelowC_B (E.own.length : Int) hb5
  obtain ⟨_, _, _⟩ := id hb6
  have hkb := fun h : 0 < (E.own.length : Int) => mBelow_bd (c := mBelowC (mBelowC c1 12) 2) h
  generalize hrX k E C = T3 at *
  generalize hrX2 k E C = T2 at *
  generalize hrX1 k E C = T1 at *
  generalize hT0 : hrX0 k E C = T0 at *
  have hT0b : T0.2.b = b := by rw [hX0d]; simp only [hrB]; repeat' split
                               all_goals simp only [mBelowC_b, hc1b]
  refine ⟨[(11, { X := Nat × DCur × DLetter, inv := fun z => z.1 ≤ E.subs.length ∧ z.2.1.B ∧ z.2.1.b = b ∧ hr1L k E (E.subs.drop z.1) z.2.2 z.2.1 = T1, mu := fun z => E.subs.length - z.1, vk := [9, 20, 21, 22, 23, 24, 25, 26, 27, 28, 29, 30, 31, 32, 33, 34, 35, 36, 37, 38, 39, 40, 41, 42, 43, 44, 45, 46, 47, 48], ov := fun z => [.a (.c (.leaf (.int (z.1 : Int)))), .any, .any, .any, .any, .any, .any, .any, .any, .any, .any, .any, .any, .any, .any, .any, .any, .any, .any, .any, .any, .any, .any, .any, .any, .any, .any, .any, .any, .any], bk := [13, 8], ob := fun z => [[.row 0, .leaf (.int z.2.1.i), .leaf (.int z.2.1.h)], [.leaf (.int z.2.2.kind), .leaf (.int z.2.2.src), .leaf (.int z.2.2.dst), .leaf (.int z.2.2.port), .leaf (.int z.2.2.key), .leaf (.int z.2.2.token), .leaf (.int z.2.2.nonce), .leaf (.int z.2.2.give), .leaf (.int z.2.2.sign), .leaf (.int z.2.2.tag.kind), .leaf (.int z.2.2.tag.one), .leaf (.int z.2.2.tag.two), .leaf (.int z.2.2.tag.a), .leaf (.int z.2.2.tag.b), .leaf (.int z.2.2.id), .leaf (.int z.2.2.addr), .leaf (.bool z.2.2.spare), .leaf (.int z.2.2.pos), .leaf (.str z.2.2.text)]], rk := [], orr := fun z => [] }), (17, { X := Nat × DCur × DLetter, inv := fun z => z.1 ≤ E.halfs.length ∧ z.2.1.B ∧ z.2.1.b = b ∧ hr2L k E (E.halfs.drop z.1) z.2.2 z.2.1 = T2, mu := fun z => E.halfs.length - z.1, vk := [10], ov := fun z => [.a (.c (.leaf (.int (z.1 : Int))))], bk := [13, 8], ob := fun z => [[.row 0, .leaf (.int z.2.1.i), .leaf (.int z.2.1.h)], [.leaf (.int z.2.2.kind), .leaf (.int z.2.2.src), .leaf (.int z.2.2.dst), .leaf (.int z.2.2.port), .leaf (.int z.2.2.key), .leaf (.int z.2.2.token), .leaf (.int z.2.2.nonce), .leaf (.int z.2.2.give), .leaf (.int z.2.2.sign), .leaf (.int z.2.2.tag.kind), .leaf (.int z.2.2.tag.one), .leaf (.int z.2.2.tag.two), .leaf (.int z.2.2.tag.a), .leaf (.int z.2.2.tag.b), .leaf (.int z.2.2.id), .leaf (.int z.2.2.addr), .leaf (.bool z.2.2.spare), .leaf (.int z.2.2.pos), .leaf (.str z.2.2.text)]], rk := [], orr := fun z => [] }), (25, { X := Nat × DCur × DLetter, inv := fun z => z.1 ≤ E.subs.length ∧ z.2.1.B ∧ z.2.1.b = b ∧ hr3L k E (E.subs.drop z.1) z.2.2 z.2.1 = T3, mu := fun z => E.subs.length - z.1, vk := [11], ov := fun z => [.a (.c (.leaf (.int (z.1 : Int))))], bk := [13, 8], ob := fun z => [[.row 0, .leaf (.int z.2.1.i), .leaf (.int z.2.1.h)], [.leaf (.int z.2.2.kind), .leaf (.int z.2.2.src), .leaf (.int z.2.2.dst), .leaf (.int z.2.2.port), .leaf (.int z.2.2.key), .leaf (.int z.2.2.token), .leaf (.int z.2.2.nonce), .leaf (.int z.2.2.give), .leaf (.int z.2.2.sign), .leaf (.int z.2.2.tag.kind), .leaf (.int z.2.2.tag.one), .leaf (.int z.2.2.tag.two), .leaf (.int z.2.2.tag.a), .leaf (.int z.2.2.tag.b), .leaf (.int z.2.2.id), .leaf (.int z.2.2.addr), .leaf (.bool z.2.2.spare), .leaf (.int z.2.2.pos), .leaf (.str z.2.2.text)]], rk := [], orr := fun z => [] })], ?_⟩
  apply joins (inv := fun z : Nat × DCur × DLetter => z.1 ≤ E.subs.length ∧ z.2.1.B ∧ z.2.1.b = b ∧ hr1L k E (E.subs.drop z.1) z.2.2 z.2.1 = T1)
  · intro main
    have h3 : (0 < E.own.length ∧ mOnce (mBelowC c1 12) 2 = true) ∨ (0 < E.own.length ∧ mOnce (mBelowC c1 12) 2 = false) ∨ (¬ 0 < E.own.length ∧ True) := by
      by_cases h : 0 < E.own.length
      · cases ho : mOnce (mBelowC c1 12) 2
        · exact .inr (.inl ⟨h, rfl⟩)
        · exact .inl ⟨h, rfl⟩
      · exact .inr (.inr ⟨h, trivial⟩)
    have hown3 : ((0 : Int) < (E.own.length : Int)) = (0 < E.own.length) := by simp
    cases ho1 : mOnce c1 12
    all_goals rcases h3 with ⟨hown, ho2⟩ | ⟨hown, ho2⟩ | ⟨hown, ho2⟩
    all_goals first | have hown2 : (0 < E.own.length) = True := eq_true hown | have hown2 : (0 < E.own.length) = False := eq_false hown
    all_goals (
      cases ho3 : mOnce (hrB E (hrA k x0 c1) (mBelowC c1 12)).2 2
      all_goals (
        have hX0 := hX0d
        have ho3 := ho3
        simp only [hrC, ho3, reduceCtorEq, if_true, if_false] at hX0
        simp only [hrB, hrA, ho1, ho2, hown2, reduceCtorEq, if_true, if_false] at hX0 ho3
        repeat' ((conv => whnf); first | refine toOb2 ?_ | (refine fun y hy => ?_; (try simp only [Ctr.reads, Ctr.parts, hown2, ho1, ho2, ho3, hX0, hrC, hrB, hrA, gSub, hEd, hXd, hown3, beq_iff_eq, beq_self_eq_true, beq_eq_false_iff_ne, ne_eq, Int.reduceEq, gt_iff_lt, mBetween, mBack, hdb, hc1b, hA1, hA2, hF1, hF2, hfC, hfc1, cfa, cfb, cfc, cfd, spps, reduceCtorEq, ETy.frm, if_true, if_false, implies_true, nbls, etas] at hy); subst hy) | (refine And.intro (fun h => ?_) (fun h => ?_) <;> (try simp only [hown2, ho1, ho2, ho3, hX0, hrC, hrB, hrA, gSub, hEd, hXd, hown3, beq_iff_eq, beq_self_eq_true, beq_eq_false_iff_ne, ne_eq, Int.reduceEq, gt_iff_lt, mBetween, mBack, hdb, hc1b, hA1, hA2, hF1, hF2, hfC, hfc1, cfa, cfb, cfc, cfd, spps, reduceCtorEq, ETy.frm, if_true, if_false, implies_true, nbls, etas] at h)) | refine And.intro (toOb2 ?_) ?_ | refine And.intro (?_ : drawOk _ _ _ = true) ?_ | (refine And.intro ⟨?_, ?_⟩ ?_; fail) | intro _)
        all_goals try (exfalso; omega)
        all_goals first | (refine Ob2.mk ?_; (try simp only [allP, side, Ctr.reads, hown2, ho1, ho2, ho3, hX0, hrC, hrB, hrA, gSub, hEd, hXd, hown3, beq_iff_eq, beq_self_eq_true, beq_eq_false_iff_ne, ne_eq, Int.reduceEq, gt_iff_lt, mBetween, mBack, hdb, hc1b, hA1, hA2, hF1, hF2, hfC, hfc1, cfa, cfb, cfc, cfd, etas]); first | done | trivial | with_reducible assumption | ((repeat' (first | exact id | exact trivial | with_reducible rfl | with_reducible assumption | exact fun _ => id | refine And.intro ?_ ?_)); all_goals first | done | omega | (refine fun _ => ?_; first | with_reducible assumption | omega) | trace_state) | trace_state) | (show drawOk _ _ _ = true; exact rfl) | skip
        conv => whnf
        refine And.intro ⟨((0, T0.2, T0.1) : Nat × DCur × DLetter), Ob.mk ?_, ?_⟩ (fun (z : Nat × DCur × DLetter) hz => ?_)
        · exact And.intro (Nat.zero_le _) (And.intro hT0B (And.intro hT0b hT1))
        · conv => whnf
          refine Ob.mk ?_
          all_goals (try simp only [allP, side, Ctr.reads, etas]); all_goals repeat' (first | exact sp1 | refine And.intro ?_ ?_)
          all_goals (try simp only [hX0, hA1, hA2, hF1, hF2, hdb, hc1b, hfC, hfc1, cfa, cfc, cfd])
          all_goals first | done | rfl | exact trivial | trace_state
        · conv => whnf
          exact main z hz))
  · intro z hi
    obtain ⟨i, u, x⟩ := z
    obtain ⟨hi, hu, hub, hm⟩ := hi
    have hi : i ≤ E.subs.length := hi
    have hu : u.B := hu
    have hub : u.b = b := hub
    have hm : hr1L k E (E.subs.drop i) x u = T1 := hm
    have hfu : (⟨b, u.i, u.h⟩ : DCur) = u := dCur_fold hub
    obtain ⟨_, _, _⟩ := id hu
    by_cases hgo : i < E.subs.length ∧ (k = 5)
    · obtain ⟨hlt, hkc⟩ := hgo
      obtain ⟨s, hx, hxi, hd⟩ := at_step E.subs i (ETy.zero .sub) hlt
      rw [hr1L, if_pos hkc, hd] at hm
      have hw := w64_succ hlt hsl
      have hlti : ((i : Int) < (E.subs.length : Int)) = True := by simp; omega
      clear hd hxi
      have hkb1 := hkc
      rw [hr1] at hm
      have hu2 := mBelowC_B 2 hu
      obtain ⟨_, _, _⟩ := id hu2
      by_cases hst : s.state = 1
      · rw [if_pos hst] at hm
        cases ho : mOnce u 2
        · rw [ho, if_neg (by simp)] at hm
          repeat' ((conv => whnf); first | refine toOb2 ?_ | (refine fun y hy => ?_; (try simp only [Ctr.reads, Ctr.parts, ho, hst, hw, hlti, hx, hfu, hub, hkb1, beq_iff_eq, beq_self_eq_true, beq_eq_false_iff_ne, ne_eq, Int.reduceEq, gt_iff_lt, mBetween, mBack, hdb, hc1b, hA1, hA2, hF1, hF2, hfC, hfc1, cfa, cfb, cfc, cfd, spps, reduceCtorEq, ETy.frm, if_true, if_false, implies_true, nbls, etas] at hy); subst hy) | (refine And.intro (fun h => ?_) (fun h => ?_) <;> (try simp only [ho, hst, hw, hlti, hx, hfu, hub, hkb1, beq_iff_eq, beq_self_eq_true, beq_eq_false_iff_ne, ne_eq, Int.reduceEq, gt_iff_lt, mBetween, mBack, hdb, hc1b, hA1, hA2, hF1, hF2, hfC, hfc1, cfa, cfb, cfc, cfd, spps, reduceCtorEq, ETy.frm, if_true, if_false, implies_true, nbls, etas] at h)) | refine And.intro (toOb2 ?_) ?_ | refine And.intro (?_ : drawOk _ _ _ = true) ?_ | (refine And.intro ⟨?_, ?_⟩ ?_; fail) | intro _)
          all_goals try (exfalso; omega)
          all_goals first | (refine Ob2.mk ?_; (try simp only [allP, side, Ctr.reads, ho, hst, hw, hlti, hx, hfu, hub, hkb1, beq_iff_eq, beq_self_eq_true, beq_eq_false_iff_ne, ne_eq, Int.reduceEq, gt_iff_lt, mBetween, mBack, hdb, hc1b, hA1, hA2, hF1, hF2, hfC, hfc1, cfa, cfb, cfc, cfd, etas]); first | done | trivial | with_reducible assumption | ((repeat' (first | exact id | exact trivial | with_reducible rfl | with_reducible assumption | exact fun _ => id | refine And.intro ?_ ?_)); all_goals first | done | omega | (refine fun _ => ?_; first | with_reducible assumption | omega) | trace_state) | trace_state) | (show drawOk _ _ _ = true; exact rfl) | skip
          all_goals (refine toEx2 ?_; refine Ex2.of ((i + 1, mBelowC u 2, x) : Nat × DCur × DLetter) (And.intro (And.intro hlt (And.intro hu2 (And.intro (by simp only [mBelowC_b, hub]) (by rw [hr1L, if_pos hkc]; exact hm)))) (by show E.subs.length - (i + 1) < E.subs.length - i; omega)) ?_; (conv => whnf); refine Ob.mk ?_)
          all_goals (try simp only [allP, side, Ctr.reads, ho, hst, hw, hlti, hx, hfu, hub, hkb1, beq_iff_eq, beq_self_eq_true, beq_eq_false_iff_ne, ne_eq, Int.reduceEq, gt_iff_lt, mBetween, mBack, hdb, hc1b, hA1, hA2, hF1, hF2, hfC, hfc1, cfa, cfb, cfc, cfd, etas])
          all_goals first | done | with_reducible assumption | ((repeat' (first | with_reducible exact rfl | exact trivial | with_reducible assumption | exact id | refine And.intro ?_ ?_)); all_goals first | done | omega | exact hw.symm | exact hcb | exact hcb.symm | exact Nat.zero_le _ | trace_state) | trace_state
        · rw [ho, if_pos rfl] at hm
          repeat' ((conv => whnf); first | refine toOb2 ?_ | (refine fun y hy => ?_; (try simp only [Ctr.reads, Ctr.parts, ho, hst, hw, hlti, hx, hfu, hub, hkb1, beq_iff_eq, beq_self_eq_true, beq_eq_false_iff_ne, ne_eq, Int.reduceEq, gt_iff_lt, mBetween, mBack, hdb, hc1b, hA1, hA2, hF1, hF2, hfC, hfc1, cfa, cfb, cfc, cfd, spps, reduceCtorEq, ETy.frm, if_true, if_false, implies_true, nbls, etas] at hy); subst hy) | (refine And.intro (fun h => ?_) (fun h => ?_) <;> (try simp only [ho, hst, hw, hlti, hx, hfu, hub, hkb1, beq_iff_eq, beq_self_eq_true, beq_eq_false_iff_ne, ne_eq, Int.reduceEq, gt_iff_lt, mBetween, mBack, hdb, hc1b, hA1, hA2, hF1, hF2, hfC, hfc1, cfa, cfb, cfc, cfd, spps, reduceCtorEq, ETy.frm, if_true, if_false, implies_true, nbls, etas] at h)) | refine And.intro (toOb2 ?_) ?_ | refine And.intro (?_ : drawOk _ _ _ = true) ?_ | (refine And.intro ⟨?_, ?_⟩ ?_; fail) | intro _)
          all_goals try (exfalso; omega)
          all_goals first | (refine Ob2.mk ?_; (try simp only [allP, side, Ctr.reads, ho, hst, hw, hlti, hx, hfu, hub, hkb1, beq_iff_eq, beq_self_eq_true, beq_eq_false_iff_ne, ne_eq, Int.reduceEq, gt_iff_lt, mBetween, mBack, hdb, hc1b, hA1, hA2, hF1, hF2, hfC, hfc1, cfa, cfb, cfc, cfd, etas]); first | done | trivial | with_reducible assumption | ((repeat' (first | exact id | exact trivial | with_reducible rfl | with_reducible assumption | exact fun _ => id | refine And.intro ?_ ?_)); all_goals first | done | omega | (refine fun _ => ?_; first | with_reducible assumption | omega) | trace_state) | trace_state) | (show drawOk _ _ _ = true; exact rfl) | skip
          all_goals (refine toEx2 ?_; refine Ex2.of ((i + 1, mBelowC u 2, { mBetween (mBack s.road) x with tag := mTagBack E.peer E.key x.nonce s.mine }) : Nat × DCur × DLetter) (And.intro (And.intro hlt (And.intro hu2 (And.intro (by simp only [mBelowC_b, hub]) (by rw [hr1L, if_pos hkc]; exact hm)))) (by show E.subs.length - (i + 1) < E.subs.length - i; omega)) ?_; (conv => whnf); refine Ob.mk ?_)
          all_goals (try simp only [allP, side, Ctr.reads, ho, hst, hw, hlti, hx, hfu, hub, hkb1, beq_iff_eq, beq_self_eq_true, beq_eq_false_iff_ne, ne_eq, Int.reduceEq, gt_iff_lt, mBetween, mBack, hdb, hc1b, hA1, hA2, hF1, hF2, hfC, hfc1, cfa, cfb, cfc, cfd, etas])
          all_goals first | done | with_reducible assumption | ((repeat' (first | with_reducible exact rfl | exact trivial | with_reducible assumption | exact id | refine And.intro ?_ ?_)); all_goals first | done | omega | exact hw.symm | exact hcb | exact hcb.symm | exact Nat.zero_le _ | trace_state) | trace_state
      · rw [if_neg hst] at hm
        repeat' ((conv => whnf); first | refine toOb2 ?_ | (refine fun y hy => ?_; (try simp only [Ctr.reads, Ctr.parts, hst, hw, hlti, hx, hfu, hub, hkb1, beq_iff_eq, beq_self_eq_true, beq_eq_false_iff_ne, ne_eq, Int.reduceEq, gt_iff_lt, mBetween, mBack, hdb, hc1b, hA1, hA2, hF1, hF2, hfC, hfc1, cfa, cfb, cfc, cfd, spps, reduceCtorEq, ETy.frm, if_true, if_false, implies_true, nbls, etas] at hy); subst hy) | (refine And.intro (fun h => ?_) (fun h => ?_) <;> (try simp only [hst, hw, hlti, hx, hfu, hub, hkb1, beq_iff_eq, beq_self_eq_true, beq_eq_false_iff_ne, ne_eq, Int.reduceEq, gt_iff_lt, mBetween, mBack, hdb, hc1b, hA1, hA2, hF1, hF2, hfC, hfc1, cfa, cfb, cfc, cfd, spps, reduceCtorEq, ETy.frm, if_true, if_false, implies_true, nbls, etas] at h)) | refine And.intro (toOb2 ?_) ?_ | refine And.intro (?_ : drawOk _ _ _ = true) ?_ | (refine And.intro ⟨?_, ?_⟩ ?_; fail) | intro _)
        all_goals try (exfalso; omega)
        all_goals first | (refine Ob2.mk ?_; (try simp only [allP, side, Ctr.reads, hst, hw, hlti, hx, hfu, hub, hkb1, beq_iff_eq, beq_self_eq_true, beq_eq_false_iff_ne, ne_eq, Int.reduceEq, gt_iff_lt, mBetween, mBack, hdb, hc1b, hA1, hA2, hF1, hF2, hfC, hfc1, cfa, cfb, cfc, cfd, etas]); first | done | trivial | with_reducible assumption | ((repeat' (first | exact id | exact trivial | with_reducible rfl | with_reducible assumption | exact fun _ => id | refine And.intro ?_ ?_)); all_goals first | done | omega | (refine fun _ => ?_; first | with_reducible assumption | omega) | trace_state) | trace_state) | (show drawOk _ _ _ = true; exact rfl) | skip
        all_goals (refine toEx2 ?_; refine Ex2.of ((i + 1, u, x) : Nat × DCur × DLetter) (And.intro (And.intro hlt (And.intro hu (And.intro (by simp only [mBelowC_b, hub]) (by rw [hr1L, if_pos hkc]; exact hm)))) (by show E.subs.length - (i + 1) < E.subs.length - i; omega)) ?_; (conv => whnf); refine Ob.mk ?_)
        all_goals (try simp only [allP, side, Ctr.reads, hst, hw, hlti, hx, hfu, hub, hkb1, beq_iff_eq, beq_self_eq_true, beq_eq_false_iff_ne, ne_eq, Int.reduceEq, gt_iff_lt, mBetween, mBack, hdb, hc1b, hA1, hA2, hF1, hF2, hfC, hfc1, cfa, cfb, cfc, cfd, etas])
        all_goals first | done | with_reducible assumption | ((repeat' (first | with_reducible exact rfl | exact trivial | with_reducible assumption | exact id | refine And.intro ?_ ?_)); all_goals first | done | omega | exact hw.symm | exact hcb | exact hcb.symm | exact Nat.zero_le _ | trace_state) | trace_state
    · have hmT : (x, u) = T1 := by
        rw [← hm, hr1L]
        by_cases hkc : k = 5
        · rw [if_pos hkc, List.drop_eq_nil_iff.2 (by omega)]; rfl
        · rw [if_neg hkc]
      have hex : (decide ((i : Int) < (E.subs.length : Int)) && (k == 5)) = false := by
        rw [Bool.and_eq_false_iff]
        by_cases hkc : k = 5
        · exact .inl (by simp; omega)
        · exact .inr (by simpa using hkc)
      clear hm
      subst hmT
      have hm2 := hT2
      repeat' ((conv => whnf); first | refine toOb2 ?_ | (refine fun y hy => ?_; (try simp only [Ctr.reads, Ctr.parts, hex, hfu, hub, beq_iff_eq, beq_self_eq_true, beq_eq_false_iff_ne, ne_eq, Int.reduceEq, gt_iff_lt, mBetween, mBack, hdb, hc1b, hA1, hA2, hF1, hF2, hfC, hfc1, cfa, cfb, cfc, cfd, spps, reduceCtorEq, ETy.frm, if_true, if_false, implies_true, nbls, etas] at hy); subst hy) | (refine And.intro (fun h => ?_) (fun h => ?_) <;> (try simp only [hex, hfu, hub, beq_iff_eq, beq_self_eq_true, beq_eq_false_iff_ne, ne_eq, Int.reduceEq, gt_iff_lt, mBetween, mBack, hdb, hc1b, hA1, hA2, hF1, hF2, hfC, hfc1, cfa, cfb, cfc, cfd, spps, reduceCtorEq, ETy.frm, if_true, if_false, implies_true, nbls, etas] at h)) | refine And.intro (toOb2 ?_) ?_ | refine And.intro (?_ : drawOk _ _ _ = true) ?_ | (refine And.intro ⟨?_, ?_⟩ ?_; fail) | intro _)
      all_goals try (exfalso; omega)
      all_goals first | (refine Ob2.mk ?_; (try simp only [allP, side, Ctr.reads, hex, hfu, hub, beq_iff_eq, beq_self_eq_true, beq_eq_false_iff_ne, ne_eq, Int.reduceEq, gt_iff_lt, mBetween, mBack, hdb, hc1b, hA1, hA2, hF1, hF2, hfC, hfc1, cfa, cfb, cfc, cfd, etas]); first | done | trivial | with_reducible assumption | ((repeat' (first | exact id | exact trivial | with_reducible rfl | with_reducible assumption | exact fun _ => id | refine And.intro ?_ ?_)); all_goals first | done | omega | (refine fun _ => ?_; first | with_reducible assumption | omega) | trace_state) | trace_state) | (show drawOk _ _ _ = true; exact rfl) | skip
      conv => whnf
      refine And.intro ⟨((0, u, x) : Nat × DCur × DLetter), Ob.mk ?_, ?_⟩ (fun (z : Nat × DCur × DLetter) hi => ?_)
      · exact And.intro (Nat.zero_le _) (And.intro hu (And.intro hub hm2))
      · conv => whnf
        refine Ob.mk ?_
        all_goals (try simp only [allP, side, Ctr.reads, etas]); all_goals repeat' (first | exact sp1 | refine And.intro ?_ ?_)
        all_goals (try simp only [cfa, hfu])
        all_goals first | done | rfl | exact trivial | trace_state
      obtain ⟨i, u, x⟩ := z
      obtain ⟨hi, hu, hub, hm⟩ := hi
      have hi : i ≤ E.halfs.length := hi
      have hu : u.B := hu
      have hub : u.b = b := hub
      have hm : hr2L k E (E.halfs.drop i) x u = T2 := hm
      have hfu : (⟨b, u.i, u.h⟩ : DCur) = u := dCur_fold hub
      obtain ⟨_, _, _⟩ := id hu
      by_cases hgo : i < E.halfs.length ∧ (k = 6 ∨ k = 4)
      · obtain ⟨hlt, hkc⟩ := hgo
        obtain ⟨s, hx, hxi, hd⟩ := at_step E.halfs i (ETy.zero .half) hlt
        rw [hr2L, if_pos hkc, hd] at hm
        have hw := w64_succ hlt hhl
        have hlti : ((i : Int) < (E.halfs.length : Int)) = True := by simp; omega
        clear hd hxi
        have hkb1 : (k = 6 ∨ k = 4) = True := eq_true hkc
        rw [hr2] at hm
        have hu2 := mBelowC_B 2 hu
        obtain ⟨_, _, _⟩ := id hu2
        cases ho : mOnce u 2
        · rw [ho, if_neg (by simp)] at hm
          repeat' ((conv => whnf); first | refine toOb2 ?_ | (refine fun y hy => ?_; (try simp only [Ctr.reads, Ctr.parts, ho, hw, hlti, hx, hfu, hub, hkb1, beq_iff_eq, beq_self_eq_true, beq_eq_false_iff_ne, ne_eq, Int.reduceEq, gt_iff_lt, mBetween, mBack, hdb, hc1b, hA1, hA2, hF1, hF2, hfC, hfc1, cfa, cfb, cfc, cfd, spps, reduceCtorEq, ETy.frm, if_true, if_false, implies_true, nbls, etas] at hy); subst hy) | (refine And.intro (fun h => ?_) (fun h => ?_) <;> (try simp only [ho, hw, hlti, hx, hfu, hub, hkb1, beq_iff_eq, beq_self_eq_true, beq_eq_false_iff_ne, ne_eq, Int.reduceEq, gt_iff_lt, mBetween, mBack, hdb, hc1b, hA1, hA2, hF1, hF2, hfC, hfc1, cfa, cfb, cfc, cfd, spps, reduceCtorEq, ETy.frm, if_true, if_false, implies_true, nbls, etas] at h)) | refine And.intro (toOb2 ?_) ?_ | refine And.intro (?_ : drawOk _ _ _ = true) ?_ | (refine And.intro ⟨?_, ?_⟩ ?_; fail) | intro _)
          all_goals try (exfalso; omega)
          all_goals first | (refine Ob2.mk ?_; (try simp only [allP, side, Ctr.reads, ho, hw, hlti, hx, hfu, hub, hkb1, beq_iff_eq, beq_self_eq_true, beq_eq_false_iff_ne, ne_eq, Int.reduceEq, gt_iff_lt, mBetween, mBack, hdb, hc1b, hA1, hA2, hF1, hF2, hfC, hfc1, cfa, cfb, cfc, cfd, etas]); first | done | trivial | with_reducible assumption | ((repeat' (first | exact id | exact trivial | with_reducible rfl | with_reducible assumption | exact fun _ => id | refine And.intro ?_ ?_)); all_goals first | done | omega | (refine fun _ => ?_; first | with_reducible assumption | omega) | trace_state) | trace_state) | (show drawOk _ _ _ = true; exact rfl) | skip
          all_goals (refine toEx2 ?_; refine Ex2.of ((i + 1, mBelowC u 2, x) : Nat × DCur × DLetter) (And.intro (And.intro hlt (And.intro hu2 (And.intro (by simp only [mBelowC_b, hub]) (by rw [hr2L, if_pos hkc]; exact hm)))) (by show E.halfs.length - (i + 1) < E.halfs.length - i; omega)) ?_; (conv => whnf); refine Ob.mk ?_)
          all_goals (try simp only [allP, side, Ctr.reads, ho, hw, hlti, hx, hfu, hub, hkb1, beq_iff_eq, beq_self_eq_true, beq_eq_false_iff_ne, ne_eq, Int.reduceEq, gt_iff_lt, mBetween, mBack, hdb, hc1b, hA1, hA2, hF1, hF2, hfC, hfc1, cfa, cfb, cfc, cfd, etas])
          all_goals first | done | with_reducible assumption | ((repeat' (first | with_reducible exact rfl | exact trivial | with_reducible assumption | exact id | refine And.intro ?_ ?_)); all_goals first | done | omega | exact hw.symm | exact hcb | exact hcb.symm | exact Nat.zero_le _ | trace_state) | trace_state
        · rw [ho, if_pos rfl] at hm
          repeat' ((conv => whnf); first | refine toOb2 ?_ | (refine fun y hy => ?_; (try simp only [Ctr.reads, Ctr.parts, ho, hw, hlti, hx, hfu, hub, hkb1, beq_iff_eq, beq_self_eq_true, beq_eq_false_iff_ne, ne_eq, Int.reduceEq, gt_iff_lt, mBetween, mBack, hdb, hc1b, hA1, hA2, hF1, hF2, hfC, hfc1, cfa, cfb, cfc, cfd, spps, reduceCtorEq, ETy.frm, if_true, if_false, implies_true, nbls, etas] at hy); subst hy) | (refine And.intro (fun h => ?_) (fun h => ?_) <;> (try simp only [ho, hw, hlti, hx, hfu, hub, hkb1, beq_iff_eq, beq_self_eq_true, beq_eq_false_iff_ne, ne_eq, Int.reduceEq, gt_iff_lt, mBetween, mBack, hdb, hc1b, hA1, hA2, hF1, hF2, hfC, hfc1, cfa, cfb, cfc, cfd, spps, reduceCtorEq, ETy.frm, if_true, if_false, implies_true, nbls, etas] at h)) | refine And.intro (toOb2 ?_) ?_ | refine And.intro (?_ : drawOk _ _ _ = true) ?_ | (refine And.intro ⟨?_, ?_⟩ ?_; fail) | intro _)
          all_goals try (exfalso; omega)
          all_goals first | (refine Ob2.mk ?_; (try simp only [allP, side, Ctr.reads, ho, hw, hlti, hx, hfu, hub, hkb1, beq_iff_eq, beq_self_eq_true, beq_eq_false_iff_ne, ne_eq, Int.reduceEq, gt_iff_lt, mBetween, mBack, hdb, hc1b, hA1, hA2, hF1, hF2, hfC, hfc1, cfa, cfb, cfc, cfd, etas]); first | done | trivial | with_reducible assumption | ((repeat' (first | exact id | exact trivial | with_reducible rfl | with_reducible assumption | exact fun _ => id | refine And.intro ?_ ?_)); all_goals first | done | omega | (refine fun _ => ?_; first | with_reducible assumption | omega) | trace_state) | trace_state) | (show drawOk _ _ _ = true; exact rfl) | skip
          all_goals (refine toEx2 ?_; refine Ex2.of ((i + 1, mBelowC u 2, { mBetween (mBack s.road) x with tag := mTagDone E.peer E.key s.theirs s.mine, nonce := s.theirs, give := s.give }) : Nat × DCur × DLetter) (And.intro (And.intro hlt (And.intro hu2 (And.intro (by simp only [mBelowC_b, hub]) (by rw [hr2L, if_pos hkc]; exact hm)))) (by show E.halfs.length - (i + 1) < E.halfs.length - i; omega)) ?_; (conv => whnf); refine Ob.mk ?_)
          all_goals (try simp only [allP, side, Ctr.reads, ho, hw, hlti, hx, hfu, hub, hkb1, beq_iff_eq, beq_self_eq_true, beq_eq_false_iff_ne, ne_eq, Int.reduceEq, gt_iff_lt, mBetween, mBack, hdb, hc1b, hA1, hA2, hF1, hF2, hfC, hfc1, cfa, cfb, cfc, cfd, etas])
          all_goals first | done | with_reducible assumption | ((repeat' (first | with_reducible exact rfl | exact trivial | with_reducible assumption | exact id | refine And.intro ?_ ?_)); all_goals first | done | omega | exact hw.symm | exact hcb | exact hcb.symm | exact Nat.zero_le _ | trace_state) | trace_state
      · have hmT : (x, u) = T2 := by
          rw [← hm, hr2L]
          by_cases hkc : k = 6 ∨ k = 4
          · rw [if_pos hkc, List.drop_eq_nil_iff.2 (by omega)]; rfl
          · rw [if_neg hkc]
        have hex : (decide ((i : Int) < (E.halfs.length : Int)) && ((k == 6) || (k == 4))) = false := by
          rw [Bool.and_eq_false_iff]
          by_cases hkc : k = 6 ∨ k = 4
          · exact .inl (by simp; omega)
          · exact .inr (by simpa using hkc)
        clear hm
        subst hmT
        have hm2 := hT3
        repeat' ((conv => whnf); first | refine toOb2 ?_ | (refine fun y hy => ?_; (try simp only [Ctr.reads, Ctr.parts, hex, hfu, hub, beq_iff_eq, beq_self_eq_true, beq_eq_false_iff_ne, ne_eq, Int.reduceEq, gt_iff_lt, mBetween, mBack, hdb, hc1b, hA1, hA2, hF1, hF2, hfC, hfc1, cfa, cfb, cfc, cfd, spps, reduceCtorEq, ETy.frm, if_true, if_false, implies_true, nbls, etas] at hy); subst hy) | (refine And.intro (fun h => ?_) (fun h => ?_) <;> (try simp only [hex, hfu, hub, beq_iff_eq, beq_self_eq_true, beq_eq_false_iff_ne, ne_eq, Int.reduceEq, gt_iff_lt, mBetween, mBack, hdb, hc1b, hA1, hA2, hF1, hF2, hfC, hfc1, cfa, cfb, cfc, cfd, spps, reduceCtorEq, ETy.frm, if_true, if_false, implies_true, nbls, etas] at h)) | refine And.intro (toOb2 ?_) ?_ | refine And.intro (?_ : drawOk _ _ _ = true) ?_ | (refine And.intro ⟨?_, ?_⟩ ?_; fail) | intro _)
        all_goals try (exfalso; omega)
        all_goals first | (refine Ob2.mk ?_; (try simp only [allP, side, Ctr.reads, hex, hfu, hub, beq_iff_eq, beq_self_eq_true, beq_eq_false_iff_ne, ne_eq, Int.reduceEq, gt_iff_lt, mBetween, mBack, hdb, hc1b, hA1, hA2, hF1, hF2, hfC, hfc1, cfa, cfb, cfc, cfd, etas]); first | done | trivial | with_reducible assumption | ((repeat' (first | exact id | exact trivial | with_reducible rfl | with_reducible assumption | exact fun _ => id | refine And.intro ?_ ?_)); all_goals first | done | omega | (refine fun _ => ?_; first | with_reducible assumption | omega) | trace_state) | trace_state) | (show drawOk _ _ _ = true; exact rfl) | skip
        conv => whnf
        refine And.intro ⟨((0, u, x) : Nat × DCur × DLetter), Ob.mk ?_, ?_⟩ (fun (z : Nat × DCur × DLetter) hi => ?_)
        · exact And.intro (Nat.zero_le _) (And.intro hu (And.intro hub hm2))
        · conv => whnf
          refine Ob.mk ?_
          all_goals (try simp only [allP, side, Ctr.reads, etas]); all_goals repeat' (first | exact sp1 | refine And.intro ?_ ?_)
          all_goals (try simp only [cfa, hfu])
          all_goals first | done | rfl | exact trivial | trace_state
        obtain ⟨i, u, x⟩ := z
        obtain ⟨hi, hu, hub, hm⟩ := hi
        have hi : i ≤ E.subs.length := hi
        have hu : u.B := hu
        have hub : u.b = b := hub
        have hm : hr3L k E (E.subs.drop i) x u = T3 := hm
        have hfu : (⟨b, u.i, u.h⟩ : DCur) = u := dCur_fold hub
        obtain ⟨_, _, _⟩ := id hu
        by_cases hgo : i < E.subs.length ∧ (k = 6)
        · obtain ⟨hlt, hkc⟩ := hgo
          obtain ⟨s, hx, hxi, hd⟩ := at_step E.subs i (ETy.zero .sub) hlt
          rw [hr3L, if_pos hkc, hd] at hm
          have hw := w64_succ hlt hsl
          have hlti : ((i : Int) < (E.subs.length : Int)) = True := by simp; omega
          clear hd hxi
          have hkb1 := hkc
          rw [hr3] at hm
          have hu2 := mBelowC_B 4 hu
          obtain ⟨_, _, _⟩ := id hu2
          by_cases hst : s.state = 3
          · rw [if_pos hst] at hm
            cases ho : mOnce u 4
            · rw [ho, if_neg (by simp)] at hm
              repeat' ((conv => whnf); first | refine toOb2 ?_ | (refine fun y hy => ?_; (try simp only [Ctr.reads, Ctr.parts, ho, hst, hw, hlti, hx, hfu, hub, hkb1, beq_iff_eq, beq_self_eq_true, beq_eq_false_iff_ne, ne_eq, Int.reduceEq, gt_iff_lt, mBetween, mBack, hdb, hc1b, hA1, hA2, hF1, hF2, hfC, hfc1, cfa, cfb, cfc, cfd, spps, reduceCtorEq, ETy.frm, if_true, if_false, implies_true, nbls, etas] at hy); subst hy) | (refine And.intro (fun h => ?_) (fun h => ?_) <;> (try simp only [ho, hst, hw, hlti, hx, hfu, hub, hkb1, beq_iff_eq, beq_self_eq_true, beq_eq_false_iff_ne, ne_eq, Int.reduceEq, gt_iff_lt, mBetween, mBack, hdb, hc1b, hA1, hA2, hF1, hF2, hfC, hfc1, cfa, cfb, cfc, cfd, spps, reduceCtorEq, ETy.frm, if_true, if_false, implies_true, nbls, etas] at h)) | refine And.intro (toOb2 ?_) ?_ | refine And.intro (?_ : drawOk _ _ _ = true) ?_ | (refine And.intro ⟨?_, ?_⟩ ?_; fail) | intro _)
              all_goals try (exfalso; omega)
              all_goals first | (refine Ob2.mk ?_; (try simp only [allP, side, Ctr.reads, ho, hst, hw, hlti, hx, hfu, hub, hkb1, beq_iff_eq, beq_self_eq_true, beq_eq_false_iff_ne, ne_eq, Int.reduceEq, gt_iff_lt, mBetween, mBack, hdb, hc1b, hA1, hA2, hF1, hF2, hfC, hfc1, cfa, cfb, cfc, cfd, etas]); first | done | trivial | with_reducible assumption | ((repeat' (first | exact id | exact trivial | with_reducible rfl | with_reducible assumption | exact fun _ => id | refine And.intro ?_ ?_)); all_goals first | done | omega | (refine fun _ => ?_; first | with_reducible assumption | omega) | trace_state) | trace_state) | (show drawOk _ _ _ = true; exact rfl) | skip
              all_goals (refine toEx2 ?_; refine Ex2.of ((i + 1, mBelowC u 4, x) : Nat × DCur × DLetter) (And.intro (And.intro hlt (And.intro hu2 (And.intro (by simp only [mBelowC_b, hub]) (by rw [hr3L, if_pos hkc]; exact hm)))) (by show E.subs.length - (i + 1) < E.subs.length - i; omega)) ?_; (conv => whnf); refine Ob.mk ?_)
              all_goals (try simp only [allP, side, Ctr.reads, ho, hst, hw, hlti, hx, hfu, hub, hkb1, beq_iff_eq, beq_self_eq_true, beq_eq_false_iff_ne, ne_eq, Int.reduceEq, gt_iff_lt, mBetween, mBack, hdb, hc1b, hA1, hA2, hF1, hF2, hfC, hfc1, cfa, cfb, cfc, cfd, etas])
              all_goals first | done | with_reducible assumption | ((repeat' (first | with_reducible exact rfl | exact trivial | with_reducible assumption | exact id | refine And.intro ?_ ?_)); all_goals first | done | omega | exact hw.symm | exact hcb | exact hcb.symm | exact Nat.zero_le _ | trace_state) | trace_state
            · rw [ho, if_pos rfl] at hm
              repeat' ((conv => whnf); first | refine toOb2 ?_ | (refine fun y hy => ?_; (try simp only [Ctr.reads, Ctr.parts, ho, hst, hw, hlti, hx, hfu, hub, hkb1, beq_iff_eq, beq_self_eq_true, beq_eq_false_iff_ne, ne_eq, Int.reduceEq, gt_iff_lt, mBetween, mBack, hdb, hc1b, hA1, hA2, hF1, hF2, hfC, hfc1, cfa, cfb, cfc, cfd, spps, reduceCtorEq, ETy.frm, if_true, if_false, implies_true, nbls, etas] at hy); subst hy) | (refine And.intro (fun h => ?_) (fun h => ?_) <;> (try simp only [ho, hst, hw, hlti, hx, hfu, hub, hkb1, beq_iff_eq, beq_self_eq_true, beq_eq_false_iff_ne, ne_eq, Int.reduceEq, gt_iff_lt, mBetween, mBack, hdb, hc1b, hA1, hA2, hF1, hF2, hfC, hfc1, cfa, cfb, cfc, cfd, spps, reduceCtorEq, ETy.frm, if_true, if_false, implies_true, nbls, etas] at h)) | refine And.intro (toOb2 ?_) ?_ | refine And.intro (?_ : drawOk _ _ _ = true) ?_ | (refine And.intro ⟨?_, ?_⟩ ?_; fail) | intro _)
              all_goals try (exfalso; omega)
              all_goals first | (refine Ob2.mk ?_; (try simp only [allP, side, Ctr.reads, ho, hst, hw, hlti, hx, hfu, hub, hkb1, beq_iff_eq, beq_self_eq_true, beq_eq_false_iff_ne, ne_eq, Int.reduceEq, gt_iff_lt, mBetween, mBack, hdb, hc1b, hA1, hA2, hF1, hF2, hfC, hfc1, cfa, cfb, cfc, cfd, etas]); first | done | trivial | with_reducible assumption | ((repeat' (first | exact id | exact trivial | with_reducible rfl | with_reducible assumption | exact fun _ => id | refine And.intro ?_ ?_)); all_goals first | done | omega | (refine fun _ => ?_; first | with_reducible assumption | omega) | trace_state) | trace_state) | (show drawOk _ _ _ = true; exact rfl) | skip
              all_goals (refine toEx2 ?_; refine Ex2.of ((i + 1, mBelowC u 4, { mBetween (mBack s.road) x with tag := mTagDone E.peer E.key s.theirs s.mine }) : Nat × DCur × DLetter) (And.intro (And.intro hlt (And.intro hu2 (And.intro (by simp only [mBelowC_b, hub]) (by rw [hr3L, if_pos hkc]; exact hm)))) (by show E.subs.length - (i + 1) < E.subs.length - i; omega)) ?_; (conv => whnf); refine Ob.mk ?_)
              all_goals (try simp only [allP, side, Ctr.reads, ho, hst, hw, hlti, hx, hfu, hub, hkb1, beq_iff_eq, beq_self_eq_true, beq_eq_false_iff_ne, ne_eq, Int.reduceEq, gt_iff_lt, mBetween, mBack, hdb, hc1b, hA1, hA2, hF1, hF2, hfC, hfc1, cfa, cfb, cfc, cfd, etas])
              all_goals first | done | with_reducible assumption | ((repeat' (first | with_reducible exact rfl | exact trivial | with_reducible assumption | exact id | refine And.intro ?_ ?_)); all_goals first | done | omega | exact hw.symm | exact hcb | exact hcb.symm | exact Nat.zero_le _ | trace_state) | trace_state
          · rw [if_neg hst] at hm
            repeat' ((conv => whnf); first | refine toOb2 ?_ | (refine fun y hy => ?_; (try simp only [Ctr.reads, Ctr.parts, hst, hw, hlti, hx, hfu, hub, hkb1, beq_iff_eq, beq_self_eq_true, beq_eq_false_iff_ne, ne_eq, Int.reduceEq, gt_iff_lt, mBetween, mBack, hdb, hc1b, hA1, hA2, hF1, hF2, hfC, hfc1, cfa, cfb, cfc, cfd, spps, reduceCtorEq, ETy.frm, if_true, if_false, implies_true, nbls, etas] at hy); subst hy) | (refine And.intro (fun h => ?_) (fun h => ?_) <;> (try simp only [hst, hw, hlti, hx, hfu, hub, hkb1, beq_iff_eq, beq_self_eq_true, beq_eq_false_iff_ne, ne_eq, Int.reduceEq, gt_iff_lt, mBetween, mBack, hdb, hc1b, hA1, hA2, hF1, hF2, hfC, hfc1, cfa, cfb, cfc, cfd, spps, reduceCtorEq, ETy.frm, if_true, if_false, implies_true, nbls, etas] at h)) | refine And.intro (toOb2 ?_) ?_ | refine And.intro (?_ : drawOk _ _ _ = true) ?_ | (refine And.intro ⟨?_, ?_⟩ ?_; fail) | intro _)
            all_goals try (exfalso; omega)
            all_goals first | (refine Ob2.mk ?_; (try simp only [allP, side, Ctr.reads, hst, hw, hlti, hx, hfu, hub, hkb1, beq_iff_eq, beq_self_eq_true, beq_eq_false_iff_ne, ne_eq, Int.reduceEq, gt_iff_lt, mBetween, mBack, hdb, hc1b, hA1, hA2, hF1, hF2, hfC, hfc1, cfa, cfb, cfc, cfd, etas]); first | done | trivial | with_reducible assumption | ((repeat' (first | exact id | exact trivial | with_reducible rfl | with_reducible assumption | exact fun _ => id | refine And.intro ?_ ?_)); all_goals first | done | omega | (refine fun _ => ?_; first | with_reducible assumption | omega) | trace_state) | trace_state) | (show drawOk _ _ _ = true; exact rfl) | skip
            all_goals (refine toEx2 ?_; refine Ex2.of ((i + 1, u, x) : Nat × DCur × DLetter) (And.intro (And.intro hlt (And.intro hu (And.intro (by simp only [mBelowC_b, hub]) (by rw [hr3L, if_pos hkc]; exact hm)))) (by show E.subs.length - (i + 1) < E.subs.length - i; omega)) ?_; (conv => whnf); refine Ob.mk ?_)
            all_goals (try simp only [allP, side, Ctr.reads, hst, hw, hlti, hx, hfu, hub, hkb1, beq_iff_eq, beq_self_eq_true, beq_eq_false_iff_ne, ne_eq, Int.reduceEq, gt_iff_lt, mBetween, mBack, hdb, hc1b, hA1, hA2, hF1, hF2, hfC, hfc1, cfa, cfb, cfc, cfd, etas])
            all_goals first | done | with_reducible assumption | ((repeat' (first | with_reducible exact rfl | exact trivial | with_reducible assumption | exact id | refine And.intro ?_ ?_)); all_goals first | done | omega | exact hw.symm | exact hcb | exact hcb.symm | exact Nat.zero_le _ | trace_state) | trace_state
        · have hmT : x = T3 := by
            rw [← hm, hr3L]
            by_cases hkc : k = 6
            · rw [if_pos hkc, List.drop_eq_nil_iff.2 (by omega)]; rfl
            · rw [if_neg hkc]
          have hex : (decide ((i : Int) < (E.subs.length : Int)) && (k == 6)) = false := by
            rw [Bool.and_eq_false_iff]
            by_cases hkc : k = 6
            · exact .inl (by simp; omega)
            · exact .inr (by simpa using hkc)
          clear hm
          repeat' ((conv => whnf); first | refine toOb2 ?_ | (refine fun y hy => ?_; (try simp only [Ctr.reads, Ctr.parts, hex, hfu, hub, hmT, hXd, hEd, beq_iff_eq, beq_self_eq_true, beq_eq_false_iff_ne, ne_eq, Int.reduceEq, gt_iff_lt, mBetween, mBack, hdb, hc1b, hA1, hA2, hF1, hF2, hfC, hfc1, cfa, cfb, cfc, cfd, spps, reduceCtorEq, ETy.frm, if_true, if_false, implies_true, nbls, etas] at hy); subst hy) | (refine And.intro (fun h => ?_) (fun h => ?_) <;> (try simp only [hex, hfu, hub, hmT, hXd, hEd, beq_iff_eq, beq_self_eq_true, beq_eq_false_iff_ne, ne_eq, Int.reduceEq, gt_iff_lt, mBetween, mBack, hdb, hc1b, hA1, hA2, hF1, hF2, hfC, hfc1, cfa, cfb, cfc, cfd, spps, reduceCtorEq, ETy.frm, if_true, if_false, implies_true, nbls, etas] at h)) | refine And.intro (toOb2 ?_) ?_ | refine And.intro (?_ : drawOk _ _ _ = true) ?_ | (refine And.intro ⟨?_, ?_⟩ ?_; fail) | intro _)
          all_goals try (exfalso; omega)
          all_goals first | (refine Ob2.mk ?_; (try simp only [allP, side, Ctr.reads, hex, hfu, hub, hmT, hXd, hEd, beq_iff_eq, beq_self_eq_true, beq_eq_false_iff_ne, ne_eq, Int.reduceEq, gt_iff_lt, mBetween, mBack, hdb, hc1b, hA1, hA2, hF1, hF2, hfC, hfc1, cfa, cfb, cfc, cfd, etas]); first | done | trivial | with_reducible assumption | ((repeat' (first | exact id | exact trivial | with_reducible rfl | with_reducible assumption | exact fun _ => id | refine And.intro ?_ ?_)); all_goals first | done | omega | (refine fun _ => ?_; first | with_reducible assumption | omega) | trace_state) | trace_state) | (show drawOk _ _ _ = true; exact rfl) | skip
end Go.Proofs.YtnpeomhpbakgnaaGreat
