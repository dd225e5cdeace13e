/- Contracts of functions of the program, each shown over the text. -/
import Derived.Test.YtnpeomhpbakgnaaGreatFun27
set_option linter.unusedVariables false
set_option linter.unusedSimpArgs false
set_option maxRecDepth 100000
set_option maxHeartbeats 1000000
namespace Go.Proofs.YtnpeomhpbakgnaaGreat
open Go.Eng
set_option maxHeartbeats 9000000 in
theorem h_laws_FnTwice : Ctr.holds E 4 (lawC [aRow .u8]) := by
  refine fn_ok prgOk (gcons h_laws_big (gcons h_spec_DrawHear (gcons h_impl_Hear (gcons h_spec_Hear (gcons h_laws_sameEnd (gcons h_laws_sameLetters (gcons h_impl_OnOf (gcons h_spec_OnOf (gcons h_laws_sameInts (gcons h_laws_sameAddrs (gcons h_laws_samePieces gnil))))))))))) Tryz.func4 rfl rfl rfl rfl ?_
  rintro ty ⟨(b : List Int), _⟩ hp
  have hW := bytesRow_W hp.1
  by_cases hsz : (b.length : Int) > 1048576
  · refine ⟨[], ?_⟩
    repeat' ((conv => whnf); first | refine toOb2 ?_ | (refine And.intro (fun h => ?_) (fun h => ?_) <;> (try simp only [lawC, Ctr.reads, Ctr.parts, beq_self_eq_true, bne_self_eq_false, reduceCtorEq, decide_true, decide_false, Bool.not_true, Bool.and_true, Bool.or_false, Bool.cond_true_left, Bool.cond_false_right, hd_letters, hsz, mkL_length, sq_pos, Int.reduceLT, mkEnd_re, hd_mk1, lt0_1, lt0_2, lt0_3, ne_eq, bne_self_eq_false, or_false, false_or, allP, side, decide_eq_true_eq, decide_eq_false_iff_not, not_false_eq_true, not_true_eq_false, Bool.not_true, Bool.not_false, Bool.not_eq_true', Bool.not_eq_false', Bool.not_eq_eq_eq_not, etas] at h) <;> (try contradiction)) | refine And.intro ?_ ?_ | refine toEx2 ?_ | (refine fun y hy => ?_; (try simp only [lawC, Ctr.reads, Ctr.parts, beq_self_eq_true, bne_self_eq_false, reduceCtorEq, decide_true, decide_false, Bool.not_true, Bool.and_true, Bool.or_false, Bool.cond_true_left, Bool.cond_false_right, hd_letters, hsz, mkL_length, sq_pos, Int.reduceLT, mkEnd_re, hd_mk1, lt0_1, lt0_2, lt0_3, ne_eq, bne_self_eq_false, or_false, false_or, allP, side, decide_eq_true_eq, decide_eq_false_iff_not, not_false_eq_true, not_true_eq_false, Bool.not_true, Bool.not_false, Bool.not_eq_true', Bool.not_eq_false', Bool.not_eq_eq_eq_not, etas] at hy); subst hy) | intro _)
    all_goals first | refine Ob2.mk ?_ | (show drawOk _ _ _ = true; exact rfl)
    all_goals (try simp only [lawC, Ctr.reads, Ctr.parts, beq_self_eq_true, bne_self_eq_false, reduceCtorEq, decide_true, decide_false, Bool.not_true, Bool.and_true, Bool.or_false, Bool.cond_true_left, Bool.cond_false_right, hd_letters, hsz, mkL_length, sq_pos, Int.reduceLT, mkEnd_re, hd_mk1, lt0_1, lt0_2, lt0_3, ne_eq, bne_self_eq_false, or_false, false_or, allP, side, decide_eq_true_eq, decide_eq_false_iff_not, not_false_eq_true, not_true_eq_false, Bool.not_true, Bool.not_false, Bool.not_eq_true', Bool.not_eq_false', Bool.not_eq_eq_eq_not, etas, and_true, true_and, implies_true, and_self])
    all_goals first | done | assumption | ((repeat' (first | assumption | refine And.intro ?_ ?_ | omega | intro _)); done) | grind [QB, DEnd.B]
  have hl : b.length ≤ 1073741824 := by omega
  have hU : (hE b).U := dAny_U (mCur b)
  generalize hA : hE b = E at *
  generalize hX : hX (w64 (1 + (b.length : Int).tmod 13)) b = X at *
  have hEB := U_B hU
  have hES := F_S hU.inn
  obtain ⟨t1, t2, t3, t4, t5, t6⟩ := twice_law hU X
  have hOB := mHear_B X hEB
  have hOS := hear_S hU X
  have hTB := mHear_B X hOB
  have hLl := mHear_len E X
  have hLl2 := mHear_len (mHear E X).1 X
  generalize hO : (mHear E X).1 = O at *
  generalize hL : (mHear E X).2 = L at *
  generalize hT : (mHear O X).1 = T at *
  have hOl : (mOnOf O).length ≤ 1073741824 := Nat.le_trans (colL_le _ _ _) hOB.2.2.1
  have hcT : ∀ (x y : Bool), (bif true then x else y) = x := fun _ _ => rfl
  have hcF : ∀ (x y : Bool), (bif false then x else y) = y := fun _ _ => rfl
  have hon : decide (mOnOf O = mOnOf T) = true := decide_eq_true t1
  have hfar : decide (O.far = T.far) = true := decide_eq_true t2
  have hown : decide (O.own = T.own) = true := decide_eq_true t3
  have hinn : decide (O.inn = T.inn) = true := decide_eq_true t4
  have ho1 : (O.out.text == T.out.text) = true := by rw [t5]; exact beq_self_eq_true _
  have ho2 : (O.out.base == T.out.base) = true := by rw [t5]; exact beq_self_eq_true _
  have ho3 : (O.out.sent == T.out.sent) = true := by rw [t5]; exact beq_self_eq_true _
  have ho4 : (O.out.room == T.out.room) = true := by rw [t5]; exact beq_self_eq_true _
  have hq1 := hOB.1
  have hq2 := hOB.2.1
  have hq3 := hOB.2.2.2.2.1
  have hlen : ((O.subs.length : Int) == (T.subs.length : Int)) = true := by rw [t6]; exact beq_self_eq_true _
  refine ⟨[], ?_⟩
  repeat' ((conv => whnf); first | refine toOb2 ?_ | (refine fun y hy => ?_; (try simp only [Ctr.reads, Ctr.parts, hsz, hA, hX, hO, hL, hT, hon, hfar, hown, hinn, ho1, ho2, ho3, ho4, hlen, hcT, hcF, beq_eq_false_iff_ne, not_true_eq_false, not_false_eq_true, Int.cast_ofNat_Int, beq_self_eq_true, beq_iff_eq, bne_self_eq_false, decide_true, decide_false, Bool.not_true, Bool.not_false, Bool.and_true, Bool.true_and, Bool.or_false, Bool.false_or, Bool.or_true, Bool.true_or, ne_eq, gt_iff_lt, ge_iff_le, Int.reduceEq, List.length_cons, List.length_nil, Nat.zero_add, Int.natCast_one, Int.natCast_zero, spps, reduceCtorEq, ETy.frm, if_true, if_false, implies_true, nbls, etas] at hy); subst hy) | (refine And.intro (fun h => ?_) (fun h => ?_) <;> (try simp only [hsz, hA, hX, hO, hL, hT, hon, hfar, hown, hinn, ho1, ho2, ho3, ho4, hlen, hcT, hcF, beq_eq_false_iff_ne, not_true_eq_false, not_false_eq_true, Int.cast_ofNat_Int, beq_self_eq_true, beq_iff_eq, bne_self_eq_false, decide_true, decide_false, Bool.not_true, Bool.not_false, Bool.and_true, Bool.true_and, Bool.or_false, Bool.false_or, Bool.or_true, Bool.true_or, ne_eq, gt_iff_lt, ge_iff_le, Int.reduceEq, List.length_cons, List.length_nil, Nat.zero_add, Int.natCast_one, Int.natCast_zero, spps, reduceCtorEq, ETy.frm, if_true, if_false, implies_true, nbls, etas] at h)) | refine And.intro (toOb2 ?_) ?_ | refine And.intro (?_ : drawOk _ _ _ = true) ?_ | (refine And.intro ⟨?_, ?_⟩ ?_; fail) | intro _)
  all_goals try (exfalso; omega)
  all_goals first | (refine Ob2.mk ?_; (try simp only [allP, side, Ctr.reads, hsz, hA, hX, hO, hL, hT, hon, hfar, hown, hinn, ho1, ho2, ho3, ho4, hlen, hcT, hcF, beq_eq_false_iff_ne, not_true_eq_false, not_false_eq_true, Int.cast_ofNat_Int, beq_self_eq_true, beq_iff_eq, bne_self_eq_false, decide_true, decide_false, Bool.not_true, Bool.not_false, Bool.and_true, Bool.true_and, Bool.or_false, Bool.false_or, Bool.or_true, Bool.true_or, ne_eq, gt_iff_lt, ge_iff_le, Int.reduceEq, List.length_cons, List.length_nil, Nat.zero_add, Int.natCast_one, Int.natCast_zero, lawC, Bool.cond_self, etas]); first | done | trivial | with_reducible assumption | ((repeat' (first | exact id | exact trivial | with_reducible rfl | with_reducible assumption | exact fun _ => id | refine And.intro ?_ ?_)); all_goals first | done | omega | (refine fun _ => ?_; first | with_reducible assumption | omega) | trace_state) | trace_state) | (show drawOk _ _ _ = true; exact rfl) | skip
end Go.Proofs.YtnpeomhpbakgnaaGreat
