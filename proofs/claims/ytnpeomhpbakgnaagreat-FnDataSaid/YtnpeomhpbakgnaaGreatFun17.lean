/- Contracts of functions of the program, each shown over the text. -/
import Derived.Test.YtnpeomhpbakgnaaGreatFun15
set_option linter.unusedVariables false
set_option linter.unusedSimpArgs false
set_option maxRecDepth 100000
namespace Go.Proofs.YtnpeomhpbakgnaaGreat
open Go.Eng
set_option maxHeartbeats 1000000 in
theorem h_spec_l01Text : Ctr.holds E 206 (⟨[aCur, aInt], [.ref, .ro], [aStr], (fun ((c : DCur), (n : Int), _) => c.B), (fun ((c : DCur), (n : Int), _) => (dText c n, ())), (fun ((c : DCur), (n : Int), _) => (dTextC c n, n, ())), false, .ret⟩) := by
  refine fn_okw (Γ := [(213, ⟨[aCur], [.ref], [aInt], (fun ((c : DCur), _) => c.B), (fun ((c : DCur), _) => (mByte c, ())), (fun ((c : DCur), _) => (mByteC c, ())), false, .ret⟩)]) prgOk (gcons h_spec_l01Byte gnil) Tryz.func206 rfl rfl rfl (fun ⟨c, n, _⟩ _ => ⟨by simp [LenC, dTextC_b], trivial, trivial⟩) ?_
  rintro ty ⟨(c : DCur), (n : Int), _⟩ (hp : c.B)
  have hty : Nat.beq (ty 0) (ty 0) = true := Nat.beq_refl _
  refine ⟨[(5, { X := Nat × DCur × List Int, inv := fun z => z.1 ≤ dTextN n ∧ z.2.1.B ∧ z.2.1.b = c.b ∧ (∀ x ∈ z.2.2, 0 ≤ x ∧ x ≤ 255) ∧ z.2.2.length = z.1 ∧ dBytes (dTextN n - z.1) z.2.1 z.2.2 = dBytes (dTextN n) c [], mu := fun z => dTextN n - z.1, vk := [6, 5, 9], ov := fun z => [.a (.c (.leaf (.int (z.1 : Int)))), .a (.c (.row 576)), .any], bk := [0], ob := fun z => [[.row 0, .leaf (.int z.2.1.i), .leaf (.int z.2.1.h)]], rk := [576], orr := fun z => [⟨.u8, z.2.2, true, none⟩] })], ?_⟩
  by_cases h5 : n > 5000
  · have hN : (dTextN n : Int) = 5000 := by unfold dTextN; rw [if_pos h5]; rfl
    repeat' ((conv => whnf); first | refine toOb2 ?_ | (refine fun y hy => ?_; (try simp only [Ctr.reads, h5, decide_true, decide_false, etas] at hy); subst hy) | refine And.intro (fun _ => ?_) (fun _ => ?_) | refine And.intro (toOb2 ?_) ?_ | refine And.intro (?_ : drawOk _ _ _ = true) ?_ | (refine And.intro ⟨?_, ?_⟩ ?_; fail) | intro _)
    all_goals try (exfalso; simp only [decide_eq_true_eq, decide_eq_false_iff_not] at *; omega)
    conv => whnf
    refine And.intro ⟨((0, c, []) : Nat × DCur × List Int), Ob.mk ?_, ?_⟩ (fun (z : Nat × DCur × List Int) hi => ?_)
    · exact And.intro (Nat.zero_le _) (And.intro hp (And.intro rfl (And.intro (fun x hx => by cases hx) (And.intro rfl rfl))))
    · conv => whnf
      rw [hty]
      conv => whnf
      refine Ob.mk ?_
      all_goals (try simp only [allP, side, Ctr.reads, etas]); all_goals repeat' (first | with_reducible exact rfl | exact trivial | with_reducible assumption | refine And.intro ?_ ?_ | exact rSV | exact rSC | (show drawOk _ _ _ = true; exact rfl) | exact r00)
      all_goals first | done | rfl | exact trivial
    obtain ⟨i, u, l⟩ := z
    obtain ⟨hi, hu, hcb, hby, hl, hm⟩ := hi
    have hi : i ≤ dTextN n := hi
    have hu : u.B := hu
    have hcb : u.b = c.b := hcb
    have hby : ∀ x ∈ l, 0 ≤ x ∧ x ≤ 255 := hby
    have hl : l.length = i := hl
    have hm : dBytes (dTextN n - i) u l = dBytes (dTextN n) c [] := hm
    have hfold : (⟨c.b, u.i, u.h⟩ : DCur) = u := dCur_fold hcb
    obtain ⟨_, _, _⟩ := id hu
    have hu1 := mByteC_B hu
    rcases Nat.lt_or_ge i (dTextN n) with hlt | hge
    · obtain ⟨k, hk⟩ : ∃ k, dTextN n - i = k + 1 := ⟨dTextN n - i - 1, by omega⟩
      have hk2 : dTextN n - (i + 1) = k := by omega
      rw [hk, dBytes, ← hk2] at hm
      have hw := w64_succ (i := i) (m := 5000) (by omega) (by decide)
      have hub := u8_bd (mByte u)
      have hby2 : ∀ x ∈ l ++ [IntKind.u8.wrap (mByte u)], 0 ≤ x ∧ x ≤ 255 := fun x hx => by
        rcases List.mem_append.1 hx with hx | hx
        · exact hby x hx
        · rw [List.mem_singleton.1 hx]; exact hub
      repeat' ((conv => whnf); first | refine toOb2 ?_ | (refine fun y hy => ?_; (try simp only [Ctr.reads, hfold, dCur_eta, dCur_fold, mByteC_b, mBelowC_b, mPickIntC_b, mDPolC_b, mDAny1C_b, mDAnyC_b, dAddrC_b, dRoadC_b, dHalf5C_b, dHalfC_b, dTagC_b, dTextC_b, hcb, etas] at hy); subst hy) | refine And.intro (fun _ => ?_) (fun _ => ?_) | refine And.intro (toOb2 ?_) ?_ | refine And.intro (?_ : drawOk _ _ _ = true) ?_ | (refine And.intro ⟨?_, ?_⟩ ?_; fail) | intro _)
      all_goals try (exfalso; simp only [hfold, dCur_eta, dCur_fold, mByteC_b, mBelowC_b, mPickIntC_b, mDPolC_b, mDAny1C_b, mDAnyC_b, dAddrC_b, dRoadC_b, dHalf5C_b, dHalfC_b, dTagC_b, dTextC_b, hcb, decide_eq_true_eq, decide_eq_false_iff_not, gt_iff_lt] at *; omega)
      all_goals first | refine Ob2.mk ?_ | (show drawOk _ _ _ = true; exact rfl) | (refine toEx2 ?_; refine Ex2.of ((i + 1, mByteC u, l ++ [IntKind.u8.wrap (mByte u)]) : Nat × DCur × List Int) ?_ ?_; rotate_left 1; (conv => whnf); rw [hty]; (conv => whnf); refine Ob.mk ?_) | skip
      all_goals (try simp only [allP, side, Ctr.reads, hfold, dCur_eta, dCur_fold, mByteC_b, mBelowC_b, mPickIntC_b, mDPolC_b, mDAny1C_b, mDAnyC_b, dAddrC_b, dRoadC_b, dHalf5C_b, dHalfC_b, dTagC_b, dTextC_b, hcb, etas, ETy.frm, List.length_append, List.length_cons, List.length_nil])
      all_goals first | done | trivial | assumption | omega | ((repeat' (first | with_reducible exact rfl | exact trivial | with_reducible assumption | refine And.intro ?_ ?_)); all_goals first | done | omega | exact hw.symm | exact hm | exact hcb | (rw [hcb]; done) | exact hby2 | grind) | trace_state
    · have hz : dTextN n - i = 0 := by omega
      rw [hz, dBytes] at hm
      have hd1 : dText c n = l.map fun n => UInt8.ofNat n.toNat := by rw [dText, ← hm]
      have hd2 : dTextC c n = u := by rw [dTextC, ← hm]
      repeat' ((conv => whnf); first | refine toOb2 ?_ | (refine fun y hy => ?_; (try simp only [Ctr.reads, hfold, dCur_eta, dCur_fold, mByteC_b, mBelowC_b, mPickIntC_b, mDPolC_b, mDAny1C_b, mDAnyC_b, dAddrC_b, dRoadC_b, dHalf5C_b, dHalfC_b, dTagC_b, dTextC_b, hcb, etas] at hy); subst hy) | refine And.intro (fun _ => ?_) (fun _ => ?_) | refine And.intro (toOb2 ?_) ?_ | refine And.intro (?_ : drawOk _ _ _ = true) ?_ | (refine And.intro ⟨?_, ?_⟩ ?_; fail) | intro _)
      all_goals try (exfalso; simp only [hfold, dCur_eta, dCur_fold, mByteC_b, mBelowC_b, mPickIntC_b, mDPolC_b, mDAny1C_b, mDAnyC_b, dAddrC_b, dRoadC_b, dHalf5C_b, dHalfC_b, dTagC_b, dTextC_b, hcb, decide_eq_true_eq, decide_eq_false_iff_not, gt_iff_lt] at *; omega)
      all_goals first | refine Ob2.mk ?_ | (show drawOk _ _ _ = true; exact rfl) | skip
      all_goals (try simp only [allP, side, Ctr.reads, hfold, dCur_eta, dCur_fold, mByteC_b, mBelowC_b, mPickIntC_b, mDPolC_b, mDAny1C_b, mDAnyC_b, dAddrC_b, dRoadC_b, dHalf5C_b, dHalfC_b, dTagC_b, dTextC_b, hcb, hd1, hd2, etas])
      all_goals first | done | trivial | assumption | omega | ((repeat' (first | with_reducible exact rfl | exact trivial | with_reducible assumption | refine And.intro ?_ ?_)); done) | grind | trace_state
  · have hN : dTextN n = n.toNat := by unfold dTextN; rw [if_neg h5]
    repeat' ((conv => whnf); first | refine toOb2 ?_ | (refine fun y hy => ?_; (try simp only [Ctr.reads, h5, etas] at hy); subst hy) | refine And.intro (fun _ => ?_) (fun _ => ?_) | refine And.intro (toOb2 ?_) ?_ | refine And.intro (?_ : drawOk _ _ _ = true) ?_ | (refine And.intro ⟨?_, ?_⟩ ?_; fail) | intro _)
    all_goals try (exfalso; simp only [decide_eq_true_eq, decide_eq_false_iff_not] at *; omega)
    conv => whnf
    refine And.intro ⟨((0, c, []) : Nat × DCur × List Int), Ob.mk ?_, ?_⟩ (fun (z : Nat × DCur × List Int) hi => ?_)
    · exact And.intro (Nat.zero_le _) (And.intro hp (And.intro rfl (And.intro (fun x hx => by cases hx) (And.intro rfl rfl))))
    · conv => whnf
      rw [hty]
      conv => whnf
      refine Ob.mk ?_
      all_goals (try simp only [allP, side, Ctr.reads, etas]); all_goals repeat' (first | with_reducible exact rfl | exact trivial | with_reducible assumption | refine And.intro ?_ ?_ | exact rSV | exact rSC | (show drawOk _ _ _ = true; exact rfl) | exact r00)
      all_goals first | done | rfl | exact trivial
    obtain ⟨i, u, l⟩ := z
    obtain ⟨hi, hu, hcb, hby, hl, hm⟩ := hi
    have hi : i ≤ dTextN n := hi
    have hu : u.B := hu
    have hcb : u.b = c.b := hcb
    have hby : ∀ x ∈ l, 0 ≤ x ∧ x ≤ 255 := hby
    have hl : l.length = i := hl
    have hm : dBytes (dTextN n - i) u l = dBytes (dTextN n) c [] := hm
    have hfold : (⟨c.b, u.i, u.h⟩ : DCur) = u := dCur_fold hcb
    obtain ⟨_, _, _⟩ := id hu
    have hu1 := mByteC_B hu
    rcases Nat.lt_or_ge i (dTextN n) with hlt | hge
    · obtain ⟨k, hk⟩ : ∃ k, dTextN n - i = k + 1 := ⟨dTextN n - i - 1, by omega⟩
      have hk2 : dTextN n - (i + 1) = k := by omega
      rw [hk, dBytes, ← hk2] at hm
      have hw := w64_succ (i := i) (m := 5000) (by omega) (by decide)
      have hub := u8_bd (mByte u)
      have hby2 : ∀ x ∈ l ++ [IntKind.u8.wrap (mByte u)], 0 ≤ x ∧ x ≤ 255 := fun x hx => by
        rcases List.mem_append.1 hx with hx | hx
        · exact hby x hx
        · rw [List.mem_singleton.1 hx]; exact hub
      repeat' ((conv => whnf); first | refine toOb2 ?_ | (refine fun y hy => ?_; (try simp only [Ctr.reads, hfold, dCur_eta, dCur_fold, mByteC_b, mBelowC_b, mPickIntC_b, mDPolC_b, mDAny1C_b, mDAnyC_b, dAddrC_b, dRoadC_b, dHalf5C_b, dHalfC_b, dTagC_b, dTextC_b, hcb, etas] at hy); subst hy) | refine And.intro (fun _ => ?_) (fun _ => ?_) | refine And.intro (toOb2 ?_) ?_ | refine And.intro (?_ : drawOk _ _ _ = true) ?_ | (refine And.intro ⟨?_, ?_⟩ ?_; fail) | intro _)
      all_goals try (exfalso; simp only [hfold, dCur_eta, dCur_fold, mByteC_b, mBelowC_b, mPickIntC_b, mDPolC_b, mDAny1C_b, mDAnyC_b, dAddrC_b, dRoadC_b, dHalf5C_b, dHalfC_b, dTagC_b, dTextC_b, hcb, decide_eq_true_eq, decide_eq_false_iff_not, gt_iff_lt] at *; omega)
      all_goals first | refine Ob2.mk ?_ | (show drawOk _ _ _ = true; exact rfl) | (refine toEx2 ?_; refine Ex2.of ((i + 1, mByteC u, l ++ [IntKind.u8.wrap (mByte u)]) : Nat × DCur × List Int) ?_ ?_; rotate_left 1; (conv => whnf); rw [hty]; (conv => whnf); refine Ob.mk ?_) | skip
      all_goals (try simp only [allP, side, Ctr.reads, hfold, dCur_eta, dCur_fold, mByteC_b, mBelowC_b, mPickIntC_b, mDPolC_b, mDAny1C_b, mDAnyC_b, dAddrC_b, dRoadC_b, dHalf5C_b, dHalfC_b, dTagC_b, dTextC_b, hcb, etas, ETy.frm, List.length_append, List.length_cons, List.length_nil])
      all_goals first | done | trivial | assumption | omega | ((repeat' (first | with_reducible exact rfl | exact trivial | with_reducible assumption | refine And.intro ?_ ?_)); all_goals first | done | omega | exact hw.symm | exact hm | exact hcb | (rw [hcb]; done) | exact hby2 | grind) | trace_state
    · have hz : dTextN n - i = 0 := by omega
      rw [hz, dBytes] at hm
      have hd1 : dText c n = l.map fun n => UInt8.ofNat n.toNat := by rw [dText, ← hm]
      have hd2 : dTextC c n = u := by rw [dTextC, ← hm]
      repeat' ((conv => whnf); first | refine toOb2 ?_ | (refine fun y hy => ?_; (try simp only [Ctr.reads, hfold, dCur_eta, dCur_fold, mByteC_b, mBelowC_b, mPickIntC_b, mDPolC_b, mDAny1C_b, mDAnyC_b, dAddrC_b, dRoadC_b, dHalf5C_b, dHalfC_b, dTagC_b, dTextC_b, hcb, etas] at hy); subst hy) | refine And.intro (fun _ => ?_) (fun _ => ?_) | refine And.intro (toOb2 ?_) ?_ | refine And.intro (?_ : drawOk _ _ _ = true) ?_ | (refine And.intro ⟨?_, ?_⟩ ?_; fail) | intro _)
      all_goals try (exfalso; simp only [hfold, dCur_eta, dCur_fold, mByteC_b, mBelowC_b, mPickIntC_b, mDPolC_b, mDAny1C_b, mDAnyC_b, dAddrC_b, dRoadC_b, dHalf5C_b, dHalfC_b, dTagC_b, dTextC_b, hcb, decide_eq_true_eq, decide_eq_false_iff_not, gt_iff_lt] at *; omega)
      all_goals first | refine Ob2.mk ?_ | (show drawOk _ _ _ = true; exact rfl) | skip
      all_goals (try simp only [allP, side, Ctr.reads, hfold, dCur_eta, dCur_fold, mByteC_b, mBelowC_b, mPickIntC_b, mDPolC_b, mDAny1C_b, mDAnyC_b, dAddrC_b, dRoadC_b, dHalf5C_b, dHalfC_b, dTagC_b, dTextC_b, hcb, hd1, hd2, etas])
      all_goals first | done | trivial | assumption | omega | ((repeat' (first | with_reducible exact rfl | exact trivial | with_reducible assumption | refine And.intro ?_ ?_)); done) | grind | trace_state
end Go.Proofs.YtnpeomhpbakgnaaGreat
