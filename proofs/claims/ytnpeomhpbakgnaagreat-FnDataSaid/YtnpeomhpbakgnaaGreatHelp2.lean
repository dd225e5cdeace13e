/- Contracts of functions of the program, each shown over the text. -/
import Derived.Test.YtnpeomhpbakgnaaGreatFun21
set_option linter.unusedVariables false
set_option linter.unusedSimpArgs false
set_option maxRecDepth 100000
namespace Go.Proofs.YtnpeomhpbakgnaaGreat
open Go.Eng
set_option maxHeartbeats 1000000 in
theorem h_laws_alike : Ctr.holds E 27 (.reads [aEnd, aEnd] [aBool] (fun ((a : DEnd), (b : DEnd), _) => a.B ∧ b.B) fun ((a : DEnd), (b : DEnd), _) => (mAlike a b, ())) := by
  refine fn_ok (Γ := [(18, .reads [aEnd] [aRow .int] (fun ((e : DEnd), _) => e.B) fun ((e : DEnd), _) => (mOnOf e, ())), (31, .reads [aRoad] [aRoad] (fun ((r : DRoad), _) => True) fun ((r : DRoad), _) => (mBack r, ())), (30, .reads [aEnd, aRoad] [aInt] (fun ((e : DEnd), _) => e.B) fun ((e : DEnd), (r : DRoad), _) => (mSubAt e r, ()))]) prgOk (gcons h_spec_OnOf (gcons h_spec_RoadBack (gcons h_spec_SubAt gnil))) Tryz.func27 rfl rfl rfl rfl ?_
  rintro ty ⟨(a : DEnd), (b : DEnd), _⟩ (hp : a.B ∧ b.B)
  obtain ⟨hpa, hpb⟩ := hp
  obtain ⟨hb1, hb2, hb3, hb4, hb5, hb6, hb7⟩ := id hpa
  obtain ⟨g1, g2, g3, g4, g5, g6, g7⟩ := id hpb
  have hlen : (mOnOf a).length ≤ 1073741824 := Nat.le_trans (colL_le _ _ _) hb3
  refine ⟨[(3, { X := Nat, inv := fun i => i ≤ (mOnOf a).length ∧ allL (pAlike a b) ((mOnOf a).drop i) = allL (pAlike a b) (mOnOf a), mu := fun i => (mOnOf a).length - i, vk := [6], ov := fun i => [.a (.c (.leaf (.int (i : Int))))], bk := [], ob := fun i => [], rk := [], orr := fun i => [] })], ?_⟩
  repeat' ((conv => whnf); first | refine toOb2 ?_ | refine toY ?_ | refine And.intro (fun _ => ?_) (fun _ => ?_) | refine And.intro (toOb2 ?_) ?_ | refine And.intro (?_ : drawOk _ _ _ = true) ?_ | (refine And.intro ⟨?_, ?_⟩ ?_; fail) | intro _)
  (all_goals first | (refine Ob2.mk ?_; (try simp only [allP, side, Ctr.reads, etas] at *); (try simp only [nbls, imp_self, implies_true, and_self, and_true, true_and] at *); first | done | trivial | assumption | omega | grind []) | (show drawOk _ _ _ = true; exact rfl) | skip)
  conv => whnf
  refine And.intro ⟨(0 : Nat), Ob.mk ?_, ?_⟩ (fun (i : Nat) hi => ?_)
  · exact And.intro (Nat.zero_le _) rfl
  · conv => whnf
    refine Ob.mk ?_
    all_goals (try simp only [allP, side, Ctr.reads, etas]); all_goals repeat' (first | with_reducible exact rfl | exact trivial | with_reducible assumption | refine And.intro ?_ ?_ | exact rSV | exact rSC | (show drawOk _ _ _ = true; exact rfl) | exact r00)
  obtain ⟨hi, hm⟩ := hi
  have hi : i ≤ (mOnOf a).length := hi
  have hm : allL (pAlike a b) ((mOnOf a).drop i) = allL (pAlike a b) (mOnOf a) := hm
  rcases Nat.lt_or_ge i (mOnOf a).length with hlt | hge
  · obtain ⟨x, hx, hxi, hd⟩ := at_step (mOnOf a) i (ETy.zero .int) hlt
    rw [hd, allL] at hm
    have hw := w64_succ hlt (hlen)
    have hmem := mOnOf_mem a x (List.mem_of_getElem? hxi)
    have hsb := mSubAt_bd b (mBack (gSub a x).road)
    have hgs : gSub a x = a.subs.getD x.toNat (ETy.zero .sub) := rfl
    repeat' ((conv => whnf); first | refine toOb2 ?_ | refine And.intro (fun _ => ?_) (fun _ => ?_) | refine And.intro ?_ ?_ | refine toEx2 ?_ | refine toY ?_ | intro _)
    all_goals try (exfalso; exact Nat.lt_irrefl _ (Nat.lt_of_lt_of_le hlt (ge_of_dec (by assumption))))
    all_goals first | refine Ob2.mk ?_ | refine Ex2.of (i + 1) ?_ ?_ | skip
    all_goals try ((conv => whnf); refine Ob.mk ?_)
    all_goals (try simp only [allP, side, Ctr.reads, etas]); all_goals repeat' (first | with_reducible exact rfl | exact trivial | with_reducible assumption | refine And.intro ?_ ?_ | exact rSV | exact rSC | (show drawOk _ _ _ = true; exact rfl) | exact r00)
    all_goals (try simp only [hx, Ctr.reads, etas] at *)
    all_goals (try simp only [← hgs] at *)
    all_goals (try simp only [nbls] at *)
    all_goals (try simp only [decide_eq_true_eq, decide_eq_false_iff_not] at *)
    all_goals first | done | grind [mAlike, pAlike, gSub, mBack]
  · have hl : i = (mOnOf a).length := by omega
    subst hl
    rw [List.drop_length, allL] at hm
    repeat' ((conv => whnf); first | refine toOb2 ?_ | refine And.intro (fun _ => ?_) (fun _ => ?_) | refine And.intro ?_ ?_ | refine toEx2 ?_ | refine toY ?_ | intro _)
    all_goals try (exfalso; exact Nat.lt_irrefl _ (Nat.lt_of_lt_of_le (lt_of_dec (by assumption)) hge))
    all_goals first | refine Ob2.mk ?_ | refine Ex2.of ((mOnOf a).length + 1) ?_ ?_ | skip
    all_goals try ((conv => whnf); refine Ob.mk ?_)
    all_goals (try simp only [allP, side, Ctr.reads, etas]); all_goals repeat' (first | with_reducible exact rfl | exact trivial | with_reducible assumption | refine And.intro ?_ ?_ | exact rSV | exact rSC | (show drawOk _ _ _ = true; exact rfl) | exact r00)
    all_goals (try simp only [Ctr.reads, etas] at *)
    all_goals (try simp only [nbls] at *)
    all_goals (try simp only [decide_eq_true_eq, decide_eq_false_iff_not] at *)
    all_goals first | done | grind [mAlike, pAlike, gSub, mBack]
end Go.Proofs.YtnpeomhpbakgnaaGreat
