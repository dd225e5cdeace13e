/- Contracts of functions of the program, each shown over the text. -/
import Derived.Test.YtnpeomhpbakgnaaGreatHelp
set_option linter.unusedVariables false
set_option linter.unusedSimpArgs false
set_option maxRecDepth 100000
set_option maxHeartbeats 1000000
namespace Go.Proofs.YtnpeomhpbakgnaaGreat
open Go.Eng
theorem h_spec_SubAt : Ctr.holds E 30 (.reads [aEnd, aRoad] [aInt] (fun ((e : DEnd), _) => e.B) fun ((e : DEnd), (r : DRoad), _) => (mSubAt e r, ())) := by
  refine fn_ok prgOk gnil Tryz.func30 rfl rfl rfl rfl ?_
  rintro ty ⟨(e : DEnd), (r : DRoad), _⟩ (hp : e.B)
  obtain ⟨hb1, hb2, hb3, hb4, hb5, hb6, hb7⟩ := hp
  refine ⟨[(2, { X := Nat, inv := fun i => i ≤ e.subs.length ∧ findL (pSub r) (e.subs.drop i) i = mSubAt e r, mu := fun i => e.subs.length - i, vk := [5], ov := fun i => [.a (.c (.leaf (.int (i : Int))))], bk := [], ob := fun i => [], rk := [], orr := fun i => [] })], ?_⟩
  conv => whnf
  refine And.intro ⟨(0 : Nat), Ob.mk ?_, ?_⟩ (fun (i : Nat) hi => ?_)
  · exact And.intro (Nat.zero_le _) rfl
  · conv => whnf
    refine Ob.mk ?_
    all_goals (try simp only [allP, side, Ctr.reads, etas]); all_goals repeat' (first | exact sp1 | refine And.intro ?_ ?_)
  obtain ⟨hi, hm⟩ := hi
  have hi : i ≤ e.subs.length := hi
  have hm : findL (pSub r) (e.subs.drop i) i = mSubAt e r := hm
  rcases Nat.lt_or_ge i e.subs.length with hlt | hge
  · obtain ⟨x, hx, hxi, hd⟩ := at_step e.subs i (ETy.zero .sub) hlt
    rw [hd, findL] at hm
    have hw := w64_succ hlt (hb3)
    repeat' ((conv => whnf); first | refine toOb2 ?_ | refine And.intro (fun _ => ?_) (fun _ => ?_) | refine And.intro ?_ ?_ | refine toEx2 ?_ | intro _)
    all_goals try (exfalso; exact Nat.lt_irrefl _ (Nat.lt_of_lt_of_le hlt (ge_of_dec (by assumption))))
    all_goals first | refine Ob2.mk ?_ | refine Ex2.of (i + 1) ?_ ?_ | skip
    all_goals try ((conv => whnf); refine Ob.mk ?_)
    all_goals (try simp only [allP, side, Ctr.reads, etas]); all_goals repeat' (first | exact sp1 | refine And.intro ?_ ?_)
    all_goals (try simp only [hx, Ctr.reads, etas] at *)
    all_goals first | done | grind [mSubAt, pSub, dRoad_iff]
  · have hl : i = e.subs.length := by omega
    subst hl
    rw [List.drop_length, findL] at hm
    repeat' ((conv => whnf); first | refine toOb2 ?_ | refine And.intro (fun _ => ?_) (fun _ => ?_) | refine And.intro ?_ ?_ | refine toEx2 ?_ | intro _)
    all_goals try (exfalso; exact Nat.lt_irrefl _ (Nat.lt_of_lt_of_le (lt_of_dec (by assumption)) hge))
    all_goals first | refine Ob2.mk ?_ | refine Ex2.of (e.subs.length + 1) ?_ ?_ | skip
    all_goals try ((conv => whnf); refine Ob.mk ?_)
    all_goals (try simp only [allP, side, Ctr.reads, etas]); all_goals repeat' (first | exact sp1 | refine And.intro ?_ ?_)
    all_goals (try simp only [Ctr.reads, etas] at *)
    all_goals first | done | grind [mSubAt, pSub, dRoad_iff]
theorem h_spec_Between : Ctr.holds E 178 (.reads [aRoad, aLetter] [aLetter] (fun _ => True) fun ((r : DRoad), (x : DLetter), _) => (mBetween r x, ())) := by
  refine fn_ok prgOk gnil Tryz.func178 rfl rfl rfl rfl ?_
  rintro ty ⟨(r : DRoad), (x : DLetter), _⟩ hp
  refine ⟨[], ?_⟩
  repeat' ((conv => whnf); first | refine toOb2 ?_ | refine And.intro (fun _ => ?_) (fun _ => ?_) | refine And.intro ?_ ?_ | refine toEx2 ?_ | intro _)
  all_goals first | exact Ob2.mk trivial | exact Ob2.mk rfl
theorem h_spec_OwnsAddr : Ctr.holds E 48 (.reads [aEnd, aInt] [aBool] (fun ((e : DEnd), _) => e.B) fun ((e : DEnd), (a : Int), _) => (mOwns e a, ())) := by
  refine fn_ok prgOk gnil Tryz.func48 rfl rfl rfl rfl ?_
  rintro ty ⟨(e : DEnd), (b : Int), _⟩ (hp : e.B)
  obtain ⟨hb1, hb2, hb3, hb4, hb5, hb6, hb7⟩ := hp
  refine ⟨[(2, { X := Nat, inv := fun i => i ≤ e.own.length ∧ anyL (fun a : DAddr => a.addr == b) (e.own.drop i) = mOwns e b, mu := fun i => e.own.length - i, vk := [5], ov := fun i => [.a (.c (.leaf (.int (i : Int))))], bk := [], ob := fun i => [], rk := [], orr := fun i => [] })], ?_⟩
  conv => whnf
  refine And.intro ⟨(0 : Nat), Ob.mk ?_, ?_⟩ (fun (i : Nat) hi => ?_)
  · exact And.intro (Nat.zero_le _) rfl
  · conv => whnf
    refine Ob.mk ?_
    all_goals (try simp only [allP, side, Ctr.reads, etas]); all_goals repeat' (first | exact sp1 | refine And.intro ?_ ?_)
  obtain ⟨hi, hm⟩ := hi
  have hi : i ≤ e.own.length := hi
  have hm : anyL (fun a : DAddr => a.addr == b) (e.own.drop i) = mOwns e b := hm
  rcases Nat.lt_or_ge i e.own.length with hlt | hge
  · obtain ⟨x, hx, hxi, hd⟩ := at_step e.own i (ETy.zero .addr) hlt
    rw [hd, anyL] at hm
    have hw := w64_succ hlt (hb1)
    repeat' ((conv => whnf); first | refine toOb2 ?_ | refine And.intro (fun _ => ?_) (fun _ => ?_) | refine And.intro ?_ ?_ | refine toEx2 ?_ | intro _)
    all_goals try (exfalso; exact Nat.lt_irrefl _ (Nat.lt_of_lt_of_le hlt (ge_of_dec (by assumption))))
    all_goals first | refine Ob2.mk ?_ | refine Ex2.of (i + 1) ?_ ?_ | skip
    all_goals try ((conv => whnf); refine Ob.mk ?_)
    all_goals (try simp only [allP, side, Ctr.reads, etas]); all_goals repeat' (first | exact sp1 | refine And.intro ?_ ?_)
    all_goals (try simp only [hx, Ctr.reads, etas] at *)
    all_goals first | done | grind [mOwns]
  · have hl : i = e.own.length := by omega
    subst hl
    rw [List.drop_length, anyL] at hm
    repeat' ((conv => whnf); first | refine toOb2 ?_ | refine And.intro (fun _ => ?_) (fun _ => ?_) | refine And.intro ?_ ?_ | refine toEx2 ?_ | intro _)
    all_goals try (exfalso; exact Nat.lt_irrefl _ (Nat.lt_of_lt_of_le (lt_of_dec (by assumption)) hge))
    all_goals first | refine Ob2.mk ?_ | refine Ex2.of (e.own.length + 1) ?_ ?_ | skip
    all_goals try ((conv => whnf); refine Ob.mk ?_)
    all_goals (try simp only [allP, side, Ctr.reads, etas]); all_goals repeat' (first | exact sp1 | refine And.intro ?_ ?_)
    all_goals (try simp only [Ctr.reads, etas] at *)
    all_goals first | done | grind [mOwns]
theorem h_spec_RoadOf : Ctr.holds E 189 (.reads [aLetter] [aRoad] (fun _ => True) fun ((x : DLetter), _) => (mRoadOf x, ())) := by
  refine fn_ok prgOk gnil Tryz.func189 rfl rfl rfl rfl ?_
  rintro ty ⟨(x : DLetter), _⟩ hp
  refine ⟨[], ?_⟩
  repeat' ((conv => whnf); first | refine toOb2 ?_ | refine And.intro (fun _ => ?_) (fun _ => ?_) | refine And.intro ?_ ?_ | refine toEx2 ?_ | intro _)
  all_goals first | exact Ob2.mk trivial | exact Ob2.mk rfl
theorem h_spec_OnOf : Ctr.holds E 18 (.reads [aEnd] [aRow .int] (fun ((e : DEnd), _) => e.B) fun ((e : DEnd), _) => (mOnOf e, ())) := by
  refine fn_ok prgOk gnil Tryz.func18 rfl rfl rfl rfl ?_
  rintro ty ⟨(e : DEnd), _⟩ (hp : e.B)
  obtain ⟨hb1, hb2, hb3, hb4, hb5, hb6, hb7⟩ := hp
  refine ⟨[(3, { X := Nat × List Int, inv := fun x => x.1 ≤ e.subs.length ∧ x.2 ++ colL fOn (e.subs.drop x.1) x.1 = mOnOf e ∧ x.2.length ≤ x.1, mu := fun x => e.subs.length - x.1, vk := [4, 3, 5], ov := fun x => [.a (.c (.leaf (.int (x.1 : Int)))), .a (.c (.row 320)), .any], bk := [], ob := fun x => [], rk := [320], orr := fun x => [⟨.int, x.2, true, none⟩] })], ?_⟩
  conv => whnf
  refine And.intro ⟨((0, []) : Nat × List Int), Ob.mk ?_, ?_⟩ (fun (x : Nat × List Int) hi => ?_)
  · exact And.intro (Nat.zero_le _) (And.intro rfl (Nat.le_refl _))
  · conv => whnf
    refine Ob.mk ?_
    all_goals (try simp only [allP, side, Ctr.reads, etas]); all_goals repeat' (first | exact sp1 | refine And.intro ?_ ?_)
  obtain ⟨i, acc⟩ := x
  obtain ⟨hi, hm⟩ := hi
  have hi : i ≤ e.subs.length := hi
  have hm : acc ++ colL fOn (e.subs.drop i) i = mOnOf e ∧ acc.length ≤ i := hm
  rcases Nat.lt_or_ge i e.subs.length with hlt | hge
  · obtain ⟨x, hx, hxi, hd⟩ := at_step e.subs i (ETy.zero .sub) hlt
    rw [hd, colL] at hm
    have hw := w64_succ hlt (hb3)
    repeat' ((conv => whnf); first | refine toOb2 ?_ | refine And.intro (fun _ => ?_) (fun _ => ?_) | refine And.intro ?_ ?_ | refine toEx2 ?_ | intro _)
    all_goals try (exfalso; exact Nat.lt_irrefl _ (Nat.lt_of_lt_of_le hlt (ge_of_dec (by assumption))))
    all_goals first | refine Ob2.mk ?_ | refine Ex2.of ((i + 1, if x.state = 3 then acc ++ [(i : Int)] else acc)) ?_ ?_ | skip
    all_goals try ((conv => whnf); refine Ob.mk ?_)
    all_goals (try simp only [allP, side, Ctr.reads, etas]); all_goals repeat' (first | exact sp1 | refine And.intro ?_ ?_)
    all_goals (try simp only [hx, Ctr.reads, etas] at *)
    all_goals first | done | grind [fOn, mOnOf]
  · have hl : i = e.subs.length := by omega
    subst hl
    rw [List.drop_length, colL] at hm
    repeat' ((conv => whnf); first | refine toOb2 ?_ | refine And.intro (fun _ => ?_) (fun _ => ?_) | refine And.intro ?_ ?_ | refine toEx2 ?_ | intro _)
    all_goals try (exfalso; exact Nat.lt_irrefl _ (Nat.lt_of_lt_of_le (lt_of_dec (by assumption)) hge))
    all_goals first | refine Ob2.mk ?_ | refine Ex2.of ((e.subs.length, acc)) ?_ ?_ | skip
    all_goals try ((conv => whnf); refine Ob.mk ?_)
    all_goals (try simp only [allP, side, Ctr.reads, etas]); all_goals repeat' (first | exact sp1 | refine And.intro ?_ ?_)
    all_goals (try simp only [Ctr.reads, etas] at *)
    all_goals first | done | grind [fOn, mOnOf]
theorem h_spec_HaveOf : Ctr.holds E 131 (.reads [aEnd] [aRow .road] (fun ((e : DEnd), _) => e.B) fun ((e : DEnd), _) => (mHaveOf e, ())) := by
  refine fn_ok prgOk gnil Tryz.func131 rfl rfl rfl rfl ?_
  rintro ty ⟨(e : DEnd), _⟩ (hp : e.B)
  obtain ⟨hb1, hb2, hb3, hb4, hb5, hb6, hb7⟩ := hp
  refine ⟨[(3, { X := Nat × List DRoad, inv := fun x => x.1 ≤ e.subs.length ∧ x.2 ++ colL fHave (e.subs.drop x.1) x.1 = mHaveOf e ∧ x.2.length ≤ x.1, mu := fun x => e.subs.length - x.1, vk := [4, 3, 5], ov := fun x => [.a (.c (.leaf (.int (x.1 : Int)))), .a (.c (.row 320)), .any], bk := [], ob := fun x => [], rk := [320], orr := fun x => [⟨.road, x.2, true, none⟩] })], ?_⟩
  conv => whnf
  refine And.intro ⟨((0, []) : Nat × List DRoad), Ob.mk ?_, ?_⟩ (fun (x : Nat × List DRoad) hi => ?_)
  · exact And.intro (Nat.zero_le _) (And.intro rfl (Nat.le_refl _))
  · conv => whnf
    refine Ob.mk ?_
    all_goals (try simp only [allP, side, Ctr.reads, etas]); all_goals repeat' (first | exact sp1 | refine And.intro ?_ ?_)
  obtain ⟨i, acc⟩ := x
  obtain ⟨hi, hm⟩ := hi
  have hi : i ≤ e.subs.length := hi
  have hm : acc ++ colL fHave (e.subs.drop i) i = mHaveOf e ∧ acc.length ≤ i := hm
  rcases Nat.lt_or_ge i e.subs.length with hlt | hge
  · obtain ⟨x, hx, hxi, hd⟩ := at_step e.subs i (ETy.zero .sub) hlt
    rw [hd, colL] at hm
    have hw := w64_succ hlt (hb3)
    repeat' ((conv => whnf); first | refine toOb2 ?_ | refine And.intro (fun _ => ?_) (fun _ => ?_) | refine And.intro ?_ ?_ | refine toEx2 ?_ | intro _)
    all_goals try (exfalso; exact Nat.lt_irrefl _ (Nat.lt_of_lt_of_le hlt (ge_of_dec (by assumption))))
    all_goals first | refine Ob2.mk ?_ | refine Ex2.of ((i + 1, if x.state ≠ 4 then acc ++ [x.road] else acc)) ?_ ?_ | skip
    all_goals try ((conv => whnf); refine Ob.mk ?_)
    all_goals (try simp only [allP, side, Ctr.reads, etas]); all_goals repeat' (first | exact sp1 | refine And.intro ?_ ?_)
    all_goals (try simp only [hx, Ctr.reads, etas] at *)
    all_goals first | done | grind [fHave, mHaveOf]
  · have hl : i = e.subs.length := by omega
    subst hl
    rw [List.drop_length, colL] at hm
    repeat' ((conv => whnf); first | refine toOb2 ?_ | refine And.intro (fun _ => ?_) (fun _ => ?_) | refine And.intro ?_ ?_ | refine toEx2 ?_ | intro _)
    all_goals try (exfalso; exact Nat.lt_irrefl _ (Nat.lt_of_lt_of_le (lt_of_dec (by assumption)) hge))
    all_goals first | refine Ob2.mk ?_ | refine Ex2.of ((e.subs.length, acc)) ?_ ?_ | skip
    all_goals try ((conv => whnf); refine Ob.mk ?_)
    all_goals (try simp only [allP, side, Ctr.reads, etas]); all_goals repeat' (first | exact sp1 | refine And.intro ?_ ?_)
    all_goals (try simp only [Ctr.reads, etas] at *)
    all_goals first | done | grind [fHave, mHaveOf]
theorem h_spec_SignedOn : Ctr.holds E 225 (.reads [aEnd, aLetter] [aInt] (fun ((e : DEnd), _) => e.B) fun ((e : DEnd), (x : DLetter), _) => (mSignedOn e x, ())) := by
  refine fn_ok prgOk (gcons h_spec_RoadOf (gcons h_spec_SubAt gnil)) Tryz.func225 rfl rfl rfl rfl ?_
  rintro ty ⟨(e : DEnd), (x : DLetter), _⟩ (hp : e.B)
  have hbd := mSubAt_bd e (mRoadOf x)
  refine ⟨[], ?_⟩
  repeat' ((conv => whnf); first | refine toOb2 ?_ | refine And.intro (fun _ => ?_) (fun _ => ?_) | refine And.intro ?_ ?_ | refine toEx2 ?_ | refine toY ?_ | intro _)
  all_goals first | refine Ob2.mk ?_ | skip
  all_goals (try simp only [allP, side, Ctr.reads, etas]); all_goals repeat' (first | exact sp1 | refine And.intro ?_ ?_)
  all_goals (try simp only [Ctr.reads, etas] at *)
  all_goals first | done | exact hp | grind [mSignedOn]
theorem h_impl_SubAt : Ctr.holds E 32 (.reads [aEnd, aRoad] [aInt] (fun ((e : DEnd), _) => e.B) fun ((e : DEnd), (r : DRoad), _) => (mSubAt e r, ())) := by
  refine fn_ok prgOk gnil Tryz.func32 rfl rfl rfl rfl ?_
  rintro ty ⟨(e : DEnd), (r : DRoad), _⟩ (hp : e.B)
  obtain ⟨hb1, hb2, hb3, hb4, hb5, hb6, hb7⟩ := hp
  refine ⟨[(2, { X := Nat, inv := fun i => i ≤ e.subs.length ∧ findL (pSub r) (e.subs.drop i) i = mSubAt e r, mu := fun i => e.subs.length - i, vk := [10], ov := fun i => [.a (.c (.leaf (.int (i : Int))))], bk := [], ob := fun i => [], rk := [], orr := fun i => [] })], ?_⟩
  conv => whnf
  refine And.intro ⟨(0 : Nat), Ob.mk ?_, ?_⟩ (fun (i : Nat) hi => ?_)
  · exact And.intro (Nat.zero_le _) rfl
  · conv => whnf
    refine Ob.mk ?_
    all_goals (try simp only [allP, side, Ctr.reads, etas]); all_goals repeat' (first | exact sp1 | refine And.intro ?_ ?_)
  obtain ⟨hi, hm⟩ := hi
  have hi : i ≤ e.subs.length := hi
  have hm : findL (pSub r) (e.subs.drop i) i = mSubAt e r := hm
  rcases Nat.lt_or_ge i e.subs.length with hlt | hge
  · obtain ⟨x, hx, hxi, hd⟩ := at_step e.subs i (ETy.zero .sub) hlt
    rw [hd, findL] at hm
    have hw := w64_succ hlt (hb3)
    repeat' ((conv => whnf); first | refine toOb2 ?_ | refine And.intro (fun _ => ?_) (fun _ => ?_) | refine And.intro ?_ ?_ | refine toEx2 ?_ | intro _)
    all_goals try (exfalso; exact Nat.lt_irrefl _ (Nat.lt_of_lt_of_le hlt (ge_of_dec (by assumption))))
    all_goals first | refine Ob2.mk ?_ | refine Ex2.of (i + 1) ?_ ?_ | skip
    all_goals try ((conv => whnf); refine Ob.mk ?_)
    all_goals (try simp only [allP, side, Ctr.reads, etas]); all_goals repeat' (first | exact sp1 | refine And.intro ?_ ?_)
    all_goals (try simp only [hx, Ctr.reads, etas] at *)
    all_goals first | done | grind [mSubAt, pSub, dRoad_iff]
  · have hl : i = e.subs.length := by omega
    subst hl
    rw [List.drop_length, findL] at hm
    repeat' ((conv => whnf); first | refine toOb2 ?_ | refine And.intro (fun _ => ?_) (fun _ => ?_) | refine And.intro ?_ ?_ | refine toEx2 ?_ | intro _)
    all_goals try (exfalso; exact Nat.lt_irrefl _ (Nat.lt_of_lt_of_le (lt_of_dec (by assumption)) hge))
    all_goals first | refine Ob2.mk ?_ | refine Ex2.of (e.subs.length + 1) ?_ ?_ | skip
    all_goals try ((conv => whnf); refine Ob.mk ?_)
    all_goals (try simp only [allP, side, Ctr.reads, etas]); all_goals repeat' (first | exact sp1 | refine And.intro ?_ ?_)
    all_goals (try simp only [Ctr.reads, etas] at *)
    all_goals first | done | grind [mSubAt, pSub, dRoad_iff]
theorem h_impl_OwnsAddr : Ctr.holds E 99 (.reads [aEnd, aInt] [aBool] (fun ((e : DEnd), _) => e.B) fun ((e : DEnd), (a : Int), _) => (mOwns e a, ())) := by
  refine fn_ok prgOk gnil Tryz.func99 rfl rfl rfl rfl ?_
  rintro ty ⟨(e : DEnd), (b : Int), _⟩ (hp : e.B)
  obtain ⟨hb1, hb2, hb3, hb4, hb5, hb6, hb7⟩ := hp
  refine ⟨[(2, { X := Nat, inv := fun i => i ≤ e.own.length ∧ anyL (fun a : DAddr => a.addr == b) (e.own.drop i) = mOwns e b, mu := fun i => e.own.length - i, vk := [10], ov := fun i => [.a (.c (.leaf (.int (i : Int))))], bk := [], ob := fun i => [], rk := [], orr := fun i => [] })], ?_⟩
  conv => whnf
  refine And.intro ⟨(0 : Nat), Ob.mk ?_, ?_⟩ (fun (i : Nat) hi => ?_)
  · exact And.intro (Nat.zero_le _) rfl
  · conv => whnf
    refine Ob.mk ?_
    all_goals (try simp only [allP, side, Ctr.reads, etas]); all_goals repeat' (first | exact sp1 | refine And.intro ?_ ?_)
  obtain ⟨hi, hm⟩ := hi
  have hi : i ≤ e.own.length := hi
  have hm : anyL (fun a : DAddr => a.addr == b) (e.own.drop i) = mOwns e b := hm
  rcases Nat.lt_or_ge i e.own.length with hlt | hge
  · obtain ⟨x, hx, hxi, hd⟩ := at_step e.own i (ETy.zero .addr) hlt
    rw [hd, anyL] at hm
    have hw := w64_succ hlt (hb1)
    repeat' ((conv => whnf); first | refine toOb2 ?_ | refine And.intro (fun _ => ?_) (fun _ => ?_) | refine And.intro ?_ ?_ | refine toEx2 ?_ | intro _)
    all_goals try (exfalso; exact Nat.lt_irrefl _ (Nat.lt_of_lt_of_le hlt (ge_of_dec (by assumption))))
    all_goals first | refine Ob2.mk ?_ | refine Ex2.of (i + 1) ?_ ?_ | skip
    all_goals try ((conv => whnf); refine Ob.mk ?_)
    all_goals (try simp only [allP, side, Ctr.reads, etas]); all_goals repeat' (first | exact sp1 | refine And.intro ?_ ?_)
    all_goals (try simp only [hx, Ctr.reads, etas] at *)
    all_goals first | done | grind [mOwns]
  · have hl : i = e.own.length := by omega
    subst hl
    rw [List.drop_length, anyL] at hm
    repeat' ((conv => whnf); first | refine toOb2 ?_ | refine And.intro (fun _ => ?_) (fun _ => ?_) | refine And.intro ?_ ?_ | refine toEx2 ?_ | intro _)
    all_goals try (exfalso; exact Nat.lt_irrefl _ (Nat.lt_of_lt_of_le (lt_of_dec (by assumption)) hge))
    all_goals first | refine Ob2.mk ?_ | refine Ex2.of (e.own.length + 1) ?_ ?_ | skip
    all_goals try ((conv => whnf); refine Ob.mk ?_)
    all_goals (try simp only [allP, side, Ctr.reads, etas]); all_goals repeat' (first | exact sp1 | refine And.intro ?_ ?_)
    all_goals (try simp only [Ctr.reads, etas] at *)
    all_goals first | done | grind [mOwns]
theorem h_impl_RoadOf : Ctr.holds E 124 (.reads [aLetter] [aRoad] (fun _ => True) fun ((x : DLetter), _) => (mRoadOf x, ())) := by
  refine fn_ok prgOk gnil Tryz.func124 rfl rfl rfl rfl ?_
  rintro ty ⟨(x : DLetter), _⟩ hp
  refine ⟨[], ?_⟩
  repeat' ((conv => whnf); first | refine toOb2 ?_ | refine And.intro (fun _ => ?_) (fun _ => ?_) | refine And.intro ?_ ?_ | refine toEx2 ?_ | intro _)
  all_goals first | exact Ob2.mk trivial | exact Ob2.mk rfl
theorem h_impl_Between : Ctr.holds E 118 (.reads [aRoad, aLetter] [aLetter] (fun _ => True) fun ((r : DRoad), (x : DLetter), _) => (mBetween r x, ())) := by
  refine fn_ok prgOk gnil Tryz.func118 rfl rfl rfl rfl ?_
  rintro ty ⟨(r : DRoad), (x : DLetter), _⟩ hp
  refine ⟨[], ?_⟩
  repeat' ((conv => whnf); first | refine toOb2 ?_ | refine And.intro (fun _ => ?_) (fun _ => ?_) | refine And.intro ?_ ?_ | refine toEx2 ?_ | intro _)
  all_goals first | exact Ob2.mk trivial | exact Ob2.mk rfl
theorem h_impl_SignedOn : Ctr.holds E 119 (.reads [aEnd, aLetter] [aInt] (fun ((e : DEnd), _) => e.B) fun ((e : DEnd), (x : DLetter), _) => (mSignedOn e x, ())) := by
  refine fn_ok prgOk (gcons h_impl_RoadOf (gcons h_impl_SubAt gnil)) Tryz.func119 rfl rfl rfl rfl ?_
  rintro ty ⟨(e : DEnd), (x : DLetter), _⟩ (hp : e.B)
  have hbd := mSubAt_bd e (mRoadOf x)
  refine ⟨[], ?_⟩
  repeat' ((conv => whnf); first | refine toOb2 ?_ | refine And.intro (fun _ => ?_) (fun _ => ?_) | refine And.intro ?_ ?_ | refine toEx2 ?_ | refine toY ?_ | intro _)
  all_goals first | refine Ob2.mk ?_ | skip
  all_goals (try simp only [allP, side, Ctr.reads, etas]); all_goals repeat' (first | exact sp1 | refine And.intro ?_ ?_)
  all_goals (try simp only [Ctr.reads, etas] at *)
  all_goals first | done | exact hp | grind [mSignedOn]
theorem h_impl_OnOf : Ctr.holds E 23 (.reads [aEnd] [aRow .int] (fun ((e : DEnd), _) => e.B) fun ((e : DEnd), _) => (mOnOf e, ())) := by
  refine fn_ok prgOk gnil Tryz.func23 rfl rfl rfl rfl ?_
  rintro ty ⟨(e : DEnd), _⟩ (hp : e.B)
  obtain ⟨hb1, hb2, hb3, hb4, hb5, hb6, hb7⟩ := hp
  refine ⟨[(3, { X := Nat × List Int, inv := fun x => x.1 ≤ e.subs.length ∧ x.2 ++ colL fOn (e.subs.drop x.1) x.1 = mOnOf e ∧ x.2.length ≤ x.1, mu := fun x => e.subs.length - x.1, vk := [9, 3], ov := fun x => [.a (.c (.leaf (.int (x.1 : Int)))), .a (.c (.row 192))], bk := [], ob := fun x => [], rk := [192], orr := fun x => [⟨.int, x.2, true, none⟩] })], ?_⟩
  conv => whnf
  refine And.intro ⟨((0, []) : Nat × List Int), Ob.mk ?_, ?_⟩ (fun (x : Nat × List Int) hi => ?_)
  · exact And.intro (Nat.zero_le _) (And.intro rfl (Nat.le_refl _))
  · conv => whnf
    refine Ob.mk ?_
    all_goals (try simp only [allP, side, Ctr.reads, etas]); all_goals repeat' (first | exact sp1 | refine And.intro ?_ ?_)
  obtain ⟨i, acc⟩ := x
  obtain ⟨hi, hm⟩ := hi
  have hi : i ≤ e.subs.length := hi
  have hm : acc ++ colL fOn (e.subs.drop i) i = mOnOf e ∧ acc.length ≤ i := hm
  rcases Nat.lt_or_ge i e.subs.length with hlt | hge
  · obtain ⟨x, hx, hxi, hd⟩ := at_step e.subs i (ETy.zero .sub) hlt
    rw [hd, colL] at hm
    have hw := w64_succ hlt (hb3)
    repeat' ((conv => whnf); first | refine toOb2 ?_ | refine And.intro (fun _ => ?_) (fun _ => ?_) | refine And.intro ?_ ?_ | refine toEx2 ?_ | intro _)
    all_goals try (exfalso; exact Nat.lt_irrefl _ (Nat.lt_of_lt_of_le hlt (ge_of_dec (by assumption))))
    all_goals first | refine Ob2.mk ?_ | refine Ex2.of ((i + 1, if x.state = 3 then acc ++ [(i : Int)] else acc)) ?_ ?_ | skip
    all_goals try ((conv => whnf); refine Ob.mk ?_)
    all_goals (try simp only [allP, side, Ctr.reads, etas]); all_goals repeat' (first | exact sp1 | refine And.intro ?_ ?_)
    all_goals (try simp only [hx, Ctr.reads, etas] at *)
    all_goals first | done | grind [fOn, mOnOf]
  · have hl : i = e.subs.length := by omega
    subst hl
    rw [List.drop_length, colL] at hm
    repeat' ((conv => whnf); first | refine toOb2 ?_ | refine And.intro (fun _ => ?_) (fun _ => ?_) | refine And.intro ?_ ?_ | refine toEx2 ?_ | intro _)
    all_goals try (exfalso; exact Nat.lt_irrefl _ (Nat.lt_of_lt_of_le (lt_of_dec (by assumption)) hge))
    all_goals first | refine Ob2.mk ?_ | refine Ex2.of ((e.subs.length, acc)) ?_ ?_ | skip
    all_goals try ((conv => whnf); refine Ob.mk ?_)
    all_goals (try simp only [allP, side, Ctr.reads, etas]); all_goals repeat' (first | exact sp1 | refine And.intro ?_ ?_)
    all_goals (try simp only [Ctr.reads, etas] at *)
    all_goals first | done | grind [fOn, mOnOf]
end Go.Proofs.YtnpeomhpbakgnaaGreat
