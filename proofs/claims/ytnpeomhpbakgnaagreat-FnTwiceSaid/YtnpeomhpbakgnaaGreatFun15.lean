/- Contracts of functions of the program, each shown over the text. -/
import Derived.Test.YtnpeomhpbakgnaaGreatFun13
set_option linter.unusedVariables false
set_option linter.unusedSimpArgs false
set_option maxRecDepth 100000
set_option maxHeartbeats 1000000
namespace Go.Proofs.YtnpeomhpbakgnaaGreat
open Go.Eng
theorem h_spec_l01New : Ctr.holds E 69 (⟨[aRow .u8], [.ro], [aIH], (fun ((b : List Int), _) => b.length ≤ 1073741824), (fun ((b : List Int), _) => (mNew b, ())), fun x => x, false, .new 157⟩) := by
  refine fn_ok prgOk gnil Tryz.func69 rfl rfl rfl rfl ?_
  rintro ty ⟨(b : List Int), _⟩ (hp : b.length ≤ 1073741824)
  refine ⟨[(3, { X := Nat × Int, inv := fun z => z.1 ≤ b.length ∧ z.1 ≤ 4000 ∧ newL (b.drop z.1) (4000 - z.1) z.2 = (mNew b).h, mu := fun z => b.length - z.1, vk := [4, 3], ov := fun z => [.a (.c (.leaf (.int (z.1 : Int)))), .a (.c (.leaf (.int z.2)))], bk := [], ob := fun z => [], rk := [], orr := fun z => [] })], ?_⟩
  repeat' ((conv => whnf); first | refine toOb2 ?_ | refine toY ?_ | refine And.intro (fun _ => ?_) (fun _ => ?_) | refine And.intro (toOb2 ?_) ?_ | refine And.intro (?_ : drawOk _ _ _ = true) ?_ | (refine And.intro ⟨?_, ?_⟩ ?_; fail) | intro _)
  conv => whnf
  refine And.intro ⟨((0, w64 (94701 + (b.length : Int))) : Nat × Int), Ob.mk ?_, ?_⟩ (fun (z : Nat × Int) hi => ?_)
  · exact And.intro (Nat.zero_le _) (And.intro (Nat.zero_le _) rfl)
  · conv => whnf
    refine Ob.mk ?_
    all_goals (try simp only [allP, side, Ctr.reads, etas]); all_goals repeat' (first | exact sp1 | refine And.intro ?_ ?_)
    all_goals first | done | rfl | exact trivial
  obtain ⟨i, h⟩ := z
  obtain ⟨hi, hi4, hm⟩ := hi
  have hi : i ≤ b.length := hi
  have hi4 : i ≤ 4000 := hi4
  have hm : newL (b.drop i) (4000 - i) h = (mNew b).h := hm
  rcases Nat.lt_or_ge i b.length with hlt | hge
  · obtain ⟨x, hx, hxi, hd⟩ := at_step b i (ETy.zero .u8) hlt
    rcases Nat.lt_or_ge i 4000 with h4 | h4
    · obtain ⟨k, hk⟩ : ∃ k, 4000 - i = k + 1 := ⟨4000 - i - 1, by omega⟩
      have hk2 : 4000 - (i + 1) = k := by omega
      rw [hd, hk, newL, ← hk2] at hm
      have hw := w64_succ hlt hp
      clear hd hxi
      repeat' ((conv => whnf); first | refine toOb2 ?_ | refine And.intro (fun _ => ?_) (fun _ => ?_) | refine And.intro ?_ ?_ | refine toEx2 ?_ | intro _)
      all_goals try (exfalso; simp only [Bool.cond_false_right, Bool.and_eq_false_imp, decide_eq_true_eq, decide_eq_false_iff_not] at *; omega)
      all_goals first | refine Ob2.mk ?_ | refine Ex2.of ((i + 1, curH h x) : Nat × Int) ?_ ?_ | skip
      all_goals try ((conv => whnf); refine Ob.mk ?_)
      all_goals (try simp only [allP, side, Ctr.reads, etas]); all_goals repeat' (first | exact sp1 | refine And.intro ?_ ?_)
      all_goals (try simp only [hx, Ctr.reads, etas] at *)
      all_goals (try simp only [nbls] at *)
      all_goals (try simp only [decide_eq_true_eq, decide_eq_false_iff_not] at *)
      all_goals first | done | omega | (simp only [curH]; done) | (refine And.intro ?_ (And.intro ?_ ?_) <;> first | omega | exact hm) | exact id
    · have h5 : 4000 - i = 0 := by omega
      rw [hd, h5, newL] at hm
      subst hm
      repeat' ((conv => whnf); first | refine toOb2 ?_ | refine And.intro (fun _ => ?_) (fun _ => ?_) | refine And.intro ?_ ?_ | refine toEx2 ?_ | intro _)
      all_goals try (exfalso; simp only [Bool.cond_false_right, Bool.and_eq_true, decide_eq_true_eq, decide_eq_false_iff_not] at *; omega)
      all_goals first | refine Ob2.mk ?_ | skip
      all_goals (try simp only [allP, side, Ctr.reads, etas]); all_goals repeat' (first | exact sp1 | refine And.intro ?_ ?_)
      all_goals first | done | omega | exact id | rfl
  · have hl : b.drop i = [] := List.drop_eq_nil_iff.2 hge
    rw [hl, newL] at hm
    subst hm
    repeat' ((conv => whnf); first | refine toOb2 ?_ | refine And.intro (fun _ => ?_) (fun _ => ?_) | refine And.intro ?_ ?_ | refine toEx2 ?_ | intro _)
    all_goals try (exfalso; simp only [Bool.cond_false_right, Bool.and_eq_true, decide_eq_true_eq, decide_eq_false_iff_not] at *; omega)
    all_goals first | refine Ob2.mk ?_ | skip
    all_goals (try simp only [allP, side, Ctr.reads, etas]); all_goals repeat' (first | exact sp1 | refine And.intro ?_ ?_)
    all_goals first | done | omega | exact id | rfl
theorem h_spec_l01Byte : Ctr.holds E 213 (⟨[aCur], [.ref], [aInt], (fun ((c : DCur), _) => c.B), (fun ((c : DCur), _) => (mByte c, ())), (fun ((c : DCur), _) => (mByteC c, ())), false, .ret⟩) := by
  refine fn_okw prgOk gnil Tryz.func213 rfl rfl rfl (fun ⟨c, _⟩ _ => ⟨by simp [LenC, mByteC_b], trivial⟩) ?_
  rintro ty ⟨(c : DCur), _⟩ (hp : c.B)
  obtain ⟨h1, h2, h3⟩ := id hp
  refine ⟨[], ?_⟩
  repeat' ((conv => whnf); first | refine toOb2 ?_ | refine And.intro (fun _ => ?_) (fun _ => ?_) | refine And.intro ?_ ?_ | refine toEx2 ?_ | intro _)
  all_goals first | refine Ob2.mk ?_ | (show drawOk _ _ _ = true; exact rfl)
  all_goals (try simp only [allP, side, Ctr.reads, etas]); all_goals repeat' (first | exact sp1 | refine And.intro ?_ ?_)
  all_goals (try simp only [cfa, Ctr.reads, etas] at *)
  all_goals (try simp only [nbls] at *)
  all_goals first | done | with_reducible assumption | with_reducible rfl | omega | grind [mByte, mByteC, mByteX, mByteH]
theorem h_spec_l01Below : Ctr.holds E 157 (⟨[aCur, aInt], [.ref, .ro], [aInt], (fun ((c : DCur), (n : Int), _) => c.B), (fun ((c : DCur), (n : Int), _) => (mBelow c n, ())), (fun ((c : DCur), (n : Int), _) => (mBelowC c n, n, ())), false, .ret⟩) := by
  refine fn_okw prgOk (gcons h_spec_l01Byte gnil) Tryz.func157 rfl rfl rfl (fun ⟨c, n, _⟩ _ => ⟨by simp [LenC, mBelowC_b], trivial, trivial⟩) ?_
  rintro ty ⟨(c : DCur), (n : Int), _⟩ (hp : c.B)
  have hb1 := mByteC_B hp
  obtain ⟨_, _, _⟩ := id hb1
  have hb2 := mByteC_B hb1
  obtain ⟨_, _, _⟩ := id hb2
  have hb3 := mByteC_B hb2
  obtain ⟨_, _, _⟩ := id hb3
  refine ⟨[], ?_⟩
  repeat' ((conv => whnf); first | refine toOb2 ?_ | refine And.intro (fun _ => ?_) (fun _ => ?_) | refine And.intro ?_ ?_ | refine toEx2 ?_ | refine toY ?_ | intro _)
  all_goals first | refine Ob2.mk ?_ | (show drawOk _ _ _ = true; exact rfl)
  all_goals (try simp only [allP, side, Ctr.reads, etas]); all_goals repeat' (first | exact sp1 | refine And.intro ?_ ?_)
  all_goals (try simp only [cfa, Ctr.reads, etas] at *)
  all_goals (try simp only [nbls] at *)
  all_goals first | done | with_reducible assumption | with_reducible rfl | omega | grind [mBelow, mBelowC, mBelow4]
theorem h_spec_l12Policy : Ctr.holds E 203 (⟨[aCur], [.ref], [aPolicy], (fun ((c : DCur), _) => c.B), (fun ((c : DCur), _) => (mDPol c, ())), (fun ((c : DCur), _) => (mDPolC c, ())), false, .ret⟩) := by
  refine fn_okw prgOk (gcons h_spec_l01Below gnil) Tryz.func203 rfl rfl rfl (fun ⟨c, _⟩ _ => ⟨by simp [LenC, mDPolC_b], trivial⟩) ?_
  rintro ty ⟨(c : DCur), _⟩ (hp : c.B)
  have hb1 := mBelowC_B 3 hp
  obtain ⟨_, _, _⟩ := id hb1
  refine ⟨[], ?_⟩
  repeat' ((conv => whnf); first | refine toOb2 ?_ | refine And.intro (fun _ => ?_) (fun _ => ?_) | refine And.intro ?_ ?_ | refine toEx2 ?_ | refine toY ?_ | intro _)
  all_goals first | refine Ob2.mk ?_ | (show drawOk _ _ _ = true; exact rfl)
  all_goals (try simp only [allP, side, Ctr.reads, etas]); all_goals repeat' (first | exact sp1 | refine And.intro ?_ ?_)
  all_goals (try simp only [cfa, Ctr.reads, etas] at *)
  all_goals (try simp only [nbls] at *)
  all_goals first | done | with_reducible assumption | with_reducible rfl | omega | grind [mDPol, mDPolC]
theorem h_spec_l01Once : Ctr.holds E 127 (⟨[aCur, aInt], [.ref, .ro], [aBool], (fun ((c : DCur), (n : Int), _) => c.B), (fun ((c : DCur), (n : Int), _) => (mOnce c n, ())), (fun ((c : DCur), (n : Int), _) => (mBelowC c n, n, ())), false, .ret⟩) := by
  refine fn_okw prgOk (gcons h_spec_l01Below gnil) Tryz.func127 rfl rfl rfl (fun ⟨c, n, _⟩ _ => ⟨by simp [LenC, mBelowC_b], trivial, trivial⟩) ?_
  rintro ty ⟨(c : DCur), (n : Int), _⟩ (hp : c.B)
  refine ⟨[], ?_⟩
  repeat' ((conv => whnf); first | refine toOb2 ?_ | refine And.intro (fun _ => ?_) (fun _ => ?_) | refine And.intro ?_ ?_ | refine toEx2 ?_ | refine toY ?_ | intro _)
  all_goals first | refine Ob2.mk ?_ | (show drawOk _ _ _ = true; exact rfl)
  all_goals (try simp only [allP, side, Ctr.reads, etas]); all_goals repeat' (first | exact sp1 | refine And.intro ?_ ?_)
  all_goals (try simp only [cfa, Ctr.reads, etas] at *)
  all_goals (try simp only [nbls] at *)
  all_goals first | done | with_reducible assumption | with_reducible rfl | omega | grind [mOnce]
theorem h_spec_l01PickInt : Ctr.holds E 159 (⟨[aCur, aRow .int], [.ref, .ro], [aInt], (fun ((c : DCur), (l : List Int), _) => c.B ∧ 0 < l.length ∧ l.length ≤ 1073741824), (fun ((c : DCur), (l : List Int), _) => (mPickInt c l, ())), (fun ((c : DCur), (l : List Int), _) => (mPickIntC c l, l, ())), false, .ret⟩) := by
  refine fn_okw prgOk (gcons h_spec_l01Below gnil) Tryz.func159 rfl rfl rfl (fun ⟨c, n, _⟩ _ => ⟨by simp [LenC, mPickIntC, mBelowC_b], trivial, trivial⟩) ?_
  rintro ty ⟨(c : DCur), (l : List Int), _⟩ (hp : c.B ∧ 0 < l.length ∧ l.length ≤ 1073741824)
  obtain ⟨hp, hl, hl2⟩ := hp
  have hbd := mBelow_bd (c := c) (n := l.length) (by omega)
  refine ⟨[], ?_⟩
  repeat' ((conv => whnf); first | refine toOb2 ?_ | refine And.intro (fun _ => ?_) (fun _ => ?_) | refine And.intro ?_ ?_ | refine toEx2 ?_ | refine toY ?_ | intro _)
  all_goals first | refine Ob2.mk ?_ | (show drawOk _ _ _ = true; exact rfl)
  all_goals (try simp only [allP, side, Ctr.reads, etas]); all_goals repeat' (first | exact sp1 | refine And.intro ?_ ?_)
  all_goals (try simp only [cfa, Ctr.reads, etas] at *)
  all_goals (try simp only [nbls] at *)
  all_goals first | done | with_reducible assumption | with_reducible rfl | omega | grind [mPickInt, mPickIntC]
theorem h_spec_l11Addr : Ctr.holds E 216 (⟨[aCur], [.ref], [aAddr], (fun ((c : DCur), _) => c.B), (fun ((c : DCur), _) => (dAddr c, ())), (fun ((c : DCur), _) => (dAddrC c, ())), false, .ret⟩) := by
  refine fn_okw prgOk (gcons h_spec_l01Below (gcons h_spec_l01Once gnil)) Tryz.func216 rfl rfl rfl (fun ⟨c, _⟩ _ => ⟨by simp [LenC, dAddrC_b], trivial⟩) ?_
  rintro ty ⟨(c : DCur), _⟩ (hp : c.B)
  have hb0 := hp
  have hb1 := mBelowC_B 7 hb0
  obtain ⟨_, _, _⟩ := id hb1
  have hb2 := mBelowC_B 9 hb1
  obtain ⟨_, _, _⟩ := id hb2
  have hb3 := mBelowC_B 4 hb2
  obtain ⟨_, _, _⟩ := id hb3
  have hb4 := mBelowC_B 2 hb3
  obtain ⟨_, _, _⟩ := id hb4
  refine ⟨[], ?_⟩
  repeat' ((conv => whnf); first | refine toOb2 ?_ | refine And.intro (fun _ => ?_) (fun _ => ?_) | refine And.intro ?_ ?_ | refine toEx2 ?_ | refine toY ?_ | intro _)
  all_goals first | refine Ob2.mk ?_ | (show drawOk _ _ _ = true; exact rfl)
  all_goals (try simp only [allP, side, Ctr.reads, etas]); all_goals repeat' (first | exact sp1 | refine And.intro ?_ ?_)
  all_goals (try simp only [cfa, cfb, Ctr.reads, etas] at *)
  all_goals (try simp only [nbls] at *)
  all_goals first | done | with_reducible assumption | with_reducible rfl | omega | grind [dAddr, dAddrC, mOnce]
theorem h_spec_l12Road : Ctr.holds E 231 (⟨[aCur], [.ref], [aRoad], (fun ((c : DCur), _) => c.B), (fun ((c : DCur), _) => (dRoad c, ())), (fun ((c : DCur), _) => (dRoadC c, ())), false, .ret⟩) := by
  refine fn_okw prgOk (gcons h_spec_l01Below gnil) Tryz.func231 rfl rfl rfl (fun ⟨c, _⟩ _ => ⟨by simp [LenC, dRoadC_b], trivial⟩) ?_
  rintro ty ⟨(c : DCur), _⟩ (hp : c.B)
  have hb0 := hp
  have hb1 := mBelowC_B 3 hb0
  obtain ⟨_, _, _⟩ := id hb1
  have hb2 := mBelowC_B 3 hb1
  obtain ⟨_, _, _⟩ := id hb2
  have hb3 := mBelowC_B 3 hb2
  obtain ⟨_, _, _⟩ := id hb3
  refine ⟨[], ?_⟩
  repeat' ((conv => whnf); first | refine toOb2 ?_ | refine And.intro (fun _ => ?_) (fun _ => ?_) | refine And.intro ?_ ?_ | refine toEx2 ?_ | refine toY ?_ | intro _)
  all_goals first | refine Ob2.mk ?_ | (show drawOk _ _ _ = true; exact rfl)
  all_goals (try simp only [allP, side, Ctr.reads, etas]); all_goals repeat' (first | exact sp1 | refine And.intro ?_ ?_)
  all_goals (try simp only [cfa, cfb, Ctr.reads, etas] at *)
  all_goals (try simp only [nbls] at *)
  all_goals first | done | with_reducible assumption | with_reducible rfl | omega | grind [dRoad, dRoadC]
theorem h_spec_l14Half : Ctr.holds E 218 (⟨[aCur], [.ref], [aHalf], (fun ((c : DCur), _) => c.B), (fun ((c : DCur), _) => (dHalf c, ())), (fun ((c : DCur), _) => (dHalfC c, ())), false, .ret⟩) := by
  refine fn_okw prgOk (gcons h_spec_l12Road (gcons h_spec_l01Below gnil)) Tryz.func218 rfl rfl rfl (fun ⟨c, _⟩ _ => ⟨by simp [LenC, dHalfC_b], trivial⟩) ?_
  rintro ty ⟨(c : DCur), _⟩ (hp : c.B)
  have hb0 := dRoadC_B hp
  obtain ⟨_, _, _⟩ := id hb0
  have hb1 := mBelowC_B 9 hb0
  obtain ⟨_, _, _⟩ := id hb1
  have hb2 := mBelowC_B 9 hb1
  obtain ⟨_, _, _⟩ := id hb2
  have hb3 := mBelowC_B 9 hb2
  obtain ⟨_, _, _⟩ := id hb3
  have hb4 := mBelowC_B 9 hb3
  obtain ⟨_, _, _⟩ := id hb4
  have hb5 := mBelowC_B 9 hb4
  obtain ⟨_, _, _⟩ := id hb5
  refine ⟨[], ?_⟩
  repeat' ((conv => whnf); first | refine toOb2 ?_ | refine And.intro (fun _ => ?_) (fun _ => ?_) | refine And.intro ?_ ?_ | refine toEx2 ?_ | refine toY ?_ | intro _)
  all_goals first | refine Ob2.mk ?_ | (show drawOk _ _ _ = true; exact rfl)
  all_goals (try simp only [allP, side, Ctr.reads, etas]); all_goals repeat' (first | exact sp1 | refine And.intro ?_ ?_)
  all_goals (try simp only [cfa, cfb, Ctr.reads, etas] at *)
  all_goals (try simp only [nbls] at *)
  all_goals first | done | with_reducible assumption | with_reducible rfl | omega | grind [dHalf, dHalf5, dHalfC, dHalf5C]
theorem h_spec_l15Tag : Ctr.holds E 234 (⟨[aCur], [.ref], [aTag], (fun ((c : DCur), _) => c.B), (fun ((c : DCur), _) => (dTag c, ())), (fun ((c : DCur), _) => (dTagC c, ())), false, .ret⟩) := by
  refine fn_okw prgOk (gcons h_spec_l01Below gnil) Tryz.func234 rfl rfl rfl (fun ⟨c, _⟩ _ => ⟨by simp [LenC, dTagC_b], trivial⟩) ?_
  rintro ty ⟨(c : DCur), _⟩ (hp : c.B)
  have hb0 := hp
  have hb1 := mBelowC_B 4 hb0
  obtain ⟨_, _, _⟩ := id hb1
  have hb2 := mBelowC_B 3 hb1
  obtain ⟨_, _, _⟩ := id hb2
  have hb3 := mBelowC_B 3 hb2
  obtain ⟨_, _, _⟩ := id hb3
  have hb4 := mBelowC_B 4 hb3
  obtain ⟨_, _, _⟩ := id hb4
  have hb5 := mBelowC_B 4 hb4
  obtain ⟨_, _, _⟩ := id hb5
  refine ⟨[], ?_⟩
  repeat' ((conv => whnf); first | refine toOb2 ?_ | refine And.intro (fun _ => ?_) (fun _ => ?_) | refine And.intro ?_ ?_ | refine toEx2 ?_ | refine toY ?_ | intro _)
  all_goals first | refine Ob2.mk ?_ | (show drawOk _ _ _ = true; exact rfl)
  all_goals (try simp only [allP, side, Ctr.reads, etas]); all_goals repeat' (first | exact sp1 | refine And.intro ?_ ?_)
  all_goals (try simp only [cfa, cfb, Ctr.reads, etas] at *)
  all_goals (try simp only [nbls] at *)
  all_goals first | done | with_reducible assumption | with_reducible rfl | omega | grind [dTag, dTagC]
theorem h_spec_RoadBack : Ctr.holds E 31 (.reads [aRoad] [aRoad] (fun ((r : DRoad), _) => True) fun ((r : DRoad), _) => (mBack r, ())) := by
  refine fn_ok prgOk gnil Tryz.func31 rfl rfl rfl rfl ?_
  rintro ty ⟨(r : DRoad), _⟩ hp
  refine ⟨[], ?_⟩
  repeat' ((conv => whnf); first | refine toOb2 ?_ | refine And.intro (fun _ => ?_) (fun _ => ?_) | refine And.intro ?_ ?_ | refine toEx2 ?_ | intro _)
  all_goals first | refine Ob2.mk ?_ | (show drawOk _ _ _ = true; exact rfl)
  all_goals (try simp only [allP, side, Ctr.reads, etas]); all_goals repeat' (first | exact sp1 | refine And.intro ?_ ?_)
  all_goals (try simp only [Ctr.reads, etas] at *)
  all_goals (try simp only [nbls] at *)
  all_goals first | done | with_reducible assumption | with_reducible rfl | omega | grind [mBack]
end Go.Proofs.YtnpeomhpbakgnaaGreat
