/- Contracts of functions of the program, each shown over the text. -/
import Derived.Test.YtnpeomhpbakgnaaGreatFun25
set_option linter.unusedVariables false
set_option linter.unusedSimpArgs false
set_option maxRecDepth 100000
namespace Go.Proofs.YtnpeomhpbakgnaaGreat
open Go.Eng
set_option maxHeartbeats 1000000 in
theorem h_spec_DrawHearJoinDone : Ctr.holds E 64 (.reads [aRow .u8] [aEnd, aLetter] (fun ((b : List Int), _) => b.length ≤ 1073741824) fun ((b : List Int), _) => (hE b, hX 6 b, ())) := by
  refine fn_ok (Γ := [(97, .reads [aRow .u8, aInt] [aEnd, aLetter] (fun ((b : List Int), (k : Int), _) => b.length ≤ 1073741824) fun ((b : List Int), (k : Int), _) => (hE b, hX k b, ()))]) prgOk (gcons h_spec_l19Hears gnil) Tryz.func64 rfl rfl rfl rfl ?_
  rintro ty ⟨(b : List Int), _⟩ (hp : b.length ≤ 1073741824)
  refine ⟨[], ?_⟩
  repeat' ((conv => whnf); first | refine toOb2 ?_ | refine And.intro (fun _ => ?_) (fun _ => ?_) | refine And.intro ?_ ?_ | refine toEx2 ?_ | refine toY ?_ | intro _)
  all_goals first | refine Ob2.mk ?_ | (show drawOk _ _ _ = true; exact rfl)
  all_goals (try simp only [allP, side, Ctr.reads, etas]); all_goals repeat' (first | with_reducible exact rfl | exact trivial | with_reducible assumption | refine And.intro ?_ ?_ | exact rSV | exact rSC | (show drawOk _ _ _ = true; exact rfl) | exact r00)
  all_goals (try simp only [Ctr.reads, etas] at *)
  all_goals (try simp only [nbls] at *)
  all_goals first | done | with_reducible assumption | with_reducible rfl | omega | grind []
set_option maxHeartbeats 1000000 in
theorem h_spec_DrawPlaces : Ctr.holds E 65 (.reads [aRow .u8] [aRow .int] (fun ((b : List Int), _) => b.length ≤ 1073741824) fun ((b : List Int), _) => (mPlaces b, ())) := by
  refine fn_ok (Γ := [(69, ⟨[aRow .u8], [.ro], [aIH], (fun ((b : List Int), _) => b.length ≤ 1073741824), (fun ((b : List Int), _) => (mNew b, ())), fun x => x, false, .new 157⟩), (157, ⟨[aCur, aInt], [.ref, .ro], [aInt], (fun ((c : DCur), (n : Int), _) => c.B), (fun ((c : DCur), (n : Int), _) => (mBelow c n, ())), (fun ((c : DCur), (n : Int), _) => (mBelowC c n, n, ())), false, .ret⟩)]) prgOk (gcons h_spec_l01New (gcons h_spec_l01Below gnil)) Tryz.func65 rfl rfl rfl rfl ?_
  rintro ty ⟨(b : List Int), _⟩ (hp : b.length ≤ 1073741824)
  have hb1 := mCur_B hp
  obtain ⟨_, _, _⟩ := id hb1
  have hn0 : (mNew b).i = 0 := rfl
  refine ⟨[(4, { X := Nat × DCur × List Int, inv := fun z => z.1 ≤ 12 ∧ z.2.1.B ∧ z.2.1.b = b ∧ z.2.2.length = z.1 ∧ (placesL (12 - z.1) z.2.1 z.2.2).1 = mPlaces b, mu := fun z => 12 - z.1, vk := [5, 4, 8], ov := fun z => [.a (.c (.leaf (.int (z.1 : Int)))), .a (.c (.row 512)), .any], bk := [7], ob := fun z => [[.row 0, .leaf (.int z.2.1.i), .leaf (.int z.2.1.h)]], rk := [512], orr := fun z => [⟨.int, z.2.2, true, none⟩] })], ?_⟩
  repeat' ((conv => whnf); first | refine toOb2 ?_ | (refine fun y hy => ?_; (try simp only [Ctr.reads, Ctr.parts, cfa, cfb, cfc, cfd, spps, reduceCtorEq, ETy.frm, if_true, if_false, implies_true, nbls, etas] at hy); subst hy) | (refine And.intro (fun h => ?_) (fun h => ?_) <;> (try simp only [cfa, cfb, cfc, cfd, spps, reduceCtorEq, ETy.frm, if_true, if_false, implies_true, nbls, etas] at h)) | refine And.intro (toOb2 ?_) ?_ | refine And.intro (?_ : drawOk _ _ _ = true) ?_ | (refine And.intro ⟨?_, ?_⟩ ?_; fail) | intro _)
  all_goals try (exfalso; omega)
  all_goals first | (refine Ob2.mk ?_; (try simp only [allP, side, Ctr.reads, cfa, cfb, cfc, cfd, etas]); first | done | trivial | with_reducible assumption | ((repeat' (first | exact id | exact trivial | with_reducible rfl | with_reducible assumption | exact fun _ => id | refine And.intro ?_ ?_)); all_goals first | done | omega | (refine fun _ => ?_; first | with_reducible assumption | omega) | trace_state) | trace_state) | (show drawOk _ _ _ = true; exact rfl) | skip
  conv => whnf
  refine And.intro ⟨((0, mCur b, []) : Nat × DCur × List Int), Ob.mk ?_, ?_⟩ (fun (z : Nat × DCur × List Int) hi => ?_)
  · exact And.intro (Nat.zero_le _) (And.intro hb1 (And.intro rfl (And.intro rfl rfl)))
  · conv => whnf
    refine Ob.mk ?_
    all_goals (try simp only [allP, side, Ctr.reads, etas]); all_goals repeat' (first | with_reducible exact rfl | exact trivial | with_reducible assumption | refine And.intro ?_ ?_ | exact rSV | exact rSC | (show drawOk _ _ _ = true; exact rfl) | exact r00)
    all_goals first | done | rfl | exact trivial | trace_state
  obtain ⟨i, u, l⟩ := z
  obtain ⟨hi, hu, hub, hl, hm⟩ := hi
  have hi : i ≤ 12 := hi
  have hu : u.B := hu
  have hub : u.b = b := hub
  have hl : l.length = i := hl
  have hm : (placesL (12 - i) u l).1 = mPlaces b := hm
  have hfu : (⟨b, u.i, u.h⟩ : DCur) = u := dCur_fold hub
  obtain ⟨_, _, _⟩ := id hu
  have hu2 := mBelowC_B 10000 hu
  obtain ⟨_, _, _⟩ := id hu2
  rcases Nat.lt_or_ge i 12 with hlt | hge
  · obtain ⟨q, hq⟩ : ∃ q, 12 - i = q + 1 := ⟨12 - (i + 1), by omega⟩
    have hq2 : q = 12 - (i + 1) := by omega
    rw [hq, placesL, hq2] at hm
    have hw := w64_succ (m := 12) hlt (by decide)
    have hlti : ((i : Int) < 12) = True := by simp; omega
    repeat' ((conv => whnf); first | refine toOb2 ?_ | (refine fun y hy => ?_; (try simp only [Ctr.reads, Ctr.parts, hw, hlti, hl, List.length_cons, List.length_nil, hfu, hub, gt_iff_lt, cfa, cfb, cfc, cfd, spps, reduceCtorEq, ETy.frm, if_true, if_false, implies_true, nbls, etas] at hy); subst hy) | (refine And.intro (fun h => ?_) (fun h => ?_) <;> (try simp only [hw, hlti, hl, List.length_cons, List.length_nil, hfu, hub, gt_iff_lt, cfa, cfb, cfc, cfd, spps, reduceCtorEq, ETy.frm, if_true, if_false, implies_true, nbls, etas] at h)) | refine And.intro (toOb2 ?_) ?_ | refine And.intro (?_ : drawOk _ _ _ = true) ?_ | (refine And.intro ⟨?_, ?_⟩ ?_; fail) | intro _)
    all_goals try (exfalso; omega)
    all_goals first | (refine Ob2.mk ?_; (try simp only [allP, side, Ctr.reads, hw, hlti, hl, List.length_cons, List.length_nil, hfu, hub, gt_iff_lt, cfa, cfb, cfc, cfd, etas]); first | done | trivial | with_reducible assumption | ((repeat' (first | exact id | exact trivial | with_reducible rfl | with_reducible assumption | exact fun _ => id | refine And.intro ?_ ?_)); all_goals first | done | omega | (refine fun _ => ?_; first | with_reducible assumption | omega) | trace_state) | trace_state) | (show drawOk _ _ _ = true; exact rfl) | skip
    all_goals (refine toEx2 ?_; refine Ex2.of ((i + 1, mBelowC u 10000, l ++ [mBelow u 10000]) : Nat × DCur × List Int) (And.intro (And.intro hlt (And.intro hu2 (And.intro (by rw [mBelowC_b]; exact hub) (And.intro (by simp [hl]) hm)))) (by show 12 - (i + 1) < 12 - i; omega)) ?_; (conv => whnf); refine Ob.mk ?_)
    all_goals (try simp only [allP, side, Ctr.reads, hlti, hl, List.length_cons, List.length_nil, hfu, hub, gt_iff_lt, cfa, cfb, cfc, cfd, etas])
    all_goals first | done | with_reducible assumption | ((repeat' (first | with_reducible exact rfl | exact trivial | with_reducible assumption | exact id | refine And.intro ?_ ?_)); all_goals first | done | omega | (simp only [List.length_append, List.length_cons, List.length_nil]; omega) | exact hw.symm | exact hcb | exact hcb.symm | exact Nat.zero_le _ | trace_state) | trace_state
  · have h0 : 12 - i = 0 := by omega
    rw [h0, placesL] at hm
    have hm : l = mPlaces b := hm
    have hlti : ((i : Int) < 12) = False := by simp; omega
    repeat' ((conv => whnf); first | refine toOb2 ?_ | (refine fun y hy => ?_; (try simp only [Ctr.reads, Ctr.parts, hlti, hm, hl, List.length_cons, List.length_nil, hfu, hub, gt_iff_lt, cfa, cfb, cfc, cfd, spps, reduceCtorEq, ETy.frm, if_true, if_false, implies_true, nbls, etas] at hy); subst hy) | (refine And.intro (fun h => ?_) (fun h => ?_) <;> (try simp only [hlti, hm, hl, List.length_cons, List.length_nil, hfu, hub, gt_iff_lt, cfa, cfb, cfc, cfd, spps, reduceCtorEq, ETy.frm, if_true, if_false, implies_true, nbls, etas] at h)) | refine And.intro (toOb2 ?_) ?_ | refine And.intro (?_ : drawOk _ _ _ = true) ?_ | (refine And.intro ⟨?_, ?_⟩ ?_; fail) | intro _)
    all_goals try (exfalso; omega)
    all_goals first | (refine Ob2.mk ?_; (try simp only [allP, side, Ctr.reads, hlti, hm, hl, List.length_cons, List.length_nil, hfu, hub, gt_iff_lt, cfa, cfb, cfc, cfd, etas]); first | done | trivial | with_reducible assumption | ((repeat' (first | exact id | exact trivial | with_reducible rfl | with_reducible assumption | exact fun _ => id | refine And.intro ?_ ?_)); all_goals first | done | omega | (refine fun _ => ?_; first | with_reducible assumption | omega) | trace_state) | trace_state) | (show drawOk _ _ _ = true; exact rfl) | skip
end Go.Proofs.YtnpeomhpbakgnaaGreat
