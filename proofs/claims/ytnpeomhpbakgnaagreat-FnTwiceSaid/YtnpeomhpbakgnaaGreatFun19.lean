/- Contracts of functions of the program, each shown over the text. -/
import Derived.Test.YtnpeomhpbakgnaaGreatFun17
set_option linter.unusedVariables false
set_option linter.unusedSimpArgs false
set_option maxRecDepth 100000
set_option maxHeartbeats 1000000
namespace Go.Proofs.YtnpeomhpbakgnaaGreat
open Go.Eng
set_option maxHeartbeats 9000000 in
theorem h_spec_l22Talk : Ctr.holds E 209 (⟨[aCur, aEnd, aEnd, aRow .letter], [.ref, .own, .own, .own], [aEnd, aEnd], (fun ((c : DCur), (x : DEnd), (y : DEnd), (ls : List DLetter), _) => c.B ∧ x.R ∧ y.R ∧ ls.length ≤ 1073741824), (fun ((c : DCur), (x : DEnd), (y : DEnd), (ls : List DLetter), _) => ((mTalk c x y ls).2.1, (mTalk c x y ls).2.2, ())), (fun ((c : DCur), (x : DEnd), (y : DEnd), (ls : List DLetter), _) => ((mTalk c x y ls).1, x, y, ls, ())), false, .ret⟩) := by
  refine fn_okw prgOk (gcons h_spec_l01Once (gcons h_spec_Hear gnil)) Tryz.func209 rfl rfl rfl (fun ⟨c, x, y, ls, _⟩ _ => ⟨by simp [LenC, mTalk_b], trivial, trivial, trivial, trivial⟩) ?_
  rintro ty ⟨(c : DCur), (x : DEnd), (y : DEnd), (ls : List DLetter), _⟩ (hp : c.B ∧ x.R ∧ y.R ∧ ls.length ≤ 1073741824)
  obtain ⟨hp, hxR, hyR, hls⟩ := hp
  have hty : Nat.beq (ty 0) (ty 0) = true := Nat.beq_refl _
  refine ⟨[(2, { X := Nat × DCur × DEnd × DEnd × List DLetter, inv := fun z => z.1 ≤ 5 ∧ z.2.1.B ∧ z.2.1.b = c.b ∧ z.2.2.1.R ∧ z.2.2.2.1.R ∧ z.2.2.2.2.length ≤ 1073741824 ∧ talkT (5 - z.1) z.1 z.2.1 z.2.2.1 z.2.2.2.1 z.2.2.2.2 = mTalk c x y ls, mu := fun z => 5 - z.1, vk := [10, 3, 1, 2], ov := fun z => [.a (.c (.leaf (.int (z.1 : Int)))), .a (.c (.row 192)), .any, .any], bk := [0, 5, 6], ob := fun z => [[.row 0, .leaf (.int z.2.1.i), .leaf (.int z.2.1.h)], [.leaf (.int z.2.2.1.side), .leaf (.int z.2.2.1.state), .leaf (.int z.2.2.1.key), .leaf (.int z.2.2.1.peer), .leaf (.int z.2.2.1.policy.kind), .leaf (.int z.2.2.1.policy.many), .row 70, .row 71, .row 72, .row 73, .leaf (.int z.2.2.1.bucket.rate), .leaf (.int z.2.2.1.bucket.burst), .leaf (.int z.2.2.1.bucket.hav), .leaf (.str z.2.2.1.out.text), .leaf (.int z.2.2.1.out.base), .leaf (.int z.2.2.1.out.sent), .leaf (.int z.2.2.1.out.room), .leaf (.int z.2.2.1.inn.read), .leaf (.str z.2.2.1.inn.ready), .row 83, .row 84, .row 85, .leaf (.int z.2.2.1.draw), .leaf (.int z.2.2.1.now), .leaf (.int z.2.2.1.pick)], [.leaf (.int z.2.2.2.1.side), .leaf (.int z.2.2.2.1.state), .leaf (.int z.2.2.2.1.key), .leaf (.int z.2.2.2.1.peer), .leaf (.int z.2.2.2.1.policy.kind), .leaf (.int z.2.2.2.1.policy.many), .row 134, .row 135, .row 136, .row 137, .leaf (.int z.2.2.2.1.bucket.rate), .leaf (.int z.2.2.2.1.bucket.burst), .leaf (.int z.2.2.2.1.bucket.hav), .leaf (.str z.2.2.2.1.out.text), .leaf (.int z.2.2.2.1.out.base), .leaf (.int z.2.2.2.1.out.sent), .leaf (.int z.2.2.2.1.out.room), .leaf (.int z.2.2.2.1.inn.read), .leaf (.str z.2.2.2.1.inn.ready), .row 147, .row 148, .row 149, .leaf (.int z.2.2.2.1.draw), .leaf (.int z.2.2.2.1.now), .leaf (.int z.2.2.2.1.pick)]], rk := [70, 71, 72, 73, 83, 84, 85, 134, 135, 136, 137, 147, 148, 149, 192], orr := fun z => [⟨.addr, z.2.2.1.own, true, none⟩, ⟨.addr, z.2.2.1.far, true, none⟩, ⟨.sub, z.2.2.1.subs, true, none⟩, ⟨.half, z.2.2.1.halfs, true, none⟩, ⟨.piece, z.2.2.1.inn.list, true, none⟩, ⟨.int, z.2.2.1.done, true, none⟩, ⟨.int, z.2.2.1.over, true, none⟩, ⟨.addr, z.2.2.2.1.own, true, none⟩, ⟨.addr, z.2.2.2.1.far, true, none⟩, ⟨.sub, z.2.2.2.1.subs, true, none⟩, ⟨.half, z.2.2.2.1.halfs, true, none⟩, ⟨.piece, z.2.2.2.1.inn.list, true, none⟩, ⟨.int, z.2.2.2.1.done, true, none⟩, ⟨.int, z.2.2.2.1.over, true, none⟩, ⟨.letter, z.2.2.2.2, true, none⟩] }), (6, { X := Nat × List DLetter × Nat × DCur × DEnd × DEnd × List DLetter, inv := fun z => z.2.2.1 ≤ z.2.1.length ∧ z.2.2.2.1.B ∧ z.2.2.2.1.b = c.b ∧ z.2.2.2.2.1.R ∧ z.2.2.2.2.2.1.R ∧ z.2.2.2.2.2.2.length ≤ z.2.2.1, mu := fun z => z.2.1.length - z.2.2.1, vk := [12, 11, 23], ov := fun z => [.a (.c (.leaf (.int (z.2.2.1 : Int)))), .a (.c (.row 1472)), .any], bk := [0, 5, 6], ob := fun z => [[.row 0, .leaf (.int z.2.2.2.1.i), .leaf (.int z.2.2.2.1.h)], [.leaf (.int z.2.2.2.2.1.side), .leaf (.int z.2.2.2.2.1.state), .leaf (.int z.2.2.2.2.1.key), .leaf (.int z.2.2.2.2.1.peer), .leaf (.int z.2.2.2.2.1.policy.kind), .leaf (.int z.2.2.2.2.1.policy.many), .row 70, .row 71, .row 72, .row 73, .leaf (.int z.2.2.2.2.1.bucket.rate), .leaf (.int z.2.2.2.2.1.bucket.burst), .leaf (.int z.2.2.2.2.1.bucket.hav), .leaf (.str z.2.2.2.2.1.out.text), .leaf (.int z.2.2.2.2.1.out.base), .leaf (.int z.2.2.2.2.1.out.sent), .leaf (.int z.2.2.2.2.1.out.room), .leaf (.int z.2.2.2.2.1.inn.read), .leaf (.str z.2.2.2.2.1.inn.ready), .row 83, .row 84, .row 85, .leaf (.int z.2.2.2.2.1.draw), .leaf (.int z.2.2.2.2.1.now), .leaf (.int z.2.2.2.2.1.pick)], [.leaf (.int z.2.2.2.2.2.1.side), .leaf (.int z.2.2.2.2.2.1.state), .leaf (.int z.2.2.2.2.2.1.key), .leaf (.int z.2.2.2.2.2.1.peer), .leaf (.int z.2.2.2.2.2.1.policy.kind), .leaf (.int z.2.2.2.2.2.1.policy.many), .row 134, .row 135, .row 136, .row 137, .leaf (.int z.2.2.2.2.2.1.bucket.rate), .leaf (.int z.2.2.2.2.2.1.bucket.burst), .leaf (.int z.2.2.2.2.2.1.bucket.hav), .leaf (.str z.2.2.2.2.2.1.out.text), .leaf (.int z.2.2.2.2.2.1.out.base), .leaf (.int z.2.2.2.2.2.1.out.sent), .leaf (.int z.2.2.2.2.2.1.out.room), .leaf (.int z.2.2.2.2.2.1.inn.read), .leaf (.str z.2.2.2.2.2.1.inn.ready), .row 147, .row 148, .row 149, .leaf (.int z.2.2.2.2.2.1.draw), .leaf (.int z.2.2.2.2.2.1.now), .leaf (.int z.2.2.2.2.2.1.pick)]], rk := [70, 71, 72, 73, 83, 84, 85, 134, 135, 136, 137, 147, 148, 149, 1472], orr := fun z => [⟨.addr, z.2.2.2.2.1.own, true, none⟩, ⟨.addr, z.2.2.2.2.1.far, true, none⟩, ⟨.sub, z.2.2.2.2.1.subs, true, none⟩, ⟨.half, z.2.2.2.2.1.halfs, true, none⟩, ⟨.piece, z.2.2.2.2.1.inn.list, true, none⟩, ⟨.int, z.2.2.2.2.1.done, true, none⟩, ⟨.int, z.2.2.2.2.1.over, true, none⟩, ⟨.addr, z.2.2.2.2.2.1.own, true, none⟩, ⟨.addr, z.2.2.2.2.2.1.far, true, none⟩, ⟨.sub, z.2.2.2.2.2.1.subs, true, none⟩, ⟨.half, z.2.2.2.2.2.1.halfs, true, none⟩, ⟨.piece, z.2.2.2.2.2.1.inn.list, true, none⟩, ⟨.int, z.2.2.2.2.2.1.done, true, none⟩, ⟨.int, z.2.2.2.2.2.1.over, true, none⟩, ⟨.letter, z.2.2.2.2.2.2, true, none⟩], rel := some fun a b => a.1 = b.1 ∧ a.2.1 = b.2.1 ∧ talkL (b.1 % 2 == 0) (b.2.1.drop b.2.2.1) b.2.2.2.1 b.2.2.2.2.1 b.2.2.2.2.2.1 b.2.2.2.2.2.2 = talkL (a.1 % 2 == 0) (a.2.1.drop a.2.2.1) a.2.2.2.1 a.2.2.2.2.1 a.2.2.2.2.2.1 a.2.2.2.2.2.2 })], ?_⟩
  repeat' ((conv => whnf); first | refine toOb2 ?_ | refine toY ?_ | refine And.intro (fun _ => ?_) (fun _ => ?_) | refine And.intro (toOb2 ?_) ?_ | refine And.intro (?_ : drawOk _ _ _ = true) ?_ | (refine And.intro ⟨?_, ?_⟩ ?_; fail) | intro _)
  conv => whnf
  refine And.intro ⟨((0, c, x, y, ls) : Nat × DCur × DEnd × DEnd × List DLetter), Ob.mk ?_, ?_⟩ (fun (z : Nat × DCur × DEnd × DEnd × List DLetter) hi => ?_)
  · exact And.intro (Nat.zero_le _) (And.intro hp (And.intro rfl (And.intro hxR (And.intro hyR (And.intro hls rfl)))))
  · conv => whnf
    rw [hty]
    conv => whnf
    refine Ob.mk ?_
    all_goals (try simp only [allP, side, Ctr.reads, etas]); all_goals repeat' (first | exact sp1 | refine And.intro ?_ ?_)
    all_goals first | done | rfl | exact trivial
  obtain ⟨t, u, x1, y1, l1⟩ := z
  obtain ⟨ht, hu, hcb, h1R, h2R, hl1, hm⟩ := hi
  have ht : t ≤ 5 := ht
  have hu : u.B := hu
  have hcb : u.b = c.b := hcb
  have h1R : x1.R := h1R
  have h2R : y1.R := h2R
  have hl1 : l1.length ≤ 1073741824 := hl1
  have hm : talkT (5 - t) t u x1 y1 l1 = mTalk c x y ls := hm
  have hfold : (⟨c.b, u.i, u.h⟩ : DCur) = u := dCur_fold hcb
  have hw := w64_succ (i := t) (m := 5)
  clear hxR hyR hls
  by_cases hgo : t < 5 ∧ 0 < l1.length
  · obtain ⟨hgo1, hgo2⟩ := hgo
    obtain ⟨k, hk⟩ : ∃ k, 5 - t = k + 1 := ⟨5 - t - 1, by omega⟩
    have hk2 : 5 - (t + 1) = k := by omega
    rw [hk, talkT, if_neg (by omega), ← hk2] at hm
    have hw := hw hgo1 (by decide)
    repeat' ((conv => whnf); first | refine toOb2 ?_ | (refine fun y hy => ?_; (try simp only [Ctr.reads, hfold, cfa, cfb, hcb, etas] at hy); subst hy) | refine And.intro (fun _ => ?_) (fun _ => ?_) | refine And.intro (toOb2 ?_) ?_ | refine And.intro (?_ : drawOk _ _ _ = true) ?_ | (refine And.intro ⟨?_, ?_⟩ ?_; fail) | intro _)
    all_goals try (exfalso; simp only [hfold, cfa, cfb, hcb, decide_eq_true_eq, decide_eq_false_iff_not, gt_iff_lt, nbls] at *; omega)
    all_goals first | (refine Ob2.mk ?_; (try simp only [allP, side, Ctr.reads, hfold, hcb]); first | done | trivial | assumption | omega | ((repeat' (first | exact id | refine And.intro ?_ ?_)); done)) | (show drawOk _ _ _ = true; exact rfl) | skip
    conv => whnf
    refine ⟨((t, l1, 0, u, x1, y1, []) : Nat × List DLetter × Nat × DCur × DEnd × DEnd × List DLetter), And.intro (And.intro (Ob.mk ?_) ?_) (fun (z : Nat × List DLetter × Nat × DCur × DEnd × DEnd × List DLetter) hz hr => ?_)⟩
    · exact And.intro (And.intro (Nat.zero_le _) (And.intro hu (And.intro hcb (And.intro h1R (And.intro h2R (Nat.zero_le _)))))) (And.intro rfl (And.intro rfl rfl))
    · conv => whnf
      rw [hty]
      conv => whnf
      refine Ob.mk ?_
      all_goals (try simp only [allP, side, Ctr.reads, etas]); all_goals repeat' (first | exact sp1 | refine And.intro ?_ ?_)
      all_goals first | done | rfl | exact trivial
    obtain ⟨t', l', i, v, x2, y2, bk⟩ := z
    obtain ⟨hr1, hr2, hr3⟩ := hr
    obtain rfl : t = t' := hr1
    obtain rfl : l1 = l' := hr2
    have hr3 : talkL (t % 2 == 0) (l1.drop i) v x2 y2 bk = talkL (t % 2 == 0) l1 u x1 y1 [] := hr3
    obtain ⟨hi, hv, hvb, h3R, h4R, hbk⟩ := hz
    have hi : i ≤ l1.length := hi
    have hv : v.B := hv
    have hvb : v.b = c.b := hvb
    have h3R : x2.R := h3R
    have h4R : y2.R := h4R
    have hbk : bk.length ≤ i := hbk
    have hfold2 : (⟨c.b, v.i, v.h⟩ : DCur) = v := dCur_fold hvb
    obtain ⟨_, _, _⟩ := id hv
    have hv1 := mBelowC_B 8 hv
    have hv1b : (mBelowC v 8).b = c.b := by rw [mBelowC_b, hvb]
    have hpar := tmod2 t
    rcases Nat.lt_or_ge i l1.length with hlt | hge
    · obtain ⟨m, hx, hxi, hd⟩ := at_step l1 i (ETy.zero .letter) hlt
      rw [hd, talkL] at hr3
      have hw2 := w64_succ hlt hl1
      have h3B := G_B h3R.1
      have h3S := G_S h3R.1
      have h4B := G_B h4R.1
      have h4S := G_S h4R.1
      clear hd hxi h1R h2R hu hfold hw hm
      by_cases ho : mOnce v 8 = true
      · rw [if_pos ho] at hr3
        repeat' ((conv => whnf); first | refine toOb2 ?_ | (refine fun y hy => ?_; (try simp only [Ctr.reads, Ctr.parts, hfold2, cfa, cfb, hvb, hx, beq_iff_eq, ho, spps, reduceCtorEq, ETy.frm, if_true, if_false, implies_true, nbls, etas] at hy); subst hy) | (refine And.intro (fun h => ?_) (fun h => ?_) <;> (try simp only [hfold2, cfa, cfb, hvb, hx, beq_iff_eq, ho, spps, reduceCtorEq, ETy.frm, if_true, if_false, implies_true, nbls, etas] at h)) | refine And.intro (toOb2 ?_) ?_ | refine And.intro (?_ : drawOk _ _ _ = true) ?_ | (refine And.intro ⟨?_, ?_⟩ ?_; fail) | intro _)
        all_goals try (exfalso; omega)
        all_goals first | (refine Ob2.mk ?_; (try simp only [allP, side, Ctr.reads, hfold2, hvb, hx, etas])) | (show drawOk _ _ _ = true; exact rfl) | (refine toEx2 ?_; refine Ex2.of ((t, l1, i + 1, mBelowC v 8, x2, y2, bk) : Nat × List DLetter × Nat × DCur × DEnd × DEnd × List DLetter) (And.intro (And.intro (And.intro hlt (And.intro hv1 (And.intro hv1b (And.intro h3R (And.intro h4R (by simp only [List.length_append]; omega)))))) (And.intro rfl (And.intro rfl hr3))) (by show l1.length - (i + 1) < l1.length - i; omega)) ?_; (conv => whnf); rw [hty]; (conv => whnf); refine Ob.mk ?_; (try simp only [allP, side, Ctr.reads, hfold2, hvb, hx, etas])) | skip
        all_goals first | done | trivial | assumption | omega | ((repeat' (first | with_reducible exact rfl | exact trivial | with_reducible assumption | refine And.intro ?_ ?_)); all_goals first | done | omega | exact hw2.symm | exact hvb | exact hvb.symm | trace_state) | trace_state
      rw [if_neg ho] at hr3
      have ho2 : mOnce v 8 = false := by simpa using ho
      by_cases hev : t % 2 = 0
      · rw [if_pos (by simpa using hev)] at hr3
        have hn4 := mHear_len1 y2 m
        have h6R := mHear_R m h4R
        have hev2 : ((t : Int).tmod 2 = 0) := hpar.2 hev
        repeat' ((conv => whnf); first | refine toOb2 ?_ | (refine fun y hy => ?_; (try simp only [Ctr.reads, Ctr.parts, hfold2, cfa, cfb, hvb, hx, beq_iff_eq, ho2, hev2, spps, reduceCtorEq, ETy.frm, if_true, if_false, implies_true, nbls, etas] at hy); subst hy) | (refine And.intro (fun h => ?_) (fun h => ?_) <;> (try simp only [hfold2, cfa, cfb, hvb, hx, beq_iff_eq, ho2, hev2, spps, reduceCtorEq, ETy.frm, if_true, if_false, implies_true, nbls, etas] at h)) | refine And.intro (toOb2 ?_) ?_ | refine And.intro (?_ : drawOk _ _ _ = true) ?_ | (refine And.intro ⟨?_, ?_⟩ ?_; fail) | intro _)
        all_goals try (exfalso; omega)
        all_goals first | (refine Ob2.mk ?_; (try simp only [allP, side, Ctr.reads, hfold2, hvb, hx, etas])) | (show drawOk _ _ _ = true; exact rfl) | (refine toEx2 ?_; refine Ex2.of ((t, l1, i + 1, mBelowC v 8, x2, (mHear y2 m).1, (bk ++ (mHear y2 m).2)) : Nat × List DLetter × Nat × DCur × DEnd × DEnd × List DLetter) (And.intro (And.intro (And.intro hlt (And.intro hv1 (And.intro hv1b (And.intro h3R (And.intro h6R (by simp only [List.length_append]; omega)))))) (And.intro rfl (And.intro rfl hr3))) (by show l1.length - (i + 1) < l1.length - i; omega)) ?_; (conv => whnf); rw [hty]; (conv => whnf); refine Ob.mk ?_; (try simp only [allP, side, Ctr.reads, hfold2, hvb, hx, etas])) | skip
        all_goals first | done | trivial | assumption | omega | ((repeat' (first | with_reducible exact rfl | exact trivial | with_reducible assumption | refine And.intro ?_ ?_)); all_goals first | done | omega | exact hw2.symm | exact hvb | exact hvb.symm | trace_state) | trace_state
      · rw [if_neg (by simpa using hev)] at hr3
        have hn3 := mHear_len1 x2 m
        have h5R := mHear_R m h3R
        have hev2 : ¬ ((t : Int).tmod 2 = 0) := fun h => hev (hpar.1 h)
        repeat' ((conv => whnf); first | refine toOb2 ?_ | (refine fun y hy => ?_; (try simp only [Ctr.reads, Ctr.parts, hfold2, cfa, cfb, hvb, hx, beq_iff_eq, ho2, hev2, spps, reduceCtorEq, ETy.frm, if_true, if_false, implies_true, nbls, etas] at hy); subst hy) | (refine And.intro (fun h => ?_) (fun h => ?_) <;> (try simp only [hfold2, cfa, cfb, hvb, hx, beq_iff_eq, ho2, hev2, spps, reduceCtorEq, ETy.frm, if_true, if_false, implies_true, nbls, etas] at h)) | refine And.intro (toOb2 ?_) ?_ | refine And.intro (?_ : drawOk _ _ _ = true) ?_ | (refine And.intro ⟨?_, ?_⟩ ?_; fail) | intro _)
        all_goals try (exfalso; omega)
        all_goals first | (refine Ob2.mk ?_; (try simp only [allP, side, Ctr.reads, hfold2, hvb, hx, etas])) | (show drawOk _ _ _ = true; exact rfl) | (refine toEx2 ?_; refine Ex2.of ((t, l1, i + 1, mBelowC v 8, (mHear x2 m).1, y2, (bk ++ (mHear x2 m).2)) : Nat × List DLetter × Nat × DCur × DEnd × DEnd × List DLetter) (And.intro (And.intro (And.intro hlt (And.intro hv1 (And.intro hv1b (And.intro h5R (And.intro h4R (by simp only [List.length_append]; omega)))))) (And.intro rfl (And.intro rfl hr3))) (by show l1.length - (i + 1) < l1.length - i; omega)) ?_; (conv => whnf); rw [hty]; (conv => whnf); refine Ob.mk ?_; (try simp only [allP, side, Ctr.reads, hfold2, hvb, hx, etas])) | skip
        all_goals first | done | trivial | assumption | omega | ((repeat' (first | with_reducible exact rfl | exact trivial | with_reducible assumption | refine And.intro ?_ ?_)); all_goals first | done | omega | exact hw2.symm | exact hvb | exact hvb.symm | trace_state) | trace_state
    · have hl : l1.drop i = [] := List.drop_eq_nil_iff.2 hge
      rw [hl, talkL] at hr3
      rw [← hr3] at hm
      have hm : talkT (5 - (t + 1)) (t + 1) v x2 y2 bk = mTalk c x y ls := hm
      clear hl hr3 h1R h2R hu hfold
      repeat' ((conv => whnf); first | refine toOb2 ?_ | (refine fun y hy => ?_; (try simp only [Ctr.reads, Ctr.parts, hfold2, cfa, cfb, hvb, gt_iff_lt, spps, reduceCtorEq, ETy.frm, if_true, if_false, implies_true, nbls, etas] at hy); subst hy) | (refine And.intro (fun h => ?_) (fun h => ?_) <;> (try simp only [hfold2, cfa, cfb, hvb, gt_iff_lt, spps, reduceCtorEq, ETy.frm, if_true, if_false, implies_true, nbls, etas] at h)) | refine And.intro (toOb2 ?_) ?_ | refine And.intro (?_ : drawOk _ _ _ = true) ?_ | (refine And.intro ⟨?_, ?_⟩ ?_; fail) | intro _)
      all_goals try (exfalso; omega)
      all_goals first | (refine Ob2.mk ?_; (try simp only [allP, side, Ctr.reads, hfold2, hvb, etas])) | (show drawOk _ _ _ = true; exact rfl) | (refine toEx2 ?_; refine Ex2.of ((t + 1, v, x2, y2, bk) : Nat × DCur × DEnd × DEnd × List DLetter) (And.intro (And.intro hgo1 (And.intro hv (And.intro hvb (And.intro h3R (And.intro h4R (And.intro (by simp only []; omega) hm)))))) (by show 5 - (t + 1) < 5 - t; omega)) ?_; (conv => whnf); rw [hty]; (conv => whnf); refine Ob.mk ?_; (try simp only [allP, side, Ctr.reads, hfold2, hvb, etas])) | skip
      all_goals first | done | trivial | assumption | omega | ((repeat' (first | with_reducible exact rfl | exact trivial | with_reducible assumption | refine And.intro ?_ ?_)); all_goals first | done | omega | exact hw.symm | exact hvb | exact hvb.symm | trace_state) | trace_state
  · have hm2 : mTalk c x y ls = (u, x1, y1) := by
      rw [← hm]
      rcases Nat.lt_or_ge t 5 with h5 | h5
      · obtain ⟨k, hk⟩ : ∃ k, 5 - t = k + 1 := ⟨5 - t - 1, by omega⟩
        rw [hk, talkT, if_pos (by omega)]
      · have h0 : 5 - t = 0 := by omega
        rw [h0, talkT]
    clear hm
    repeat' ((conv => whnf); first | refine toOb2 ?_ | (refine fun y hy => ?_; (try simp only [Ctr.reads, Ctr.parts, hfold, cfa, cfb, hcb, gt_iff_lt, spps, reduceCtorEq, ETy.frm, if_true, if_false, implies_true, nbls, etas] at hy); subst hy) | (refine And.intro (fun h => ?_) (fun h => ?_) <;> (try simp only [hfold, cfa, cfb, hcb, gt_iff_lt, spps, reduceCtorEq, ETy.frm, if_true, if_false, implies_true, nbls, etas] at h)) | refine And.intro (toOb2 ?_) ?_ | refine And.intro (?_ : drawOk _ _ _ = true) ?_ | (refine And.intro ⟨?_, ?_⟩ ?_; fail) | intro _)
    all_goals try (exfalso; simp only [nbls] at *; omega)
    all_goals try (exfalso; omega)
    all_goals first | (refine Ob2.mk ?_; (try simp only [allP, side, Ctr.reads, hfold, hcb, hm2, etas])) | (show drawOk _ _ _ = true; exact rfl) | skip
    all_goals first | done | trivial | assumption | omega | ((repeat' (first | with_reducible exact rfl | exact trivial | with_reducible assumption | exact id | refine And.intro ?_ ?_)); all_goals first | done | omega | exact hcb | exact hcb.symm | trace_state) | trace_state
set_option maxHeartbeats 9000000 in
theorem h_spec_l22Ends : Ctr.holds E 116 (⟨[aCur], [.ref], [aEnd, aEnd], (fun ((c : DCur), _) => c.B), (fun ((c : DCur), _) => ((mEnds c).2.1, (mEnds c).2.2, ())), (fun ((c : DCur), _) => ((mEnds c).1, ())), false, .ret⟩) := by
  refine fn_okw prgOk (gcons h_spec_l12Policy (gcons h_spec_EndNew (gcons h_spec_Meet (gcons h_spec_l01Below (gcons h_spec_l01Once (gcons h_spec_l01Text (gcons h_spec_WriteAll (gcons h_spec_AddOwn (gcons h_spec_Tick (gcons h_spec_Manage (gcons h_spec_Read (gcons h_spec_l22Talk gnil)))))))))))) Tryz.func116 rfl rfl rfl (fun ⟨c, _⟩ _ => ⟨by simp [LenC, mEnds_b], trivial⟩) ?_
  rintro ty ⟨(c : DCur), _⟩ (hp : c.B)
  have hty : Nat.beq (ty 0) (ty 0) = true := Nat.beq_refl _
  have hpA := mDPol_ok c
  have hpB := mDPol_ok (mDPolC c)
  have hmeet := meet_is hpA hpB
  have hb1 := mDPolC_B hp
  have hb2 := mDPolC_B hb1
  have hA := endA_R hpA
  have hB := endB_R hpB
  have hNA := mEndNew_B 1 11 (mDPol c)
  have hNB := mEndNew_B 2 21 (mDPol (mDPolC c))
  have hf1 : (⟨c.b, (mDPolC c).i, (mDPolC c).h⟩ : DCur) = mDPolC c := dCur_fold (mDPolC_b c)
  refine ⟨[(5, { X := Nat × DCur × DEnd × DEnd, inv := fun z => z.1 ≤ 12 ∧ z.2.1.B ∧ z.2.1.b = c.b ∧ z.2.2.1.R ∧ z.2.2.2.R ∧ endsL (13 - z.1) z.1 z.2.1 z.2.2.1 z.2.2.2 = mEnds c, mu := fun z => 12 - z.1, vk := [8, 25, 28, 29, 30], ov := fun z => [.a (.c (.leaf (.int (z.1 : Int)))), .any, .any, .any, .any], bk := [0, 4, 6], ob := fun z => [[.row 0, .leaf (.int z.2.1.i), .leaf (.int z.2.1.h)], [.leaf (.int z.2.2.1.side), .leaf (.int z.2.2.1.state), .leaf (.int z.2.2.1.key), .leaf (.int z.2.2.1.peer), .leaf (.int z.2.2.1.policy.kind), .leaf (.int z.2.2.1.policy.many), .row 1798, .row 1799, .row 1800, .row 1801, .leaf (.int z.2.2.1.bucket.rate), .leaf (.int z.2.2.1.bucket.burst), .leaf (.int z.2.2.1.bucket.hav), .leaf (.str z.2.2.1.out.text), .leaf (.int z.2.2.1.out.base), .leaf (.int z.2.2.1.out.sent), .leaf (.int z.2.2.1.out.room), .leaf (.int z.2.2.1.inn.read), .leaf (.str z.2.2.1.inn.ready), .row 1811, .row 1812, .row 1813, .leaf (.int z.2.2.1.draw), .leaf (.int z.2.2.1.now), .leaf (.int z.2.2.1.pick)], [.leaf (.int z.2.2.2.side), .leaf (.int z.2.2.2.state), .leaf (.int z.2.2.2.key), .leaf (.int z.2.2.2.peer), .leaf (.int z.2.2.2.policy.kind), .leaf (.int z.2.2.2.policy.many), .row 1823, .row 1824, .row 1825, .row 1826, .leaf (.int z.2.2.2.bucket.rate), .leaf (.int z.2.2.2.bucket.burst), .leaf (.int z.2.2.2.bucket.hav), .leaf (.str z.2.2.2.out.text), .leaf (.int z.2.2.2.out.base), .leaf (.int z.2.2.2.out.sent), .leaf (.int z.2.2.2.out.room), .leaf (.int z.2.2.2.inn.read), .leaf (.str z.2.2.2.inn.ready), .row 1836, .row 1837, .row 1838, .leaf (.int z.2.2.2.draw), .leaf (.int z.2.2.2.now), .leaf (.int z.2.2.2.pick)]], rk := [1798, 1799, 1800, 1801, 1811, 1812, 1813, 1823, 1824, 1825, 1826, 1836, 1837, 1838], orr := fun z => [⟨.addr, z.2.2.1.own, true, none⟩, ⟨.addr, z.2.2.1.far, true, none⟩, ⟨.sub, z.2.2.1.subs, true, none⟩, ⟨.half, z.2.2.1.halfs, true, none⟩, ⟨.piece, z.2.2.1.inn.list, true, none⟩, ⟨.int, z.2.2.1.done, true, none⟩, ⟨.int, z.2.2.1.over, true, none⟩, ⟨.addr, z.2.2.2.own, true, none⟩, ⟨.addr, z.2.2.2.far, true, none⟩, ⟨.sub, z.2.2.2.subs, true, none⟩, ⟨.half, z.2.2.2.halfs, true, none⟩, ⟨.piece, z.2.2.2.inn.list, true, none⟩, ⟨.int, z.2.2.2.done, true, none⟩, ⟨.int, z.2.2.2.over, true, none⟩] })], ?_⟩
  repeat' ((conv => whnf); first | refine toOb2 ?_ | (refine fun y hy => ?_; (try simp only [Ctr.reads, cfa, cfb, hmeet, etas] at hy); subst hy) | refine And.intro (fun _ => ?_) (fun _ => ?_) | refine And.intro (toOb2 ?_) ?_ | refine And.intro (?_ : drawOk _ _ _ = true) ?_ | (refine And.intro ⟨?_, ?_⟩ ?_; fail) | intro _)
  all_goals first | (refine Ob2.mk ?_; (try simp only [allP, side, Ctr.reads, cfa, cfb, hmeet, etas]); first | done | trivial | assumption | omega | ((repeat' (first | exact id | with_reducible assumption | exact trivial | refine And.intro ?_ ?_)); done) | trace_state) | (show drawOk _ _ _ = true; exact rfl) | skip
  conv => whnf
  refine And.intro ⟨((0, mDPolC (mDPolC c), endA (mDPol c), endB (mDPol (mDPolC c))) : Nat × DCur × DEnd × DEnd), Ob.mk ?_, ?_⟩ (fun (z : Nat × DCur × DEnd × DEnd) hi => ?_)
  · exact And.intro (Nat.zero_le _) (And.intro hb2 (And.intro (by rw [mDPolC_b, mDPolC_b]) (And.intro hA (And.intro hB rfl))))
  · conv => whnf
    rw [hty]
    conv => whnf
    refine Ob.mk ?_
    all_goals (try simp only [allP, side, Ctr.reads, etas]); all_goals repeat' (first | exact sp1 | refine And.intro ?_ ?_)
    all_goals (try simp only [dCur_eta, hf1])
    all_goals first | done | rfl | exact trivial | trace_state
  obtain ⟨i, u, a1, b1⟩ := z
  obtain ⟨hi, hu, hcb, h1R, h2R, hm⟩ := hi
  have hi : i ≤ 12 := hi
  have hu : u.B := hu
  have hcb : u.b = c.b := hcb
  have h1R : a1.R := h1R
  have h2R : b1.R := h2R
  have hm : endsL (13 - i) i u a1 b1 = mEnds c := hm
  obtain ⟨k, hk⟩ : ∃ k, 13 - i = k + 1 := ⟨13 - i - 1, by omega⟩
  have hk2 : 13 - (i + 1) = k := by omega
  rw [hk, endsL] at hm
  have hbd := mBelow_bd (c := u) (n := 12) (by decide)
  have hu1 := mBelowC_B 12 hu
  have hfold : (⟨c.b, u.i, u.h⟩ : DCur) = u := dCur_fold hcb
  obtain ⟨_, _, _⟩ := id hu
  obtain ⟨_, _, _⟩ := id hu1
  by_cases hlt : (i : Int) < mBelow u 12
  · rw [if_pos hlt, ← hk2] at hm
    have hw := w64_succ (i := i) (m := 12) (by omega) (by decide)
    have hu2 := mBelowC_B 2 hu1
    have hu3 := mBelowC_B 7 hu2
    have hu4 := mBelowC_B 30 hu3
    have hu5 := mBelowC_B 3 hu3
    have hu6 := mBelowC_B 3 hu5
    obtain ⟨_, _, _⟩ := id (mBelowC_B 4 hu6)
    have hu7 : (dTextC (mBelowC (mBelowC (mBelowC (mBelowC u 12) 2) 7) 30) (w64 (1 + mBelow (mBelowC (mBelowC (mBelowC u 12) 2) 7) 30))).B := dTextC_B _ hu4
    obtain ⟨p1, p2, ⟨p3, p4⟩, ⟨p5, p6⟩, p7⟩ := acts_R h1R
    obtain ⟨q1, q2, ⟨q3, q4⟩, ⟨q5, q6⟩, q7⟩ := acts_R h2R
    obtain ⟨p8, p9⟩ := p1 (dText (mBelowC (mBelowC (mBelowC (mBelowC u 12) 2) 7) 30) (w64 (1 + mBelow (mBelowC (mBelowC (mBelowC u 12) 2) 7) 30)))
    obtain ⟨q8, q9⟩ := q1 (dText (mBelowC (mBelowC (mBelowC (mBelowC u 12) 2) 7) 30) (w64 (1 + mBelow (mBelowC (mBelowC (mBelowC u 12) 2) 7) 30)))
    have p10 := p2 (actAddr a1 (mBelowC (mBelowC (mBelowC u 12) 2) 7))
    have q10 := q2 (actAddr b1 (mBelowC (mBelowC (mBelowC u 12) 2) 7))
    have p11 := p7 (mBelow (mBelowC (mBelowC (mBelowC u 12) 2) 7) 30)
    have q11 := q7 (mBelow (mBelowC (mBelowC (mBelowC u 12) 2) 7) 30)
    have p12 := G_B h1R.1
    have q12 := G_B h2R.1
    have p13 := G_lens h1R.1
    have q13 := G_lens h2R.1
    have hkb := mBelow_bd (c := mBelowC (mBelowC u 12) 2) (n := 7) (by decide)
    have hkc : mBelow (mBelowC (mBelowC u 12) 2) 7 = 0 ∨ mBelow (mBelowC (mBelowC u 12) 2) 7 = 1 ∨ mBelow (mBelowC (mBelowC u 12) 2) 7 = 2 ∨ mBelow (mBelowC (mBelowC u 12) 2) 7 = 3 ∨ mBelow (mBelowC (mBelowC u 12) 2) 7 = 4 ∨ mBelow (mBelowC (mBelowC u 12) 2) 7 = 5 ∨ mBelow (mBelowC (mBelowC u 12) 2) 7 = 6 := by omega
    have hEB := roundE_B (c := mBelowC u 12) a1 b1 hu1
    have hEb : (roundE (mBelowC u 12) a1 b1).1.b = c.b := by rw [roundE_b, mBelowC_b, hcb]
    have hER := roundE_R (mBelowC u 12) h1R h2R
    have hnext : (((i + 1 ≤ 12 ∧ (roundE (mBelowC u 12) a1 b1).1.B ∧ (roundE (mBelowC u 12) a1 b1).1.b = c.b ∧ (roundE (mBelowC u 12) a1 b1).2.1.R ∧ (roundE (mBelowC u 12) a1 b1).2.2.R ∧ endsL (13 - (i + 1)) (i + 1) (roundE (mBelowC u 12) a1 b1).1 (roundE (mBelowC u 12) a1 b1).2.1 (roundE (mBelowC u 12) a1 b1).2.2 = mEnds c)) ∧ 12 - (i + 1) < 12 - i) := ⟨⟨by omega, hEB, hEb, hER.1, hER.2, hm⟩, by omega⟩
    clear hm hEB hEb hER p1 p2 p7 q1 q2 q7 hkb hmeet hA hB hNA hNB hpA hpB hb1 hb2 hf1
    cases hway : mOnce (mBelowC u 12) 2
    all_goals rcases hkc with hkk | hkk | hkk | hkk | hkk | hkk | hkk
    all_goals first | have hE := roundE_t (a := a1) (b := b1) hway | have hE := roundE_f (a := a1) (b := b1) hway
    all_goals first | rw [roundT_0 hkk] at hE | rw [roundT_1 hkk] at hE | rw [roundT_2 hkk, actAddr, actAddrC] at hE | rw [roundT_3 hkk] at hE | rw [roundT_4 hkk] at hE | rw [roundT_5 hkk] at hE | rw [roundT_6 hkk] at hE
    all_goals simp only [actAddr] at p10 q10
    all_goals (repeat' ((conv => whnf); first | refine toOb2 ?_ | (refine fun y hy => ?_; (try simp only [Ctr.reads, Ctr.parts, hlt, hfold, cfa, cfb, hcb, beq_iff_eq, beq_self_eq_true, beq_eq_false_iff_ne, ne_eq, Int.reduceEq, hway, hkk, spps, reduceCtorEq, ETy.frm, if_true, if_false, implies_true, nbls, etas] at hy); subst hy) | (refine And.intro (fun h => ?_) (fun h => ?_) <;> (try simp only [hlt, hfold, cfa, cfb, hcb, beq_iff_eq, beq_self_eq_true, beq_eq_false_iff_ne, ne_eq, Int.reduceEq, hway, hkk, spps, reduceCtorEq, ETy.frm, if_true, if_false, implies_true, nbls, etas] at h)) | refine And.intro (toOb2 ?_) ?_ | refine And.intro (?_ : drawOk _ _ _ = true) ?_ | (refine And.intro ⟨?_, ?_⟩ ?_; fail) | intro _))
    all_goals try (exfalso; omega)
    all_goals first | (refine Ob2.mk ?_; (try simp only [allP, side, Ctr.reads, hfold, cfa, cfb, hcb, hway, hkk, etas])) | (show drawOk _ _ _ = true; exact rfl) | (refine toEx2 ?_; refine Ex2.of ((i + 1, (roundE (mBelowC u 12) a1 b1).1, (roundE (mBelowC u 12) a1 b1).2.1, (roundE (mBelowC u 12) a1 b1).2.2) : Nat × DCur × DEnd × DEnd) hnext ?_; (conv => whnf); rw [hty]; (conv => whnf); refine Ob.mk ?_; (try simp only [allP, side, Ctr.reads, hfold, cfa, cfb, hcb, hE, hway, hkk, etas])) | skip
    all_goals first | done | with_reducible assumption | ((repeat' (first | with_reducible exact rfl | exact trivial | with_reducible assumption | exact id | refine And.intro ?_ ?_)); all_goals first | done | omega | exact hw.symm | exact hcb | exact hcb.symm | exact Nat.zero_le _ | trace_state) | trace_state
  · rw [if_neg hlt] at hm
    repeat' ((conv => whnf); first | refine toOb2 ?_ | (refine fun y hy => ?_; (try simp only [Ctr.reads, Ctr.parts, hlt, hfold, cfa, cfb, hcb, spps, reduceCtorEq, ETy.frm, if_true, if_false, implies_true, nbls, etas] at hy); subst hy) | (refine And.intro (fun h => ?_) (fun h => ?_) <;> (try simp only [hlt, hfold, cfa, cfb, hcb, spps, reduceCtorEq, ETy.frm, if_true, if_false, implies_true, nbls, etas] at h)) | refine And.intro (toOb2 ?_) ?_ | refine And.intro (?_ : drawOk _ _ _ = true) ?_ | (refine And.intro ⟨?_, ?_⟩ ?_; fail) | intro _)
    all_goals try (exfalso; omega)
    all_goals first | (refine Ob2.mk ?_; (try simp only [allP, side, Ctr.reads, hfold, cfa, cfb, hcb, ← hm, etas])) | (show drawOk _ _ _ = true; exact rfl) | skip
    all_goals first | done | with_reducible assumption | ((repeat' (first | with_reducible exact rfl | exact trivial | with_reducible assumption | exact id | refine And.intro ?_ ?_)); all_goals first | done | omega | exact hw.symm | exact hcb | exact hcb.symm | exact Nat.zero_le _ | trace_state) | trace_state
end Go.Proofs.YtnpeomhpbakgnaaGreat
