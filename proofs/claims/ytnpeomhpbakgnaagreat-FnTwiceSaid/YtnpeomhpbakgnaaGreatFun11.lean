/- Contracts of functions of the program, each shown over the text. -/
import Derived.Test.YtnpeomhpbakgnaaGreatFun9
set_option linter.unusedVariables false
set_option linter.unusedSimpArgs false
set_option maxRecDepth 100000
set_option maxHeartbeats 1000000
namespace Go.Proofs.YtnpeomhpbakgnaaGreat
open Go.Eng
theorem h_spec_Brought : Ctr.holds E 177 (.reads [aInt, aInt, aInt] [aInt] (fun ((n : Int), (l : Int), (h : Int), _) => True) fun ((n : Int), (l : Int), (h : Int), _) => (mBrought n l h, ())) := by
  refine fn_ok prgOk gnil Tryz.func177 rfl rfl rfl rfl ?_
  rintro ty ⟨(n : Int), (l : Int), (h : Int), _⟩ hp
  refine ⟨[], ?_⟩
  repeat' ((conv => whnf); first | refine toOb2 ?_ | refine And.intro (fun _ => ?_) (fun _ => ?_) | refine And.intro ?_ ?_ | refine toEx2 ?_ | intro _)
  all_goals first | refine Ob2.mk ?_ | (show drawOk _ _ _ = true; exact rfl)
  all_goals (try simp only [allP, side, Ctr.reads, etas]); all_goals repeat' (first | exact sp1 | refine And.intro ?_ ?_)
  all_goals (try simp only [Ctr.reads, etas] at *)
  all_goals first | done | with_reducible assumption | with_reducible rfl | grind [mBrought]
theorem h_spec_Filled : Ctr.holds E 79 (.reads [aBucket, aInt] [aBucket] (fun ((b : DBucket), (n : Int), _) => n = 1) fun ((b : DBucket), (n : Int), _) => (mFilled b, ())) := by
  refine fn_ok prgOk (gcons h_spec_BucketOk (gcons h_spec_l01In (gcons h_spec_Brought gnil))) Tryz.func79 rfl rfl rfl rfl ?_
  rintro ty ⟨(b : DBucket), (n : Int), _⟩ hp
  obtain rfl : n = 1 := hp
  refine ⟨[], ?_⟩
  by_cases hok : mBucketOk b = true
  · obtain ⟨ho1, ho2, ho3, ho4⟩ := bucketOk_bd hok
    repeat' ((conv => whnf); first | refine toOb2 ?_ | refine And.intro (fun _ => ?_) (fun _ => ?_) | refine And.intro ?_ ?_ | refine toEx2 ?_ | refine toY ?_ | intro _)
    all_goals first | refine Ob2.mk ?_ | (show drawOk _ _ _ = true; exact rfl)
    all_goals (try simp only [allP, side, Ctr.reads, etas]); all_goals repeat' (first | exact sp1 | refine And.intro ?_ ?_)
    all_goals (try simp only [Int.mul_one, Ctr.reads, etas] at *)
    all_goals (try simp only [nbls] at *)
    all_goals (try simp only [decide_eq_true_eq, decide_eq_false_iff_not] at *)
    all_goals (try simp (disch := omega) only [w64_id] at *)
    all_goals (try simp (disch := omega) only [w64_id] at *)
    all_goals first | done | with_reducible assumption | with_reducible rfl | omega | grind [mFilled, mBrought, mNums, allL, mNum, mIn]
  · repeat' ((conv => whnf); first | refine toOb2 ?_ | refine And.intro (fun _ => ?_) (fun _ => ?_) | refine And.intro ?_ ?_ | refine toEx2 ?_ | refine toY ?_ | intro _)
    all_goals first | refine Ob2.mk ?_ | (show drawOk _ _ _ = true; exact rfl)
    all_goals (try simp only [allP, side, Ctr.reads, etas]); all_goals repeat' (first | exact sp1 | refine And.intro ?_ ?_)
    all_goals (try simp only [Int.mul_one, Ctr.reads, etas] at *)
    all_goals (try simp only [nbls] at *)
    all_goals first | done | with_reducible assumption | with_reducible rfl | omega | grind [mFilled, mBrought, mNums, allL, mNum, mIn]
theorem h_spec_Younger : Ctr.holds E 80 (.reads [aRow .half, aInt] [aRow .half] (fun ((l : List DHalf), (n : Int), _) => l.length ≤ 1073741824) fun ((l : List DHalf), (n : Int), _) => (mYounger l n, ())) := by
  refine fn_ok prgOk gnil Tryz.func80 rfl rfl rfl rfl ?_
  rintro ty ⟨(l : List DHalf), (n : Int), _⟩ (hp : l.length ≤ 1073741824)
  refine ⟨[(3, { X := Nat × List DHalf, inv := fun x => x.1 ≤ l.length ∧ x.2 ++ colL (fYoung n) (l.drop x.1) x.1 = mYounger l n ∧ x.2.length ≤ x.1, mu := fun x => l.length - x.1, vk := [6, 5, 7], ov := fun x => [.a (.c (.leaf (.int (x.1 : Int)))), .a (.c (.row 448)), .any], bk := [], ob := fun x => [], rk := [448], orr := fun x => [⟨.half, x.2, true, none⟩] })], ?_⟩
  conv => whnf
  refine And.intro ⟨((0, []) : Nat × List DHalf), Ob.mk ?_, ?_⟩ (fun (x : Nat × List DHalf) hi => ?_)
  · exact And.intro (Nat.zero_le _) (And.intro (rfl) (Nat.le_refl _))
  · conv => whnf
    refine Ob.mk ?_
    all_goals (try simp only [allP, side, Ctr.reads, etas]); all_goals repeat' (first | exact sp1 | refine And.intro ?_ ?_)
  obtain ⟨i, acc⟩ := x
  obtain ⟨hi, hm⟩ := hi
  have hi : i ≤ l.length := hi
  have hm : acc ++ colL (fYoung n) (l.drop i) i = mYounger l n ∧ acc.length ≤ i := hm
  rcases Nat.lt_or_ge i l.length with hlt | hge
  · obtain ⟨x, hx, hxi, hd⟩ := at_step l i (ETy.zero .half) hlt
    rw [hd, colL] at hm
    have hw := w64_succ hlt (hp)
    repeat' ((conv => whnf); first | refine toOb2 ?_ | refine And.intro (fun _ => ?_) (fun _ => ?_) | refine And.intro ?_ ?_ | refine toEx2 ?_ | intro _)
    all_goals try (exfalso; exact Nat.lt_irrefl _ (Nat.lt_of_lt_of_le hlt (ge_of_dec (by assumption))))
    all_goals first | refine Ob2.mk ?_ | refine Ex2.of ((i + 1, if x.til > n then acc ++ [x] else acc)) ?_ ?_ | skip
    all_goals try ((conv => whnf); refine Ob.mk ?_)
    all_goals (try simp only [allP, side, Ctr.reads, etas]); all_goals repeat' (first | exact sp1 | refine And.intro ?_ ?_)
    all_goals (try simp only [hx, ETy.frm, Ctr.reads, etas] at *)
    all_goals first | done | grind [fYoung, mYounger]
  · have hl : i = l.length := by omega
    subst hl
    rw [List.drop_length, colL] at hm
    repeat' ((conv => whnf); first | refine toOb2 ?_ | refine And.intro (fun _ => ?_) (fun _ => ?_) | refine And.intro ?_ ?_ | refine toEx2 ?_ | intro _)
    all_goals try (exfalso; exact Nat.lt_irrefl _ (Nat.lt_of_lt_of_le (lt_of_dec (by assumption)) hge))
    all_goals first | refine Ob2.mk ?_ | refine Ex2.of ((l.length, acc)) ?_ ?_ | skip
    all_goals try ((conv => whnf); refine Ob.mk ?_)
    all_goals (try simp only [allP, side, Ctr.reads, etas]); all_goals repeat' (first | exact sp1 | refine And.intro ?_ ?_)
    all_goals (try simp only [ETy.frm, Ctr.reads, etas] at *)
    all_goals first | done | grind [fYoung, mYounger]
theorem h_spec_Anew : Ctr.holds E 58 (.reads [aOut] [aOut] (fun ((o : DOut), _) => True) fun ((o : DOut), _) => (mAnew o, ())) := by
  refine fn_ok prgOk (gcons h_spec_OutOk gnil) Tryz.func58 rfl rfl rfl rfl ?_
  rintro ty ⟨(o : DOut), _⟩ hp
  refine ⟨[], ?_⟩
  repeat' ((conv => whnf); first | refine toOb2 ?_ | refine And.intro (fun _ => ?_) (fun _ => ?_) | refine And.intro ?_ ?_ | refine toEx2 ?_ | refine toY ?_ | intro _)
  all_goals first | refine Ob2.mk ?_ | (show drawOk _ _ _ = true; exact rfl)
  all_goals (try simp only [allP, side, Ctr.reads, etas]); all_goals repeat' (first | exact sp1 | refine And.intro ?_ ?_)
  all_goals (try simp only [Ctr.reads, etas] at *)
  all_goals (try simp only [nbls] at *)
  all_goals first | done | with_reducible assumption | with_reducible rfl | omega | grind [mAnew]
theorem h_spec_Tick : Ctr.holds E 14 (.reads [aEnd] [aEnd, aRow .letter] (fun ((e : DEnd), _) => e.B) fun ((e : DEnd), _) => ((mTick e).1, (mTick e).2, ())) := by
  refine fn_ok prgOk (gcons h_spec_l17Copy (gcons h_spec_EndOk (gcons h_spec_Filled (gcons h_spec_Younger (gcons h_spec_Anew (gcons h_spec_l19Asks (gcons h_spec_l19Proves (gcons h_spec_TellAddrs (gcons h_spec_Push gnil))))))))) Tryz.func14 rfl rfl rfl rfl ?_
  rintro ty ⟨(e : DEnd), _⟩ (hp : e.B)
  have hB := hp
  obtain ⟨hb1, hb2, hb3, hb4, hb5, hb6, hb7⟩ := hp
  have h8 := fun h : mEndOk e = true => (endOk_split h).2.2.1
  have hnm := fun h : mEndOk e = true => endOk_nums h
  have hw1 := fun h : mEndOk e = true => now_w1 h
  have hyl : (mYounger e.halfs (e.now + 1)).length ≤ 1073741824 := Nat.le_trans (colL_le _ _ _) hb4
  refine ⟨[(6, { X := Nat, inv := fun i => i ≤ e.subs.length ∧ anyL (fun s : DSub => decide (s.tries ≥ 1000000000)) (e.subs.drop i) = mTired e, mu := fun i => e.subs.length - i, vk := [6], ov := fun i => [.a (.c (.leaf (.int (i : Int))))], bk := [], ob := fun i => [], rk := [], orr := fun i => [] }), (15, { X := Nat × List DSub × List DLetter, inv := fun z => z.1 ≤ e.subs.length ∧ z.2.1 = (e.subs.take z.1).map tickG ++ e.subs.drop z.1 ∧ z.2.2 ++ colL (tickF e) (e.subs.drop z.1) z.1 = colL (tickF e) e.subs 0 ∧ z.2.2.length ≤ z.1 ∧ (e.state ≠ 2 → z.1 = 0), mu := fun z => e.subs.length - z.1, vk := [7, 5, 13], ov := fun z => [.a (.c (.leaf (.int (z.1 : Int)))), .a (.c (.row 832)), .any], bk := [], ob := fun z => [], rk := [776, 832], orr := fun z => [⟨.sub, z.2.1, true, none⟩, ⟨.letter, z.2.2, true, none⟩] }), (28, { X := Nat × DEnd × List DLetter, inv := fun z => z.1 ≤ 3 ∧ z.2.1 = (pushN z.1 (mTick1 e)).1 ∧ z.2.2 = (mTickL e ++ mTellAddrs (mTick1 e)) ++ (pushN z.1 (mTick1 e)).2, mu := fun z => 3 - z.1, vk := [9, 5, 12, 52, 60, 132, 134], ov := fun z => [.a (.c (.leaf (.int (z.1 : Int)))), .a (.c (.row 8576)), .any, .any, .any, .any, .any], bk := [4], ob := fun z => [[.leaf (.int z.2.1.side), .leaf (.int z.2.1.state), .leaf (.int z.2.1.key), .leaf (.int z.2.1.peer), .leaf (.int z.2.1.policy.kind), .leaf (.int z.2.1.policy.many), .row 774, .row 775, .row 776, .row 3328, .leaf (.int z.2.1.bucket.rate), .leaf (.int z.2.1.bucket.burst), .leaf (.int z.2.1.bucket.hav), .leaf (.str z.2.1.out.text), .leaf (.int z.2.1.out.base), .leaf (.int z.2.1.out.sent), .leaf (.int z.2.1.out.room), .leaf (.int z.2.1.inn.read), .leaf (.str z.2.1.inn.ready), .row 787, .row 788, .row 789, .leaf (.int z.2.1.draw), .leaf (.int z.2.1.now), .leaf (.int z.2.1.pick)]], rk := [774, 775, 776, 3328, 787, 788, 789, 8576], orr := fun z => [⟨.addr, z.2.1.own, true, none⟩, ⟨.addr, z.2.1.far, true, none⟩, ⟨.sub, z.2.1.subs, true, none⟩, ⟨.half, z.2.1.halfs, true, none⟩, ⟨.piece, z.2.1.inn.list, true, none⟩, ⟨.int, z.2.1.done, true, none⟩, ⟨.int, z.2.1.over, true, none⟩, ⟨.letter, z.2.2, true, none⟩] })], ?_⟩
  repeat' ((conv => whnf); first | refine toOb2 ?_ | refine toY ?_ | refine And.intro (fun _ => ?_) (fun _ => ?_) | refine And.intro (toOb2 ?_) ?_ | refine And.intro (?_ : drawOk _ _ _ = true) ?_ | (refine And.intro ⟨?_, ?_⟩ ?_; fail) | intro _)
  (all_goals first | (refine Ob2.mk ?_; (try simp only [allP, side, Ctr.reads, etas] at *); (try simp only [nbls, imp_self, implies_true, and_self, and_true, true_and] at *); first | done | trivial | assumption | omega | grind [mTick]) | (show drawOk _ _ _ = true; exact rfl) | skip)
  (all_goals rename_i hcond)
  have hok : mEndOk e = true ∧ e.now < 1000000000 := by (try simp only [Ctr.reads, etas] at hcond); grind
  clear hcond
  conv => whnf
  refine And.intro ⟨(0 : Nat), Ob.mk ?_, ?_⟩ (fun (i : Nat) hi => ?_)
  · exact And.intro (Nat.zero_le _) rfl
  · conv => whnf
    refine Ob.mk ?_
    all_goals (try simp only [allP, side, Ctr.reads, etas]); all_goals repeat' (first | exact sp1 | refine And.intro ?_ ?_)
  obtain ⟨hi, hm⟩ := hi
  have hi : i ≤ e.subs.length := hi
  have hm : anyL (fun s : DSub => decide (s.tries ≥ 1000000000)) (e.subs.drop i) = mTired e := hm
  rcases Nat.lt_or_ge i e.subs.length with hlt | hge
  · obtain ⟨s, hx, hxi, hd⟩ := at_step e.subs i (ETy.zero .sub) hlt
    rw [hd, anyL] at hm
    have hw := w64_succ hlt hb3
    have hst2 := sub_nums hok.1 i s hxi
    repeat' ((conv => whnf); first | refine toOb2 ?_ | refine And.intro (fun _ => ?_) (fun _ => ?_) | refine And.intro (toOb2 ?_) ?_ | refine And.intro (?_ : drawOk _ _ _ = true) ?_ | refine toEx2 ?_ | refine toY ?_ | intro _)
    all_goals try (exfalso; exact Nat.lt_irrefl _ (Nat.lt_of_lt_of_le hlt (ge_of_dec (by assumption))))
    all_goals first | refine Ob2.mk ?_ | refine Ex2.of (i + 1) ?_ ?_ | skip
    all_goals try ((conv => whnf); refine Ob.mk ?_)
    all_goals (try simp only [allP, side, Ctr.reads, etas]); all_goals repeat' (first | exact sp1 | refine And.intro ?_ ?_)
    all_goals (try simp only [hx, Ctr.reads, etas] at *)
    all_goals (try simp only [nbls] at *)
    all_goals (try simp only [decide_eq_true_eq, decide_eq_false_iff_not] at *)
    all_goals first | done | omega | grind [mTick]
  · have hl : i = e.subs.length := by omega
    subst hl
    rw [List.drop_length, anyL] at hm
    have hcd : mEndOk e = true ∧ e.now < 1000000000 ∧ mTired e = false := ⟨hok.1, hok.2, hm.symm⟩
    have hw1 := hw1 hok.1
    have hfin : mTick e = mTickEnd (mTick1 e) (mTickL e) := by unfold mTick; rw [if_pos hcd]
    clear hm
    by_cases hst : e.state = 2
    · repeat' ((conv => whnf); first | refine toOb2 ?_ | refine toY ?_ | refine And.intro (fun _ => ?_) (fun _ => ?_) | refine And.intro (toOb2 ?_) ?_ | refine And.intro (?_ : drawOk _ _ _ = true) ?_ | (refine And.intro ⟨?_, ?_⟩ ?_; fail) | intro _)
      all_goals try (exfalso; have h9 := lt_of_dec (n := e.subs.length) (by assumption); omega)
      (all_goals first | (refine Ob2.mk ?_; (try simp only [allP, side, Ctr.reads, hw1, etas]); first | done | trivial | assumption | omega | grind) | (show drawOk _ _ _ = true; exact rfl) | skip)
      conv => whnf
      refine And.intro ⟨((0, e.subs, []) : Nat × List DSub × List DLetter), Ob.mk ?_, ?_⟩ (fun (z : Nat × List DSub × List DLetter) hi => ?_)
      · exact And.intro (Nat.zero_le _) (And.intro rfl (And.intro rfl (And.intro (Nat.le_refl _) (fun _ => rfl))))
      · conv => whnf
        refine Ob.mk ?_
        all_goals (try simp only [allP, side, Ctr.reads, etas]); all_goals repeat' (first | exact sp1 | refine And.intro ?_ ?_)
        all_goals first | done | rfl | exact trivial
      obtain ⟨i, R, acc⟩ := z
      obtain ⟨hi, hR, hm, hac, _⟩ := hi
      have hi : i ≤ e.subs.length := hi
      have hR : R = (e.subs.take i).map tickG ++ e.subs.drop i := hR
      have hm : acc ++ colL (tickF e) (e.subs.drop i) i = colL (tickF e) e.subs 0 := hm
      have hac : acc.length ≤ i := hac
      have hRl : R.length = e.subs.length := by rw [hR]; simp; omega
      rcases Nat.lt_or_ge i e.subs.length with hlt | hge
      · obtain ⟨s, hx, hxi, hd⟩ := at_step e.subs i (ETy.zero .sub) hlt
        rw [hd, colL] at hm
        have hw := w64_succ hlt hb3
        have hRg : R.getD i (ETy.zero .sub) = s := by rw [hR]; exact map_get _ _ _ _ _ hxi
        have hR1 : R.set i (tickG s) = (e.subs.take (i + 1)).map tickG ++ e.subs.drop (i + 1) := by rw [hR]; exact map_step _ _ _ _ hxi
        have hR2 : tickG s = s → R = (e.subs.take (i + 1)).map tickG ++ e.subs.drop (i + 1) := fun h => by rw [hR]; exact map_same _ _ _ _ hxi h
        have htd := tired_no hcd.2.2 i s hxi
        have hst2 := sub_nums hcd.1 i s hxi
        have hwt : w64 (s.tries + 1) = s.tries + 1 := w64_id (by omega) (by omega)
        have hjl : ∀ t, mJoinLetter e { s with tries := t } = mJoinLetter e s := fun t => rfl
        have hdl : ∀ t, mDoneLetter e { s with tries := t } = mDoneLetter e s := fun t => rfl
        have hjl2 : mJoinLetter ({ e with now := e.now + 1, bucket := mFilled e.bucket, halfs := mYounger e.halfs (e.now + 1), out := mAnew e.out, subs := R.set i { s with tries := s.tries + 1 } } : DEnd) s = mJoinLetter e s := rfl
        have hdl2 : mDoneLetter ({ e with now := e.now + 1, bucket := mFilled e.bucket, halfs := mYounger e.halfs (e.now + 1), out := mAnew e.out, subs := R.set i { s with tries := s.tries + 1 } } : DEnd) s = mDoneLetter e s := rfl
        clear hR hd hcd h8 hnm
        repeat' ((conv => whnf); first | refine toOb2 ?_ | refine And.intro (fun _ => ?_) (fun _ => ?_) | refine And.intro ?_ ?_ | refine toEx2 ?_ | refine toY ?_ | intro _)
        all_goals try (exfalso; have h9 := ge_of_dec (n := R.length) (by assumption); omega)
        all_goals try (exfalso; have h9 := ge_of_dec (n := e.subs.length) (by assumption); omega)
        all_goals first | refine Ob2.mk ?_ | (show drawOk _ _ _ = true; exact rfl) | refine Ex2.of ((i + 1, (if tickG s = s then R else R.set i (tickG s)), (match tickF e s i with | some l => acc ++ [l] | none => acc)) : Nat × List DSub × List DLetter) ?_ ?_ | skip
        all_goals try ((conv => whnf); refine Ob.mk ?_)
        all_goals (try simp only [allP, side, Ctr.reads, etas]); all_goals repeat' (first | exact sp1 | refine And.intro ?_ ?_)
        all_goals (try simp only [Int.toNat_natCast, hRg, ETy.frm, hwt, hw1, Ctr.reads, etas] at *)
        all_goals (try simp (disch := first | assumption | omega | (simp only [List.length_set]; omega)) only [set_get, List.set_set, hwt, hjl, hdl, hjl2, hdl2, List.length_set, etas] at *)
        all_goals (try simp only [nbls] at *)
        all_goals (try simp only [decide_eq_true_eq, decide_eq_false_iff_not] at *)
        all_goals first | done | omega | grind [tickG, tickF]
      · have hl : i = e.subs.length := by omega
        subst hl
        have hRm : R = e.subs.map tickG := by rw [hR]; simp
        clear hR
        rw [List.drop_length, colL, List.append_nil] at hm
        subst hm
        have hE : ({ e with now := e.now + 1, bucket := mFilled e.bucket, halfs := mYounger e.halfs (e.now + 1), out := mAnew e.out, subs := R } : DEnd) = mTick1 e := by rw [hRm]; unfold mTick1; rw [if_pos hst]; rfl
        have hL : colL (tickF e) e.subs 0 = mTickL e := by unfold mTickL; rw [if_pos hst]
        have h1B := mTick1_B hB
        have hlL : (mTickL e).length ≤ 1073741824 := by rw [← hL]; omega
        have hsl := h8 hcd.1
        have hs8 : (mTickL e).length ≤ 8 := by rw [← hL]; omega
        have hA6 := tell_small hcd.1
        clear hRm hge
        repeat' ((conv => whnf); first | refine toOb2 ?_ | (refine fun y hy => ?_; (try simp only [Ctr.reads, hw1, hE, hL, etas] at hy); subst hy) | refine And.intro (fun _ => ?_) (fun _ => ?_) | refine And.intro (toOb2 ?_) ?_ | refine And.intro (?_ : drawOk _ _ _ = true) ?_ | (refine And.intro ⟨?_, ?_⟩ ?_; fail) | intro _)
        all_goals try (exfalso; simp only [Bool.cond_false_right, Bool.and_eq_true, decide_eq_true_eq] at *; omega)
        all_goals first | (refine Ob2.mk ?_; (try simp only [allP, side, Ctr.reads, hw1, hE, hL, etas]); first | done | trivial | assumption | omega | ((repeat' (first | assumption | refine And.intro ?_ ?_ | omega | intro _)); done) | grind) | (show drawOk _ _ _ = true; exact rfl) | skip
        conv => whnf
        refine And.intro ⟨((0, mTick1 e, (mTickL e ++ mTellAddrs (mTick1 e))) : Nat × DEnd × List DLetter), Ob.mk ?_, ?_⟩ (fun (z : Nat × DEnd × List DLetter) hi => ?_)
        · exact And.intro (Nat.zero_le _) (And.intro rfl (by simp [pushN]))
        · conv => whnf
          refine Ob.mk ?_
          all_goals (try simp only [allP, side, Ctr.reads, etas]); all_goals repeat' (first | exact sp1 | refine And.intro ?_ ?_)
          all_goals first | done | rfl | exact trivial | (rw [← hE]; done) | (show (_ : Int) = _; rw [← hE]; done) | (simp only [← hE]; done) | grind
        obtain ⟨i, a, acc⟩ := z
        obtain ⟨hi, ha, hc⟩ := hi
        have hi : i ≤ 3 := hi
        have ha : a = (pushN i (mTick1 e)).1 := ha
        have hc : acc = (mTickL e ++ mTellAddrs (mTick1 e)) ++ (pushN i (mTick1 e)).2 := hc
        have hab : a.B := by rw [ha]; exact pushN_B h1B i
        have hal := mPush_len1 a
        have hpi := pushN_len (mTick1 e) i
        have hcl : acc.length ≤ 1073741824 := by rw [hc]; simp only [List.length_append]; omega
        have hn : pushN (i + 1) (mTick1 e) = ((mPush a).1, (pushN i (mTick1 e)).2 ++ (mPush a).2) := by rw [ha]; rfl
        have hn2 : acc ++ (mPush a).2 = (mTickL e ++ mTellAddrs (mTick1 e)) ++ (pushN (i + 1) (mTick1 e)).2 := by rw [hn, hc, List.append_assoc]
        have hn1 : (mPush a).1 = (pushN (i + 1) (mTick1 e)).1 := by rw [hn]
        have hw : i < 3 → w64 ((i : Int) + 1) = ((i + 1 : Nat) : Int) := fun h => w64_succ h (by decide)
        rcases Nat.lt_or_ge i 3 with hlt | hge
        · have hw := hw hlt
          clear ha hc hE
          repeat' ((conv => whnf); first | refine toOb2 ?_ | refine And.intro (fun _ => ?_) (fun _ => ?_) | refine And.intro ?_ ?_ | refine toEx2 ?_ | refine toY ?_ | intro _)
          all_goals try (exfalso; have h9 := of_decide_eq_false (by assumption); revert h9; simp; omega)
          all_goals first | refine Ob2.mk ?_ | refine Ex2.of ((i + 1, (mPush a).1, acc ++ (mPush a).2) : Nat × DEnd × List DLetter) ?_ ?_ | skip
          all_goals try ((conv => whnf); refine Ob.mk ?_)
          all_goals (try simp only [allP, side, Ctr.reads, etas]); all_goals repeat' (first | exact sp1 | refine And.intro ?_ ?_)
          all_goals (try simp only [Ctr.reads, etas] at *)
          all_goals first | done | omega | rfl | exact hw.symm | (refine And.intro (And.intro (by omega) (And.intro hn1 hn2)) (by omega)) | grind
        · have hl : i = 3 := by omega
          subst hl
          repeat' ((conv => whnf); first | refine toOb2 ?_ | refine And.intro (fun _ => ?_) (fun _ => ?_) | refine And.intro ?_ ?_ | refine toEx2 ?_ | refine toY ?_ | intro _)
          all_goals try (exfalso; have h9 := of_decide_eq_true (by assumption); revert h9; simp; done)
          all_goals first | refine Ob2.mk ?_ | skip
          all_goals (try simp only [allP, side, Ctr.reads, hfin, mTickEnd, etas])
          all_goals first | done | omega | (rw [ha, hc]; done) | grind
    · repeat' ((conv => whnf); first | refine toOb2 ?_ | refine toY ?_ | refine And.intro (fun _ => ?_) (fun _ => ?_) | refine And.intro (toOb2 ?_) ?_ | refine And.intro (?_ : drawOk _ _ _ = true) ?_ | (refine And.intro ⟨?_, ?_⟩ ?_; fail) | intro _)
      all_goals try (exfalso; have h9 := lt_of_dec (n := e.subs.length) (by assumption); omega)
      (all_goals first | (refine Ob2.mk ?_; (try simp only [allP, side, Ctr.reads, hw1, etas]); first | done | trivial | assumption | omega | grind) | (show drawOk _ _ _ = true; exact rfl) | skip)
      conv => whnf
      refine And.intro ⟨((0, e.subs, []) : Nat × List DSub × List DLetter), Ob.mk ?_, ?_⟩ (fun (z : Nat × List DSub × List DLetter) hi => ?_)
      · exact And.intro (Nat.zero_le _) (And.intro rfl (And.intro rfl (And.intro (Nat.le_refl _) (fun _ => rfl))))
      · conv => whnf
        refine Ob.mk ?_
        all_goals (try simp only [allP, side, Ctr.reads, etas]); all_goals repeat' (first | exact sp1 | refine And.intro ?_ ?_)
        all_goals first | done | rfl | exact trivial
      obtain ⟨i, R, acc⟩ := z
      obtain ⟨_, hR, _, hac, h0⟩ := hi
      obtain rfl : i = 0 := h0 hst
      have hR : R = (e.subs.take 0).map tickG ++ e.subs.drop 0 := hR
      have hR0 : R = e.subs := by rw [hR]; simp
      have htl : (mTickL e).length = 0 := by unfold mTickL; rw [if_neg hst]; rfl
      have hac : acc.length ≤ 0 := hac
      obtain rfl : acc = mTickL e := by
        rw [List.length_eq_zero_iff.1 htl]
        exact List.length_eq_zero_iff.1 (by omega)
      have hE : ({ e with now := e.now + 1, bucket := mFilled e.bucket, halfs := mYounger e.halfs (e.now + 1), out := mAnew e.out, subs := R } : DEnd) = mTick1 e := by rw [hR0]; unfold mTick1; rw [if_neg hst]; rfl
      have h1B := mTick1_B hB
      have hlL : (mTickL e).length ≤ 1073741824 := by rw [htl]; decide
      have hsl := h8 hcd.1
      have hs8 : (mTickL e).length ≤ 8 := by rw [htl]; decide
      have hA6 := tell_small hcd.1
      clear hR0 hR
      repeat' ((conv => whnf); first | refine toOb2 ?_ | (refine fun y hy => ?_; (try simp only [Ctr.reads, hw1, hE, etas] at hy); subst hy) | refine And.intro (fun _ => ?_) (fun _ => ?_) | refine And.intro (toOb2 ?_) ?_ | refine And.intro (?_ : drawOk _ _ _ = true) ?_ | (refine And.intro ⟨?_, ?_⟩ ?_; fail) | intro _)
      all_goals try (exfalso; simp only [Bool.cond_false_right, Bool.and_eq_true, decide_eq_true_eq, beq_iff_eq] at *; omega)
      all_goals first | (refine Ob2.mk ?_; (try simp only [allP, side, Ctr.reads, hw1, hE, etas]); first | done | trivial | assumption | omega | ((repeat' (first | assumption | refine And.intro ?_ ?_ | omega | intro _)); done) | grind) | (show drawOk _ _ _ = true; exact rfl) | skip
      conv => whnf
      refine And.intro ⟨((0, mTick1 e, (mTickL e ++ mTellAddrs (mTick1 e))) : Nat × DEnd × List DLetter), Ob.mk ?_, ?_⟩ (fun (z : Nat × DEnd × List DLetter) hi => ?_)
      · exact And.intro (Nat.zero_le _) (And.intro rfl (by simp [pushN]))
      · conv => whnf
        refine Ob.mk ?_
        all_goals (try simp only [allP, side, Ctr.reads, etas]); all_goals repeat' (first | exact sp1 | refine And.intro ?_ ?_)
        all_goals first | done | rfl | exact trivial | (rw [← hE]; done) | (show (_ : Int) = _; rw [← hE]; done) | (simp only [← hE]; done) | grind
      obtain ⟨i, a, acc⟩ := z
      obtain ⟨hi, ha, hc⟩ := hi
      have hi : i ≤ 3 := hi
      have ha : a = (pushN i (mTick1 e)).1 := ha
      have hc : acc = (mTickL e ++ mTellAddrs (mTick1 e)) ++ (pushN i (mTick1 e)).2 := hc
      have hab : a.B := by rw [ha]; exact pushN_B h1B i
      have hal := mPush_len1 a
      have hpi := pushN_len (mTick1 e) i
      have hcl : acc.length ≤ 1073741824 := by rw [hc]; simp only [List.length_append]; omega
      have hn : pushN (i + 1) (mTick1 e) = ((mPush a).1, (pushN i (mTick1 e)).2 ++ (mPush a).2) := by rw [ha]; rfl
      have hn2 : acc ++ (mPush a).2 = (mTickL e ++ mTellAddrs (mTick1 e)) ++ (pushN (i + 1) (mTick1 e)).2 := by rw [hn, hc, List.append_assoc]
      have hn1 : (mPush a).1 = (pushN (i + 1) (mTick1 e)).1 := by rw [hn]
      have hw : i < 3 → w64 ((i : Int) + 1) = ((i + 1 : Nat) : Int) := fun h => w64_succ h (by decide)
      rcases Nat.lt_or_ge i 3 with hlt | hge
      · have hw := hw hlt
        clear ha hc hE
        repeat' ((conv => whnf); first | refine toOb2 ?_ | refine And.intro (fun _ => ?_) (fun _ => ?_) | refine And.intro ?_ ?_ | refine toEx2 ?_ | refine toY ?_ | intro _)
        all_goals try (exfalso; have h9 := of_decide_eq_false (by assumption); revert h9; simp; omega)
        all_goals first | refine Ob2.mk ?_ | refine Ex2.of ((i + 1, (mPush a).1, acc ++ (mPush a).2) : Nat × DEnd × List DLetter) ?_ ?_ | skip
        all_goals try ((conv => whnf); refine Ob.mk ?_)
        all_goals (try simp only [allP, side, Ctr.reads, etas]); all_goals repeat' (first | exact sp1 | refine And.intro ?_ ?_)
        all_goals (try simp only [Ctr.reads, etas] at *)
        all_goals first | done | omega | rfl | exact hw.symm | (refine And.intro (And.intro (by omega) (And.intro hn1 hn2)) (by omega)) | grind
      · have hl : i = 3 := by omega
        subst hl
        repeat' ((conv => whnf); first | refine toOb2 ?_ | refine And.intro (fun _ => ?_) (fun _ => ?_) | refine And.intro ?_ ?_ | refine toEx2 ?_ | refine toY ?_ | intro _)
        all_goals try (exfalso; have h9 := of_decide_eq_true (by assumption); revert h9; simp; done)
        all_goals first | refine Ob2.mk ?_ | skip
        all_goals (try simp only [allP, side, Ctr.reads, hfin, mTickEnd, etas])
        all_goals first | done | omega | (rw [ha, hc]; done) | grind
theorem h_spec_WantedOf : Ctr.holds E 130 (.reads [aPolicy, aRow .addr, aRow .addr] [aRow .road] (fun ((p : DPolicy), (own : List DAddr), (far : List DAddr), _) => own.length ≤ 1073741824 ∧ far.length ≤ 1073741824) fun ((p : DPolicy), (own : List DAddr), (far : List DAddr), _) => (mWanted p own far, ())) := by
  refine fn_ok prgOk (gcons h_spec_PolicyOk (gcons h_spec_l01In gnil)) Tryz.func130 rfl rfl rfl rfl ?_
  rintro ty ⟨(p : DPolicy), (own : List DAddr), (far : List DAddr), _⟩ (hp : own.length ≤ 1073741824 ∧ far.length ≤ 1073741824)
  obtain ⟨hp1, hp2⟩ := hp
  refine ⟨[(6, { X := Nat × List DRoad, inv := fun z => z.1 ≤ own.length ∧ meshOut far (own.drop z.1) z.2 = meshOut far own [] ∧ z.2.length ≤ 8, mu := fun z => own.length - z.1, vk := [8, 7, 12], ov := fun z => [.a (.c (.leaf (.int (z.1 : Int)))), .a (.c (.row 768)), .any], bk := [], ob := fun z => [], rk := [768], orr := fun z => [⟨.road, z.2, true, none⟩] }), (9, { X := Nat × Nat × List DRoad, inv := fun z => z.2.1 ≤ far.length ∧ z.2.2.length ≤ 8, mu := fun z => far.length - z.2.1, vk := [9, 7], ov := fun z => [.a (.c (.leaf (.int (z.2.1 : Int)))), .a (.c (.row 768))], bk := [], ob := fun z => [], rk := [768], orr := fun z => [⟨.road, z.2.2, true, none⟩], rel := some fun a b => a.1 = b.1 ∧ meshIn (gA own b.1) (far.drop b.2.1) b.2.2 = meshIn (gA own a.1) (far.drop a.2.1) a.2.2 }), (17, { X := Nat × List DRoad, inv := fun z => z.1 ≤ mMany p ∧ z.2 = manyR (gA own 0) (gA far 0) z.1, mu := fun z => mMany p - z.1, vk := [11, 7, 12], ov := fun z => [.a (.c (.leaf (.int (z.1 : Int)))), .a (.c (.row 768)), .any], bk := [], ob := fun z => [], rk := [768], orr := fun z => [⟨.road, z.2, true, none⟩] })], ?_⟩
  repeat' ((conv => whnf); first | refine toOb2 ?_ | refine toY ?_ | refine And.intro (fun _ => ?_) (fun _ => ?_) | refine And.intro (toOb2 ?_) ?_ | refine And.intro (?_ : drawOk _ _ _ = true) ?_ | (refine And.intro ⟨?_, ?_⟩ ?_; fail) | intro _)
  (all_goals first | (refine Ob2.mk ?_; (try simp only [allP, side, Ctr.reads, etas] at *); (try simp only [nbls, imp_self, implies_true, and_self, and_true, true_and] at *); first | done | trivial | assumption | omega | grind [mWanted]) | (show drawOk _ _ _ = true; exact rfl) | skip)
  · rename_i hcond hk
    have hin : mPolicyOk p = true ∧ (1 ≤ (own.length : Int) ∧ (own.length : Int) ≤ 6) ∧ 1 ≤ (far.length : Int) ∧ (far.length : Int) ≤ 6 := by
      (try simp only [Ctr.reads, etas] at hcond)
      grind [mIn]
    have hpm := policy_many hin.1
    conv => whnf
    refine And.intro ⟨((0, []) : Nat × List DRoad), Ob.mk ?_, ?_⟩ (fun (z : Nat × List DRoad) hi => ?_)
    · exact And.intro (Nat.zero_le _) (And.intro rfl (Nat.zero_le _))
    · conv => whnf
      refine Ob.mk ?_
      all_goals (try simp only [allP, side, Ctr.reads, etas]); all_goals repeat' (first | exact sp1 | refine And.intro ?_ ?_)
      all_goals first | done | rfl
    obtain ⟨i, acc⟩ := z
    obtain ⟨hi, hm, hac⟩ := hi
    have hi : i ≤ own.length := hi
    have hm : meshOut far (own.drop i) acc = meshOut far own [] := hm
    have hac : acc.length ≤ 8 := hac
    rcases Nat.lt_or_ge i own.length with hlt | hge
    · obtain ⟨x, hx, hxi, hd⟩ := at_step own i (ETy.zero .addr) hlt
      have hgx : gA own i = x := by rw [← hx, Int.toNat_natCast]
      rw [hd, meshOut, ← hgx] at hm
      have hw := w64_succ hlt hp1
      repeat' ((conv => whnf); first | refine toOb2 ?_ | refine toY ?_ | refine And.intro (fun _ => ?_) (fun _ => ?_) | refine And.intro (toOb2 ?_) ?_ | refine And.intro (?_ : drawOk _ _ _ = true) ?_ | (refine And.intro ⟨?_, ?_⟩ ?_; fail) | intro _)
      all_goals try (exfalso; exact Nat.lt_irrefl _ (Nat.lt_of_lt_of_le hlt (ge_of_dec (by assumption))))
      (all_goals first | (refine Ob2.mk ?_; (try simp only [allP, side, Ctr.reads, etas, Int.toNat_natCast] at *); first | done | trivial | assumption | omega | grind) | (show drawOk _ _ _ = true; exact rfl) | skip)
      conv => whnf
      refine ⟨((i, 0, acc) : Nat × Nat × List DRoad), And.intro (And.intro (Ob.mk ?_) ?_) (fun (z : Nat × Nat × List DRoad) hz hr => ?_)⟩
      · exact And.intro (And.intro (Nat.zero_le _) hac) (And.intro rfl rfl)
      · conv => whnf
        refine Ob.mk ?_
        all_goals (try simp only [allP, side, Ctr.reads, etas]); all_goals repeat' (first | exact sp1 | refine And.intro ?_ ?_)
        all_goals first | done | (simp; done) | rfl
      obtain ⟨k, j, acc2⟩ := z
      obtain ⟨hr1, hr2⟩ := hr
      have hr1 : i = k := hr1
      subst hr1
      have hr2 : meshIn (gA own i) (far.drop j) acc2 = meshIn (gA own i) far acc := hr2
      obtain ⟨hj, hac2⟩ := hz
      have hj : j ≤ far.length := hj
      have hac2 : acc2.length ≤ 8 := hac2
      rcases Nat.lt_or_ge j far.length with hlt2 | hge2
      · obtain ⟨y, hy, hyi, hd2⟩ := at_step far j (ETy.zero .addr) hlt2
        have hr3 := hr2
        rw [hd2, meshIn, hgx] at hr3
        have hw2 := w64_succ hlt2 hp2
        have hfull := fun h => meshIn_full (gA own i) (far.drop j) acc2 h
        clear hd hd2 hxi hyi
        repeat' ((conv => whnf); first | refine toOb2 ?_ | refine And.intro (fun _ => ?_) (fun _ => ?_) | refine And.intro ?_ ?_ | refine toEx2 ?_ | refine toY ?_ | intro _)
        all_goals try (exfalso; exact Nat.lt_irrefl _ (Nat.lt_of_lt_of_le hlt2 (ge_of_dec (by assumption))))
        all_goals first | refine Ob2.mk ?_ | (show drawOk _ _ _ = true; exact rfl) | refine Ex2.of ((i, j + 1, if acc2.length < 8 then acc2 ++ [⟨x.addr, y.addr, 0⟩] else acc2) : Nat × Nat × List DRoad) ?_ ?_ | refine Ex2.of ((i + 1, acc2) : Nat × List DRoad) ?_ ?_ | skip
        all_goals try ((conv => whnf); refine Ob.mk ?_)
        all_goals (try simp only [allP, side, Ctr.reads, etas]); all_goals repeat' (first | exact sp1 | refine And.intro ?_ ?_)
        all_goals (try simp only [hx, hy, ETy.frm, hgx, Int.toNat_natCast, Ctr.reads, etas] at *)
        all_goals (try simp only [nbls] at *)
        all_goals (try simp only [decide_eq_true_eq, decide_eq_false_iff_not] at *)
        all_goals first | done | omega | grind
      · have hl : j = far.length := by omega
        subst hl
        rw [List.drop_length, meshIn] at hr2
        repeat' ((conv => whnf); first | refine toOb2 ?_ | refine And.intro (fun _ => ?_) (fun _ => ?_) | refine And.intro ?_ ?_ | refine toEx2 ?_ | refine toY ?_ | intro _)
        all_goals try (exfalso; have h9 := lt_of_dec (n := far.length) (by assumption); omega)
        all_goals try (exfalso; simp only [Bool.cond_false_right, Bool.and_eq_true, decide_eq_true_eq] at *; omega)
        all_goals first | refine Ob2.mk ?_ | (show drawOk _ _ _ = true; exact rfl) | refine Ex2.of ((i + 1, acc2) : Nat × List DRoad) ?_ ?_ | skip
        all_goals try ((conv => whnf); refine Ob.mk ?_)
        all_goals (try simp only [allP, side, Ctr.reads, etas]); all_goals repeat' (first | exact sp1 | refine And.intro ?_ ?_)
        all_goals (try simp only [hgx, Ctr.reads, etas] at *)
        all_goals (try simp only [nbls] at *)
        all_goals (try simp only [decide_eq_true_eq, decide_eq_false_iff_not] at *)
        all_goals first | done | omega | grind
    · have hl : i = own.length := by omega
      subst hl
      rw [List.drop_length, meshOut] at hm
      repeat' ((conv => whnf); first | refine toOb2 ?_ | refine And.intro (fun _ => ?_) (fun _ => ?_) | refine And.intro ?_ ?_ | refine toEx2 ?_ | refine toY ?_ | intro _)
      all_goals try (exfalso; exact Nat.lt_irrefl _ (Nat.lt_of_lt_of_le (lt_of_dec (by assumption)) hge))
      all_goals first | refine Ob2.mk ?_ | refine Ex2.of ((own.length, acc)) ?_ ?_ | skip
      all_goals try ((conv => whnf); refine Ob.mk ?_)
      all_goals (try simp only [allP, side, Ctr.reads, etas]); all_goals repeat' (first | exact sp1 | refine And.intro ?_ ?_)
      all_goals (try simp only [Ctr.reads, etas] at *)
      all_goals (try simp only [nbls] at *)
      all_goals (try simp only [decide_eq_true_eq, decide_eq_false_iff_not] at *)
      all_goals first | done | omega | grind [mWanted]
  · rename_i hcond hk hk2
    have hin : mPolicyOk p = true ∧ (1 ≤ (own.length : Int) ∧ (own.length : Int) ≤ 6) ∧ 1 ≤ (far.length : Int) ∧ (far.length : Int) ≤ 6 := by
      (try simp only [Ctr.reads, etas] at hcond)
      grind [mIn]
    have hpm := policy_many hin.1
    conv => whnf
    refine And.intro ⟨((0, []) : Nat × List DRoad), Ob.mk ?_, ?_⟩ (fun (z : Nat × List DRoad) hi => ?_)
    · exact And.intro (Nat.zero_le _) rfl
    · conv => whnf
      refine Ob.mk ?_
      all_goals (try simp only [allP, side, Ctr.reads, etas]); all_goals repeat' (first | exact sp1 | refine And.intro ?_ ?_)
      all_goals first | done | rfl
    obtain ⟨i, acc⟩ := z
    obtain ⟨hi, hm⟩ := hi
    have hi : i ≤ mMany p := hi
    have hm : acc = manyR (gA own 0) (gA far 0) i := hm
    have hml := manyR_len (gA own 0) (gA far 0) i
    rw [← hm] at hml
    have hms : manyR (gA own 0) (gA far 0) (i + 1) = acc ++ [⟨(gA own 0).addr, (gA far 0).addr, (i : Int)⟩] := by rw [hm]; rfl
    have hw := fun h : i < 8 => w64_succ (m := 8) h (by decide)
    repeat' ((conv => whnf); first | refine toOb2 ?_ | refine And.intro (fun _ => ?_) (fun _ => ?_) | refine And.intro ?_ ?_ | refine toEx2 ?_ | refine toY ?_ | intro _)
    all_goals first | refine Ob2.mk ?_ | (show drawOk _ _ _ = true; exact rfl) | refine Ex2.of ((i + 1, acc ++ [⟨(gA own 0).addr, (gA far 0).addr, (i : Int)⟩]) : Nat × List DRoad) ?_ ?_ | skip
    all_goals try ((conv => whnf); refine Ob.mk ?_)
    all_goals (try simp only [allP, side, Ctr.reads, etas]); all_goals repeat' (first | exact sp1 | refine And.intro ?_ ?_)
    all_goals (try simp only [ETy.frm, show (0 : Int).toNat = 0 from rfl, Ctr.reads, etas] at *)
    all_goals (try simp only [nbls] at *)
    all_goals (try simp only [decide_eq_true_eq, decide_eq_false_iff_not] at *)
    all_goals first | done | omega | (refine And.intro (And.intro (by omega) hms.symm) (by omega)) | grind [mWanted, mIn]
  · rename_i hcond hk hk2
    have hin : mPolicyOk p = true ∧ (1 ≤ (own.length : Int) ∧ (own.length : Int) ≤ 6) ∧ 1 ≤ (far.length : Int) ∧ (far.length : Int) ≤ 6 := by
      (try simp only [Ctr.reads, etas] at hcond)
      grind [mIn]
    have hpm := policy_many hin.1
    conv => whnf
    refine And.intro ⟨((0, []) : Nat × List DRoad), Ob.mk ?_, ?_⟩ (fun (z : Nat × List DRoad) hi => ?_)
    · exact And.intro (Nat.zero_le _) rfl
    · conv => whnf
      refine Ob.mk ?_
      all_goals (try simp only [allP, side, Ctr.reads, etas]); all_goals repeat' (first | exact sp1 | refine And.intro ?_ ?_)
      all_goals first | done | rfl
    obtain ⟨i, acc⟩ := z
    obtain ⟨hi, hm⟩ := hi
    have hi : i ≤ mMany p := hi
    have hm : acc = manyR (gA own 0) (gA far 0) i := hm
    have hml := manyR_len (gA own 0) (gA far 0) i
    rw [← hm] at hml
    have hms : manyR (gA own 0) (gA far 0) (i + 1) = acc ++ [⟨(gA own 0).addr, (gA far 0).addr, (i : Int)⟩] := by rw [hm]; rfl
    have hw := fun h : i < 8 => w64_succ (m := 8) h (by decide)
    repeat' ((conv => whnf); first | refine toOb2 ?_ | refine And.intro (fun _ => ?_) (fun _ => ?_) | refine And.intro ?_ ?_ | refine toEx2 ?_ | refine toY ?_ | intro _)
    all_goals first | refine Ob2.mk ?_ | (show drawOk _ _ _ = true; exact rfl) | refine Ex2.of ((i + 1, acc ++ [⟨(gA own 0).addr, (gA far 0).addr, (i : Int)⟩]) : Nat × List DRoad) ?_ ?_ | skip
    all_goals try ((conv => whnf); refine Ob.mk ?_)
    all_goals (try simp only [allP, side, Ctr.reads, etas]); all_goals repeat' (first | exact sp1 | refine And.intro ?_ ?_)
    all_goals (try simp only [ETy.frm, show (0 : Int).toNat = 0 from rfl, Ctr.reads, etas] at *)
    all_goals (try simp only [nbls] at *)
    all_goals (try simp only [decide_eq_true_eq, decide_eq_false_iff_not] at *)
    all_goals first | done | omega | (refine And.intro (And.intro (by omega) hms.symm) (by omega)) | grind [mWanted, mIn]
theorem h_spec_l12Has : Ctr.holds E 210 (.reads [aRow .road, aRoad] [aBool] (fun ((l : List DRoad), (r : DRoad), _) => l.length ≤ 1073741824) fun ((l : List DRoad), (r : DRoad), _) => (mHasRoad l r, ())) := by
  refine fn_ok prgOk gnil Tryz.func210 rfl rfl rfl rfl ?_
  rintro ty ⟨(l : List DRoad), (r : DRoad), _⟩ (hp : l.length ≤ 1073741824)
  refine ⟨[(2, { X := Nat, inv := fun i => i ≤ l.length ∧ anyL (fun x : DRoad => decide (x = r)) (l.drop i) = mHasRoad l r, mu := fun i => l.length - i, vk := [5], ov := fun i => [.a (.c (.leaf (.int (i : Int))))], bk := [], ob := fun i => [], rk := [], orr := fun i => [] })], ?_⟩
  conv => whnf
  refine And.intro ⟨(0 : Nat), Ob.mk ?_, ?_⟩ (fun (i : Nat) hi => ?_)
  · exact And.intro (Nat.zero_le _) rfl
  · conv => whnf
    refine Ob.mk ?_
    all_goals (try simp only [allP, side, Ctr.reads, etas]); all_goals repeat' (first | exact sp1 | refine And.intro ?_ ?_)
  obtain ⟨hi, hm⟩ := hi
  have hi : i ≤ l.length := hi
  have hm : anyL (fun x : DRoad => decide (x = r)) (l.drop i) = mHasRoad l r := hm
  rcases Nat.lt_or_ge i l.length with hlt | hge
  · obtain ⟨x, hx, hxi, hd⟩ := at_step l i (ETy.zero .road) hlt
    rw [hd, anyL] at hm
    have hw := w64_succ hlt (hp)
    repeat' ((conv => whnf); first | refine toOb2 ?_ | refine And.intro (fun _ => ?_) (fun _ => ?_) | refine And.intro ?_ ?_ | refine toEx2 ?_ | intro _)
    all_goals try (exfalso; exact Nat.lt_irrefl _ (Nat.lt_of_lt_of_le hlt (ge_of_dec (by assumption))))
    all_goals first | refine Ob2.mk ?_ | refine Ex2.of (i + 1) ?_ ?_ | skip
    all_goals try ((conv => whnf); refine Ob.mk ?_)
    all_goals (try simp only [allP, side, Ctr.reads, etas]); all_goals repeat' (first | exact sp1 | refine And.intro ?_ ?_)
    all_goals (try simp only [hx, Ctr.reads, etas] at *)
    all_goals first | done | grind [mHasRoad, dRoad_iff]
  · have hl : i = l.length := by omega
    subst hl
    rw [List.drop_length, anyL] at hm
    repeat' ((conv => whnf); first | refine toOb2 ?_ | refine And.intro (fun _ => ?_) (fun _ => ?_) | refine And.intro ?_ ?_ | refine toEx2 ?_ | intro _)
    all_goals try (exfalso; exact Nat.lt_irrefl _ (Nat.lt_of_lt_of_le (lt_of_dec (by assumption)) hge))
    all_goals first | refine Ob2.mk ?_ | refine Ex2.of (l.length + 1) ?_ ?_ | skip
    all_goals try ((conv => whnf); refine Ob.mk ?_)
    all_goals (try simp only [allP, side, Ctr.reads, etas]); all_goals repeat' (first | exact sp1 | refine And.intro ?_ ?_)
    all_goals (try simp only [Ctr.reads, etas] at *)
    all_goals first | done | grind [mHasRoad, dRoad_iff]
theorem h_spec_MissingOf : Ctr.holds E 129 (.reads [aRow .road, aRow .road] [aRow .road] (fun ((w : List DRoad), (h : List DRoad), _) => w.length ≤ 1073741824 ∧ h.length ≤ 1073741824) fun ((w : List DRoad), (h : List DRoad), _) => (mMissing w h, ())) := by
  refine fn_ok prgOk (gcons h_spec_l12Has gnil) Tryz.func129 rfl rfl rfl rfl ?_
  rintro ty ⟨(w : List DRoad), (h : List DRoad), _⟩ (hp : w.length ≤ 1073741824 ∧ h.length ≤ 1073741824)
  obtain ⟨hp1, hp2⟩ := hp
  by_cases hs : w.length ≤ 64 ∧ h.length ≤ 64
  · refine ⟨[(3, { X := Nat × List DRoad, inv := fun x => x.1 ≤ w.length ∧ x.2 ++ colL (fMiss h) (w.drop x.1) x.1 = colL (fMiss h) w 0 ∧ x.2.length ≤ x.1, mu := fun x => w.length - x.1, vk := [6, 5, 7], ov := fun x => [.a (.c (.leaf (.int (x.1 : Int)))), .a (.c (.row 448)), .any], bk := [], ob := fun x => [], rk := [448], orr := fun x => [⟨.road, x.2, true, none⟩] })], ?_⟩
    conv => whnf
    refine And.intro ⟨((0, []) : Nat × List DRoad), Ob.mk ?_, ?_⟩ (fun (x : Nat × List DRoad) hi => ?_)
    · exact And.intro (Nat.zero_le _) (And.intro (rfl) (Nat.le_refl _))
    · conv => whnf
      refine Ob.mk ?_
      all_goals (try simp only [allP, side, Ctr.reads, etas]); all_goals repeat' (first | exact sp1 | refine And.intro ?_ ?_)
    obtain ⟨i, acc⟩ := x
    obtain ⟨hi, hm⟩ := hi
    have hi : i ≤ w.length := hi
    have hm : acc ++ colL (fMiss h) (w.drop i) i = colL (fMiss h) w 0 ∧ acc.length ≤ i := hm
    rcases Nat.lt_or_ge i w.length with hlt | hge
    · obtain ⟨x, hx, hxi, hd⟩ := at_step w i (ETy.zero .road) hlt
      rw [hd, colL] at hm
      have hw := w64_succ hlt (hp1)
      repeat' ((conv => whnf); first | refine toOb2 ?_ | refine And.intro (fun _ => ?_) (fun _ => ?_) | refine And.intro ?_ ?_ | refine toEx2 ?_ | refine toY ?_ | intro _)
      all_goals try (exfalso; exact Nat.lt_irrefl _ (Nat.lt_of_lt_of_le hlt (ge_of_dec (by assumption))))
      all_goals first | refine Ob2.mk ?_ | refine Ex2.of ((i + 1, if mHasRoad h x = false then acc ++ [x] else acc)) ?_ ?_ | skip
      all_goals try ((conv => whnf); refine Ob.mk ?_)
      all_goals (try simp only [allP, side, Ctr.reads, etas]); all_goals repeat' (first | exact sp1 | refine And.intro ?_ ?_)
      all_goals (try simp only [hx, ETy.frm, Ctr.reads, etas] at *)
      all_goals (try simp only [nbls] at *)
      all_goals (try simp only [decide_eq_true_eq, decide_eq_false_iff_not] at *)
      all_goals first | done | grind [fMiss, mMissing]
    · have hl : i = w.length := by omega
      subst hl
      rw [List.drop_length, colL] at hm
      repeat' ((conv => whnf); first | refine toOb2 ?_ | refine And.intro (fun _ => ?_) (fun _ => ?_) | refine And.intro ?_ ?_ | refine toEx2 ?_ | refine toY ?_ | intro _)
      all_goals try (exfalso; exact Nat.lt_irrefl _ (Nat.lt_of_lt_of_le (lt_of_dec (by assumption)) hge))
      all_goals first | refine Ob2.mk ?_ | refine Ex2.of ((w.length, acc)) ?_ ?_ | skip
      all_goals try ((conv => whnf); refine Ob.mk ?_)
      all_goals (try simp only [allP, side, Ctr.reads, etas]); all_goals repeat' (first | exact sp1 | refine And.intro ?_ ?_)
      all_goals (try simp only [ETy.frm, Ctr.reads, etas] at *)
      all_goals (try simp only [List.append_nil] at *)
      all_goals (try simp only [nbls] at *)
      all_goals (try simp only [decide_eq_true_eq, decide_eq_false_iff_not] at *)
      all_goals first | done | grind [fMiss, mMissing]
  · refine ⟨[(3, { X := Nat, inv := fun i => i = 0, mu := fun i => 0, vk := [6, 5, 7], ov := fun i => [.a (.c (.leaf (.int (i : Int)))), .a (.c (.row 448)), .any], bk := [], ob := fun i => [], rk := [448], orr := fun i => [⟨.road, [], true, none⟩] })], ?_⟩
    conv => whnf
    refine And.intro ⟨(0 : Nat), Ob.mk ?_, ?_⟩ (fun (i : Nat) hi => ?_)
    · exact rfl
    · conv => whnf
      refine Ob.mk ?_
      all_goals (try simp only [allP, side, Ctr.reads, etas]); all_goals repeat' (first | exact sp1 | refine And.intro ?_ ?_)
    obtain rfl : i = 0 := hi
    repeat' ((conv => whnf); first | refine toOb2 ?_ | refine And.intro (fun _ => ?_) (fun _ => ?_) | refine And.intro ?_ ?_ | refine toEx2 ?_ | refine toY ?_ | intro _)
    all_goals first | refine Ob2.mk ?_ | refine Ex2.of (0 : Nat) ?_ ?_ | skip
    all_goals try ((conv => whnf); refine Ob.mk ?_)
    all_goals (try simp only [allP, side, Ctr.reads, etas]); all_goals repeat' (first | exact sp1 | refine And.intro ?_ ?_)
    all_goals (try simp only [ETy.frm, Ctr.reads, etas] at *)
    all_goals (try simp only [nbls] at *)
    all_goals (try simp only [decide_eq_true_eq, decide_eq_false_iff_not] at *)
    all_goals first | done | omega | (exfalso; omega) | grind [mMissing]
theorem h_spec_Manage : Ctr.holds E 42 (.reads [aEnd] [aEnd, aRow .letter] (fun ((e : DEnd), _) => e.B) fun ((e : DEnd), _) => ((mManage e).1, (mManage e).2, ())) := by
  refine fn_ok prgOk (gcons h_spec_l17Copy (gcons h_spec_EndOk (gcons h_spec_WantedOf (gcons h_spec_HaveOf (gcons h_spec_MissingOf (gcons h_spec_Join gnil)))))) Tryz.func42 rfl rfl rfl rfl ?_
  rintro ty ⟨(e : DEnd), _⟩ (hp : e.B)
  have hB := hp
  obtain ⟨hb1, hb2, hb3, hb4, hb5, hb6, hb7⟩ := hp
  have hwl := mWanted_len e.policy e.own e.far
  have hhl : (mHaveOf e).length ≤ 1073741824 := Nat.le_trans (colL_le _ _ _) hb3
  have hM : mMissing (mWanted e.policy e.own e.far) (mHaveOf e) = mMissL e := rfl
  have hml := mMissL_len e
  refine ⟨[(7, { X := Nat × DEnd × List DLetter, inv := fun z => z.1 ≤ (mMissL e).length ∧ mgL e ((mMissL e).drop z.1) z.2.1 z.2.2 = mgL e (mMissL e) e [] ∧ z.2.1.B ∧ z.2.2.length ≤ z.1, mu := fun z => (mMissL e).length - z.1, vk := [7, 5, 12, 13], ov := fun z => [.a (.c (.leaf (.int (z.1 : Int)))), .a (.c (.row 832)), .any, .any], bk := [4], ob := fun z => [[.leaf (.int z.2.1.side), .leaf (.int z.2.1.state), .leaf (.int z.2.1.key), .leaf (.int z.2.1.peer), .leaf (.int z.2.1.policy.kind), .leaf (.int z.2.1.policy.many), .row 774, .row 775, .row 776, .row 777, .leaf (.int z.2.1.bucket.rate), .leaf (.int z.2.1.bucket.burst), .leaf (.int z.2.1.bucket.hav), .leaf (.str z.2.1.out.text), .leaf (.int z.2.1.out.base), .leaf (.int z.2.1.out.sent), .leaf (.int z.2.1.out.room), .leaf (.int z.2.1.inn.read), .leaf (.str z.2.1.inn.ready), .row 787, .row 788, .row 789, .leaf (.int z.2.1.draw), .leaf (.int z.2.1.now), .leaf (.int z.2.1.pick)]], rk := [774, 775, 776, 777, 787, 788, 789, 832], orr := fun z => [⟨.addr, z.2.1.own, true, none⟩, ⟨.addr, z.2.1.far, true, none⟩, ⟨.sub, z.2.1.subs, true, none⟩, ⟨.half, z.2.1.halfs, true, none⟩, ⟨.piece, z.2.1.inn.list, true, none⟩, ⟨.int, z.2.1.done, true, none⟩, ⟨.int, z.2.1.over, true, none⟩, ⟨.letter, z.2.2, true, none⟩] }), (11, { X := Nat × Nat × Bool, inv := fun z => z.2.1 ≤ e.far.length ∧ spL ((mMissL e).getD z.1 (ETy.zero .road)).far (e.far.drop z.2.1) z.2.2 = mSpare e ((mMissL e).getD z.1 (ETy.zero .road)).far, mu := fun z => e.far.length - z.2.1, vk := [9, 8], ov := fun z => [.a (.c (.leaf (.int (z.2.1 : Int)))), .a (.c (.leaf (.bool z.2.2)))], bk := [], ob := fun z => [], rk := [], orr := fun z => [], rel := some fun a b => a.1 = b.1 })], ?_⟩
  repeat' ((conv => whnf); first | refine toOb2 ?_ | (refine fun y hy => ?_; (try simp only [Ctr.reads, hM, etas] at hy); subst hy) | refine And.intro (fun _ => ?_) (fun _ => ?_) | refine And.intro (toOb2 ?_) ?_ | refine And.intro (?_ : drawOk _ _ _ = true) ?_ | (refine And.intro ⟨?_, ?_⟩ ?_; fail) | intro _)
  (all_goals first | (refine Ob2.mk ?_; (try simp only [allP, side, Ctr.reads, hM, etas] at *); (try simp only [nbls, imp_self, implies_true, and_self, and_true, true_and] at *); first | done | trivial | assumption | omega | grind [mManage]) | (show drawOk _ _ _ = true; exact rfl) | skip)
  (all_goals rename_i hcond)
  have hok : mEndOk e = true ∧ e.side = 1 := by (try simp only [Ctr.reads, etas] at hcond); grind
  have hfin : mManage e = mgL e (mMissL e) e [] := by unfold mManage; rw [if_pos hok]
  conv => whnf
  refine And.intro ⟨((0, e, []) : Nat × DEnd × List DLetter), Ob.mk ?_, ?_⟩ (fun (z : Nat × DEnd × List DLetter) hi => ?_)
  · exact And.intro (Nat.zero_le _) (And.intro rfl (And.intro hB (Nat.le_refl _)))
  · conv => whnf
    refine Ob.mk ?_
    all_goals (try simp only [allP, side, Ctr.reads, etas]); all_goals repeat' (first | exact sp1 | refine And.intro ?_ ?_)
    all_goals first | done | rfl | exact trivial
  obtain ⟨i, a, acc⟩ := z
  obtain ⟨hi, hm, hab, hac⟩ := hi
  have hi : i ≤ (mMissL e).length := hi
  have hm : mgL e ((mMissL e).drop i) a acc = mgL e (mMissL e) e [] := hm
  have hab : a.B := hab
  have hac : acc.length ≤ i := hac
  clear hcond hwl hhl hM
  rcases Nat.lt_or_ge i (mMissL e).length with hlt | hge
  · obtain ⟨r, hx, hxi, hd⟩ := at_step (mMissL e) i (ETy.zero .road) hlt
    rw [hd, mgL] at hm
    have hw := w64_succ hlt (by omega)
    have hfb := dnL_bd r.far e.far e.far.length
    have hse := spare_eq e r.far
    have hjb := mJoin_B r (mSpare e r.far) hab
    have hjl := mJoin_len1 a r (mSpare e r.far)
    clear hd hxi
    have hgr : (mMissL e).getD i (ETy.zero .road) = r := by rw [← hx, Int.toNat_natCast]
    repeat' ((conv => whnf); first | refine toOb2 ?_ | refine toY ?_ | refine And.intro (fun _ => ?_) (fun _ => ?_) | refine And.intro (toOb2 ?_) ?_ | refine And.intro (?_ : drawOk _ _ _ = true) ?_ | (refine And.intro ⟨?_, ?_⟩ ?_; fail) | intro _)
    all_goals try (exfalso; exact Nat.lt_irrefl _ (Nat.lt_of_lt_of_le hlt (ge_of_dec (by assumption))))
    (all_goals first | (refine Ob2.mk ?_; (try simp only [allP, side, Ctr.reads, etas] at *); first | done | trivial | assumption | omega | grind) | (show drawOk _ _ _ = true; exact rfl) | skip)
    conv => whnf
    refine ⟨((i, 0, false) : Nat × Nat × Bool), And.intro (And.intro (Ob.mk ?_) ?_) (fun (z : Nat × Nat × Bool) hz hr => ?_)⟩
    · exact And.intro (And.intro (Nat.zero_le _) rfl) rfl
    · conv => whnf
      refine Ob.mk ?_
      all_goals (try simp only [allP, side, Ctr.reads, etas]); all_goals repeat' (first | exact sp1 | refine And.intro ?_ ?_)
      all_goals first | done | rfl | exact trivial
    obtain ⟨k, j, s⟩ := z
    obtain rfl : i = k := hr
    obtain ⟨hj, hs⟩ := hz
    have hj : j ≤ e.far.length := hj
    have hs : spL ((mMissL e).getD i (ETy.zero .road)).far (e.far.drop j) s = mSpare e ((mMissL e).getD i (ETy.zero .road)).far := hs
    rw [hgr] at hs
    rcases Nat.lt_or_ge j e.far.length with hlt2 | hge2
    · obtain ⟨y, hy, hyi, hd2⟩ := at_step e.far j (ETy.zero .addr) hlt2
      rw [hd2, spL] at hs
      have hw2 := w64_succ hlt2 hb2
      clear hd2 hyi hm hfb hse
      repeat' ((conv => whnf); first | refine toOb2 ?_ | refine And.intro (fun _ => ?_) (fun _ => ?_) | refine And.intro ?_ ?_ | refine toEx2 ?_ | refine toY ?_ | intro _)
      all_goals try (exfalso; exact Nat.lt_irrefl _ (Nat.lt_of_lt_of_le hlt2 (ge_of_dec (by assumption))))
      all_goals first | refine Ob2.mk ?_ | (show drawOk _ _ _ = true; exact rfl) | refine Ex2.of ((i, j + 1, if y.addr = r.far then y.spare else s) : Nat × Nat × Bool) ?_ ?_ | skip
      all_goals try ((conv => whnf); refine Ob.mk ?_)
      all_goals (try simp only [allP, side, Ctr.reads, etas]); all_goals repeat' (first | exact sp1 | refine And.intro ?_ ?_)
      all_goals (try simp only [hx, hy, hgr, Int.toNat_natCast, Ctr.reads, etas] at *)
      all_goals (try simp only [nbls] at *)
      all_goals (try simp only [decide_eq_true_eq, decide_eq_false_iff_not] at *)
      all_goals first | done | omega | grind
    · have hl : j = e.far.length := by omega
      subst hl
      rw [List.drop_length, spL] at hs
      subst hs
      clear hfb hse
      repeat' ((conv => whnf); first | refine toOb2 ?_ | refine And.intro (fun _ => ?_) (fun _ => ?_) | refine And.intro ?_ ?_ | refine toEx2 ?_ | refine toY ?_ | intro _)
      all_goals try (exfalso; have h9 := lt_of_dec (n := e.far.length) (by assumption); omega)
      all_goals first | refine Ob2.mk ?_ | (show drawOk _ _ _ = true; exact rfl) | refine Ex2.of ((i + 1, (mJoin a r (mSpare e r.far)).1, acc ++ (mJoin a r (mSpare e r.far)).2) : Nat × DEnd × List DLetter) ?_ ?_ | skip
      all_goals try ((conv => whnf); refine Ob.mk ?_)
      all_goals (try simp only [allP, side, Ctr.reads, hx, etas])
      all_goals repeat' (first | with_reducible exact rfl | exact trivial | with_reducible assumption | refine And.intro ?_ ?_)
      all_goals (try simp only [decide_eq_true_eq, decide_eq_false_iff_not] at *)
      all_goals first | done | omega | exact hw.symm | (simp only [List.length_append]; omega) | grind
  · have hl : i = (mMissL e).length := by omega
    subst hl
    rw [List.drop_length, mgL] at hm
    repeat' ((conv => whnf); first | refine toOb2 ?_ | refine And.intro (fun _ => ?_) (fun _ => ?_) | refine And.intro ?_ ?_ | refine toEx2 ?_ | refine toY ?_ | intro _)
    all_goals try (exfalso; exact Nat.lt_irrefl _ (Nat.lt_of_lt_of_le (lt_of_dec (by assumption)) hge))
    all_goals first | refine Ob2.mk ?_ | skip
    all_goals (try simp only [allP, side, Ctr.reads, hfin, ← hm, etas])
    all_goals first | done | trivial | assumption | omega | grind
end Go.Proofs.YtnpeomhpbakgnaaGreat
