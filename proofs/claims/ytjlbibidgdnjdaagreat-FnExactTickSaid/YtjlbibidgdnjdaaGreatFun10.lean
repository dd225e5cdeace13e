/- Contracts of functions of the program, each shown over the text. -/
import Derived.Test.YtjlbibidgdnjdaaGreatFun8
set_option linter.unusedVariables false
set_option linter.unusedSimpArgs false
set_option maxRecDepth 100000
namespace Go.Proofs.YtjlbibidgdnjdaaGreat
open Go.Eng
set_option maxHeartbeats 1000000 in
theorem h_spec_Brought : Ctr.holds E 288 (.reads [aInt, aInt, aInt] [aInt] (fun ((n : Int), (l : Int), (h : Int), _) => True) fun ((n : Int), (l : Int), (h : Int), _) => (mBrought n l h, ())) := by
  refine fn_ok (Γ := []) prgOk gnil Tryz.func288 rfl rfl rfl rfl ?_
  rintro ty ⟨(n : Int), (l : Int), (h : Int), _⟩ hp
  refine ⟨[], ?_⟩
  repeat' ((conv => whnf); first | refine toOb2 ?_ | refine And.intro (fun _ => ?_) (fun _ => ?_) | refine And.intro ?_ ?_ | refine toEx2 ?_ | intro _)
  all_goals first | refine Ob2.mk ?_ | (show drawOk _ _ _ = true; exact rfl)
  all_goals (try simp only [allP, side, Ctr.reads, dTag_eta, dRoad_eta, dLetter_eta, dAddr_eta, dSub_eta, dHalf_eta, dPiece_eta, dPolicy_eta, dBucket_eta, dOut_eta, dPieces_eta, dEnd_eta, dKnown_eta, dWorld_eta]); all_goals repeat' (first | with_reducible exact rfl | exact trivial | with_reducible assumption | refine And.intro ?_ ?_ | exact (rfl : (_ : SV) = _) | exact (rfl : (_ : List SC) = _) | (show drawOk _ _ _ = true; exact rfl) | (show ((0 : Nat) : Int) = 0; exact rfl))
  all_goals (try simp only [Ctr.reads, dTag_eta, dRoad_eta, dLetter_eta, dAddr_eta, dSub_eta, dHalf_eta, dPiece_eta, dPolicy_eta, dBucket_eta, dOut_eta, dPieces_eta, dEnd_eta, dKnown_eta, dWorld_eta] at *)
  all_goals first | done | with_reducible assumption | with_reducible rfl | grind [mBrought]
set_option maxHeartbeats 1000000 in
theorem h_spec_Filled : Ctr.holds E 226 (.reads [aBucket, aInt] [aBucket] (fun ((b : DBucket), (n : Int), _) => n = 1) fun ((b : DBucket), (n : Int), _) => (mFilled b, ())) := by
  refine fn_ok (Γ := [(238, .reads [aBucket] [aBool] (fun _ => True) fun ((b : DBucket), _) => (mBucketOk b, ())), (136, .reads [aInt, aInt, aInt] [aBool] (fun _ => True) fun ((n : Int), (l : Int), (h : Int), _) => (mIn n l h, ())), (288, .reads [aInt, aInt, aInt] [aInt] (fun ((n : Int), (l : Int), (h : Int), _) => True) fun ((n : Int), (l : Int), (h : Int), _) => (mBrought n l h, ()))]) prgOk (gcons h_spec_BucketOk (gcons h_spec_l01In (gcons h_spec_Brought gnil))) Tryz.func226 rfl rfl rfl rfl ?_
  rintro ty ⟨(b : DBucket), (n : Int), _⟩ hp
  obtain rfl : n = 1 := hp
  refine ⟨[], ?_⟩
  by_cases hok : mBucketOk b = true
  · obtain ⟨ho1, ho2, ho3, ho4⟩ := bucketOk_bd hok
    repeat' ((conv => whnf); first | refine toOb2 ?_ | refine And.intro (fun _ => ?_) (fun _ => ?_) | refine And.intro ?_ ?_ | refine toEx2 ?_ | refine toY ?_ | intro _)
    all_goals first | refine Ob2.mk ?_ | (show drawOk _ _ _ = true; exact rfl)
    all_goals (try simp only [allP, side, Ctr.reads, dTag_eta, dRoad_eta, dLetter_eta, dAddr_eta, dSub_eta, dHalf_eta, dPiece_eta, dPolicy_eta, dBucket_eta, dOut_eta, dPieces_eta, dEnd_eta, dKnown_eta, dWorld_eta]); all_goals repeat' (first | with_reducible exact rfl | exact trivial | with_reducible assumption | refine And.intro ?_ ?_ | exact (rfl : (_ : SV) = _) | exact (rfl : (_ : List SC) = _) | (show drawOk _ _ _ = true; exact rfl) | (show ((0 : Nat) : Int) = 0; exact rfl))
    all_goals (try simp only [Int.mul_one, Ctr.reads, dTag_eta, dRoad_eta, dLetter_eta, dAddr_eta, dSub_eta, dHalf_eta, dPiece_eta, dPolicy_eta, dBucket_eta, dOut_eta, dPieces_eta, dEnd_eta, dKnown_eta, dWorld_eta] at *)
    all_goals (try simp only [Bool.cond_true_left, Bool.cond_false_right, Bool.or_eq_false_iff, Bool.or_eq_true, Bool.and_eq_true, Bool.and_eq_false_imp, Bool.not_eq_true', Bool.not_eq_false', Bool.not_eq_eq_eq_not, Bool.not_true, Bool.not_false] at *)
    all_goals (try simp only [decide_eq_true_eq, decide_eq_false_iff_not] at *)
    all_goals (try simp (disch := omega) only [w64_id] at *)
    all_goals (try simp (disch := omega) only [w64_id] at *)
    all_goals first | done | with_reducible assumption | with_reducible rfl | omega | grind [mFilled, mBrought, mNums, allL, mNum, mIn]
  · repeat' ((conv => whnf); first | refine toOb2 ?_ | refine And.intro (fun _ => ?_) (fun _ => ?_) | refine And.intro ?_ ?_ | refine toEx2 ?_ | refine toY ?_ | intro _)
    all_goals first | refine Ob2.mk ?_ | (show drawOk _ _ _ = true; exact rfl)
    all_goals (try simp only [allP, side, Ctr.reads, dTag_eta, dRoad_eta, dLetter_eta, dAddr_eta, dSub_eta, dHalf_eta, dPiece_eta, dPolicy_eta, dBucket_eta, dOut_eta, dPieces_eta, dEnd_eta, dKnown_eta, dWorld_eta]); all_goals repeat' (first | with_reducible exact rfl | exact trivial | with_reducible assumption | refine And.intro ?_ ?_ | exact (rfl : (_ : SV) = _) | exact (rfl : (_ : List SC) = _) | (show drawOk _ _ _ = true; exact rfl) | (show ((0 : Nat) : Int) = 0; exact rfl))
    all_goals (try simp only [Int.mul_one, Ctr.reads, dTag_eta, dRoad_eta, dLetter_eta, dAddr_eta, dSub_eta, dHalf_eta, dPiece_eta, dPolicy_eta, dBucket_eta, dOut_eta, dPieces_eta, dEnd_eta, dKnown_eta, dWorld_eta] at *)
    all_goals (try simp only [Bool.cond_true_left, Bool.cond_false_right, Bool.or_eq_false_iff, Bool.or_eq_true, Bool.and_eq_true, Bool.and_eq_false_imp, Bool.not_eq_true', Bool.not_eq_false', Bool.not_eq_eq_eq_not, Bool.not_true, Bool.not_false] at *)
    all_goals first | done | with_reducible assumption | with_reducible rfl | omega | grind [mFilled, mBrought, mNums, allL, mNum, mIn]
set_option maxHeartbeats 1000000 in
theorem h_spec_Younger : Ctr.holds E 227 (.reads [aRow .half, aInt] [aRow .half] (fun ((l : List DHalf), (n : Int), _) => l.length ≤ 1073741824) fun ((l : List DHalf), (n : Int), _) => (mYounger l n, ())) := by
  refine fn_ok (Γ := []) prgOk gnil Tryz.func227 rfl rfl rfl rfl ?_
  rintro ty ⟨(l : List DHalf), (n : Int), _⟩ (hp : l.length ≤ 1073741824)
  refine ⟨[(3, { X := Nat × List DHalf, inv := fun x => x.1 ≤ l.length ∧ x.2 ++ colL (fYoung n) (l.drop x.1) x.1 = mYounger l n ∧ x.2.length ≤ x.1, mu := fun x => l.length - x.1, vk := [6, 5, 7], ov := fun x => [.a (.c (.leaf (.int (x.1 : Int)))), .a (.c (.row 448)), .any], bk := [], ob := fun x => [], rk := [448], orr := fun x => [⟨.half, x.2, true, none⟩] })], ?_⟩
  conv => whnf
  refine And.intro ⟨((0, []) : Nat × List DHalf), Ob.mk ?_, ?_⟩ (fun (x : Nat × List DHalf) hi => ?_)
  · exact And.intro (Nat.zero_le _) (And.intro (rfl) (Nat.le_refl _))
  · conv => whnf
    refine Ob.mk ?_
    all_goals (try simp only [allP, side, Ctr.reads, dTag_eta, dRoad_eta, dLetter_eta, dAddr_eta, dSub_eta, dHalf_eta, dPiece_eta, dPolicy_eta, dBucket_eta, dOut_eta, dPieces_eta, dEnd_eta, dKnown_eta, dWorld_eta]); all_goals repeat' (first | with_reducible exact rfl | exact trivial | with_reducible assumption | refine And.intro ?_ ?_ | exact (rfl : (_ : SV) = _) | exact (rfl : (_ : List SC) = _) | (show drawOk _ _ _ = true; exact rfl) | (show ((0 : Nat) : Int) = 0; exact rfl))
  obtain ⟨i, acc⟩ := x
  obtain ⟨hi, hm⟩ := hi
  have hi : i ≤ l.length := hi
  have hm : acc ++ colL (fYoung n) (l.drop i) i = mYounger l n ∧ acc.length ≤ i := hm
  rcases Nat.lt_or_ge i l.length with hlt | hge
  · obtain ⟨x, hx, hxi, hd⟩ := at_step l i (ETy.zero .half) hlt
    rw [hd, colL] at hm
    have hw := w64_succ hlt (hp)
    repeat' ((conv => whnf); first | refine toOb2 ?_ | refine And.intro (fun _ => ?_) (fun _ => ?_) | refine And.intro ?_ ?_ | refine toEx2 ?_ | intro _)
    all_goals try (exfalso; exact Nat.lt_irrefl _ (Nat.lt_of_lt_of_le hlt (ge_of_dec (by assumption))))
    all_goals first | refine Ob2.mk ?_ | refine Ex2.of ((i + 1, if x.til > n then acc ++ [x] else acc)) ?_ ?_ | skip
    all_goals try ((conv => whnf); refine Ob.mk ?_)
    all_goals (try simp only [allP, side, Ctr.reads, dTag_eta, dRoad_eta, dLetter_eta, dAddr_eta, dSub_eta, dHalf_eta, dPiece_eta, dPolicy_eta, dBucket_eta, dOut_eta, dPieces_eta, dEnd_eta, dKnown_eta, dWorld_eta]); all_goals repeat' (first | with_reducible exact rfl | exact trivial | with_reducible assumption | refine And.intro ?_ ?_ | exact (rfl : (_ : SV) = _) | exact (rfl : (_ : List SC) = _) | (show drawOk _ _ _ = true; exact rfl) | (show ((0 : Nat) : Int) = 0; exact rfl))
    all_goals (try simp only [hx, ETy.frm, Ctr.reads, dTag_eta, dRoad_eta, dLetter_eta, dAddr_eta, dSub_eta, dHalf_eta, dPiece_eta, dPolicy_eta, dBucket_eta, dOut_eta, dPieces_eta, dEnd_eta, dKnown_eta, dWorld_eta] at *)
    all_goals first | done | grind [fYoung, mYounger]
  · have hl : i = l.length := by omega
    subst hl
    rw [List.drop_length, colL] at hm
    repeat' ((conv => whnf); first | refine toOb2 ?_ | refine And.intro (fun _ => ?_) (fun _ => ?_) | refine And.intro ?_ ?_ | refine toEx2 ?_ | intro _)
    all_goals try (exfalso; exact Nat.lt_irrefl _ (Nat.lt_of_lt_of_le (lt_of_dec (by assumption)) hge))
    all_goals first | refine Ob2.mk ?_ | refine Ex2.of ((l.length, acc)) ?_ ?_ | skip
    all_goals try ((conv => whnf); refine Ob.mk ?_)
    all_goals (try simp only [allP, side, Ctr.reads, dTag_eta, dRoad_eta, dLetter_eta, dAddr_eta, dSub_eta, dHalf_eta, dPiece_eta, dPolicy_eta, dBucket_eta, dOut_eta, dPieces_eta, dEnd_eta, dKnown_eta, dWorld_eta]); all_goals repeat' (first | with_reducible exact rfl | exact trivial | with_reducible assumption | refine And.intro ?_ ?_ | exact (rfl : (_ : SV) = _) | exact (rfl : (_ : List SC) = _) | (show drawOk _ _ _ = true; exact rfl) | (show ((0 : Nat) : Int) = 0; exact rfl))
    all_goals (try simp only [ETy.frm, Ctr.reads, dTag_eta, dRoad_eta, dLetter_eta, dAddr_eta, dSub_eta, dHalf_eta, dPiece_eta, dPolicy_eta, dBucket_eta, dOut_eta, dPieces_eta, dEnd_eta, dKnown_eta, dWorld_eta] at *)
    all_goals first | done | grind [fYoung, mYounger]
set_option maxHeartbeats 1000000 in
theorem h_spec_Anew : Ctr.holds E 228 (.reads [aOut] [aOut] (fun ((o : DOut), _) => True) fun ((o : DOut), _) => (mAnew o, ())) := by
  refine fn_ok (Γ := [(239, .reads [aOut] [aBool] (fun _ => True) fun ((o : DOut), _) => (mOutOk o, ()))]) prgOk (gcons h_spec_OutOk gnil) Tryz.func228 rfl rfl rfl rfl ?_
  rintro ty ⟨(o : DOut), _⟩ hp
  refine ⟨[], ?_⟩
  repeat' ((conv => whnf); first | refine toOb2 ?_ | refine And.intro (fun _ => ?_) (fun _ => ?_) | refine And.intro ?_ ?_ | refine toEx2 ?_ | refine toY ?_ | intro _)
  all_goals first | refine Ob2.mk ?_ | (show drawOk _ _ _ = true; exact rfl)
  all_goals (try simp only [allP, side, Ctr.reads, dTag_eta, dRoad_eta, dLetter_eta, dAddr_eta, dSub_eta, dHalf_eta, dPiece_eta, dPolicy_eta, dBucket_eta, dOut_eta, dPieces_eta, dEnd_eta, dKnown_eta, dWorld_eta]); all_goals repeat' (first | with_reducible exact rfl | exact trivial | with_reducible assumption | refine And.intro ?_ ?_ | exact (rfl : (_ : SV) = _) | exact (rfl : (_ : List SC) = _) | (show drawOk _ _ _ = true; exact rfl) | (show ((0 : Nat) : Int) = 0; exact rfl))
  all_goals (try simp only [Ctr.reads, dTag_eta, dRoad_eta, dLetter_eta, dAddr_eta, dSub_eta, dHalf_eta, dPiece_eta, dPolicy_eta, dBucket_eta, dOut_eta, dPieces_eta, dEnd_eta, dKnown_eta, dWorld_eta] at *)
  all_goals (try simp only [Bool.cond_true_left, Bool.cond_false_right, Bool.or_eq_false_iff, Bool.or_eq_true, Bool.and_eq_true, Bool.and_eq_false_imp, Bool.not_eq_true', Bool.not_eq_false', Bool.not_eq_eq_eq_not, Bool.not_true, Bool.not_false] at *)
  all_goals first | done | with_reducible assumption | with_reducible rfl | omega | grind [mAnew]
set_option maxHeartbeats 1000000 in
theorem h_spec_Tick : Ctr.holds E 92 (.reads [aEnd] [aEnd, aRow .letter] (fun ((e : DEnd), _) => e.B) fun ((e : DEnd), _) => ((mTick e).1, (mTick e).2, ())) := by
  refine fn_ok (Γ := [(103, .reads [aEnd] [aEnd] (fun ((e : DEnd), _) => e.B) fun (e, _) => (e, ())), (100, .reads [aEnd] [aBool] (fun ((e : DEnd), _) => e.B) fun ((e : DEnd), _) => (mEndOk e, ())), (226, .reads [aBucket, aInt] [aBucket] (fun ((b : DBucket), (n : Int), _) => n = 1) fun ((b : DBucket), (n : Int), _) => (mFilled b, ())), (227, .reads [aRow .half, aInt] [aRow .half] (fun ((l : List DHalf), (n : Int), _) => l.length ≤ 1073741824) fun ((l : List DHalf), (n : Int), _) => (mYounger l n, ())), (228, .reads [aOut] [aOut] (fun ((o : DOut), _) => True) fun ((o : DOut), _) => (mAnew o, ())), (157, .reads [aEnd, aSub] [aLetter] (fun ((e : DEnd), (s : DSub), _) => True) fun ((e : DEnd), (s : DSub), _) => (mJoinLetter e s, ())), (164, .reads [aEnd, aSub] [aLetter] (fun ((e : DEnd), (s : DSub), _) => True) fun ((e : DEnd), (s : DSub), _) => (mDoneLetter e s, ())), (229, .reads [aEnd] [aRow .letter] (fun ((e : DEnd), _) => e.B) fun ((e : DEnd), _) => (mTellAddrs e, ())), (62, .reads [aEnd] [aEnd, aRow .letter] (fun ((e : DEnd), _) => e.B) fun ((e : DEnd), _) => ((mPush e).1, (mPush e).2, ()))]) prgOk (gcons h_spec_l17Copy (gcons h_spec_EndOk (gcons h_spec_Filled (gcons h_spec_Younger (gcons h_spec_Anew (gcons h_spec_l19Asks (gcons h_spec_l19Proves (gcons h_spec_TellAddrs (gcons h_spec_Push gnil))))))))) Tryz.func92 rfl rfl rfl rfl ?_
  rintro ty ⟨(e : DEnd), _⟩ (hp : e.B)
  have hB := hp
  obtain ⟨hb1, hb2, hb3, hb4, hb5, hb6, hb7⟩ := hp
  have h8 := fun h : mEndOk e = true => (endOk_split h).2.2.1
  have hnm := fun h : mEndOk e = true => endOk_nums h
  have hw1 := fun h : mEndOk e = true => now_w1 h
  have hyl : (mYounger e.halfs (e.now + 1)).length ≤ 1073741824 := Nat.le_trans (colL_le _ _ _) hb4
  refine ⟨[(6, { X := Nat, inv := fun i => i ≤ e.subs.length ∧ anyL (fun s : DSub => decide (s.tries ≥ 1000000000)) (e.subs.drop i) = mTired e, mu := fun i => e.subs.length - i, vk := [6], ov := fun i => [.a (.c (.leaf (.int (i : Int))))], bk := [], ob := fun i => [], rk := [], orr := fun i => [] }), (15, { X := Nat × List DSub × List DLetter, inv := fun z => z.1 ≤ e.subs.length ∧ z.2.1 = (e.subs.take z.1).map tickG ++ e.subs.drop z.1 ∧ z.2.2 ++ colL (tickF e) (e.subs.drop z.1) z.1 = colL (tickF e) e.subs 0 ∧ z.2.2.length ≤ z.1 ∧ (e.state ≠ 2 → z.1 = 0), mu := fun z => e.subs.length - z.1, vk := [7, 5, 13], ov := fun z => [.a (.c (.leaf (.int (z.1 : Int)))), .a (.c (.row 832)), .any], bk := [], ob := fun z => [], rk := [776, 832], orr := fun z => [⟨.sub, z.2.1, true, none⟩, ⟨.letter, z.2.2, true, none⟩] }), (28, { X := Nat × DEnd × List DLetter, inv := fun z => z.1 ≤ 3 ∧ z.2.1 = (pushN z.1 (mTick1 e)).1 ∧ z.2.2 = (mTickL e ++ mTellAddrs (mTick1 e)) ++ (pushN z.1 (mTick1 e)).2, mu := fun z => 3 - z.1, vk := [9, 5, 12, 52, 60, 132, 134], ov := fun z => [.a (.c (.leaf (.int (z.1 : Int)))), .a (.c (.row 8576)), .any, .any, .any, .any, .any], bk := [4], ob := fun z => [[.leaf (.int z.2.1.side), .leaf (.int z.2.1.state), .leaf (.int z.2.1.key), .leaf (.int z.2.1.peer), .leaf (.int z.2.1.policy.kind), .leaf (.int z.2.1.policy.many), .row 774, .row 775, .row 776, .row 3328, .leaf (.int z.2.1.bucket.rate), .leaf (.int z.2.1.bucket.burst), .leaf (.int z.2.1.bucket.hav), .leaf (.str z.2.1.out.text), .leaf (.int z.2.1.out.base), .leaf (.int z.2.1.out.sent), .leaf (.int z.2.1.out.room), .leaf (.int z.2.1.inn.read), .leaf (.str z.2.1.inn.ready), .row 787, .row 788, .row 789, .leaf (.int z.2.1.draw), .leaf (.int z.2.1.now), .leaf (.int z.2.1.pick)]], rk := [774, 775, 776, 3328, 787, 788, 789, 8576], orr := fun z => [⟨.addr, z.2.1.own, true, none⟩, ⟨.addr, z.2.1.far, true, none⟩, ⟨.sub, z.2.1.subs, true, none⟩, ⟨.half, z.2.1.halfs, true, none⟩, ⟨.piece, z.2.1.inn.list, true, none⟩, ⟨.int, z.2.1.done, true, none⟩, ⟨.int, z.2.1.over, true, none⟩, ⟨.letter, z.2.2, true, none⟩] })], ?_⟩
  repeat' ((conv => whnf); first | refine toOb2 ?_ | refine toY ?_ | refine And.intro (fun _ => ?_) (fun _ => ?_) | refine And.intro (toOb2 ?_) ?_ | refine And.intro (?_ : drawOk _ _ _ = true) ?_ | (refine And.intro ⟨?_, ?_⟩ ?_; fail) | intro _)
  (all_goals first | (refine Ob2.mk ?_; (try simp only [allP, side, Ctr.reads, dTag_eta, dRoad_eta, dLetter_eta, dAddr_eta, dSub_eta, dHalf_eta, dPiece_eta, dPolicy_eta, dBucket_eta, dOut_eta, dPieces_eta, dEnd_eta, dKnown_eta, dWorld_eta] at *); (try simp only [Bool.cond_true_left, Bool.cond_false_right, Bool.or_eq_false_iff, Bool.or_eq_true, Bool.and_eq_true, Bool.and_eq_false_imp, Bool.not_eq_true', Bool.not_eq_false', Bool.not_eq_eq_eq_not, Bool.not_true, Bool.not_false, imp_self, implies_true, and_self, and_true, true_and] at *); first | done | trivial | assumption | omega | grind [mTick]) | (show drawOk _ _ _ = true; exact rfl) | skip)
  (all_goals rename_i hcond)
  have hok : mEndOk e = true ∧ e.now < 1000000000 := by (try simp only [Ctr.reads, dTag_eta, dRoad_eta, dLetter_eta, dAddr_eta, dSub_eta, dHalf_eta, dPiece_eta, dPolicy_eta, dBucket_eta, dOut_eta, dPieces_eta, dEnd_eta, dKnown_eta, dWorld_eta] at hcond); grind
  clear hcond
  conv => whnf
  refine And.intro ⟨(0 : Nat), Ob.mk ?_, ?_⟩ (fun (i : Nat) hi => ?_)
  · exact And.intro (Nat.zero_le _) rfl
  · conv => whnf
    refine Ob.mk ?_
    all_goals (try simp only [allP, side, Ctr.reads, dTag_eta, dRoad_eta, dLetter_eta, dAddr_eta, dSub_eta, dHalf_eta, dPiece_eta, dPolicy_eta, dBucket_eta, dOut_eta, dPieces_eta, dEnd_eta, dKnown_eta, dWorld_eta]); all_goals repeat' (first | with_reducible exact rfl | exact trivial | with_reducible assumption | refine And.intro ?_ ?_ | exact (rfl : (_ : SV) = _) | exact (rfl : (_ : List SC) = _) | (show drawOk _ _ _ = true; exact rfl) | (show ((0 : Nat) : Int) = 0; exact rfl))
  obtain ⟨hi, hm⟩ := hi
  have hi : i ≤ e.subs.length := hi
  have hm : anyL (fun s : DSub => decide (s.tries ≥ 1000000000)) (e.subs.drop i) = mTired e := hm
  rcases Nat.lt_or_ge i e.subs.length with hlt | hge
  · obtain ⟨s, hx, hxi, hd⟩ := at_step e.subs i (ETy.zero .sub) hlt
    rw [hd, anyL] at hm
    have hw := w64_succ hlt hb3
    have hst2 := sub_nums hok.1 i s hxi
    repeat' ((conv => whnf); first | refine toOb2 ?_ | refine And.intro (fun _ => ?_) (fun _ => ?_) | refine And.intro (toOb2 ?_) ?_ | refine And.intro (?_ : drawOk _ _ _ = true) ?_ | refine toEx2 ?_ | refine toY ?_ | intro _)
    all_goals try (exfalso; exact Nat.lt_irrefl _ (Nat.lt_of_lt_of_le hlt (ge_of_dec (by assumption))))
    all_goals first | refine Ob2.mk ?_ | refine Ex2.of (i + 1) ?_ ?_ | skip
    all_goals try ((conv => whnf); refine Ob.mk ?_)
    all_goals (try simp only [allP, side, Ctr.reads, dTag_eta, dRoad_eta, dLetter_eta, dAddr_eta, dSub_eta, dHalf_eta, dPiece_eta, dPolicy_eta, dBucket_eta, dOut_eta, dPieces_eta, dEnd_eta, dKnown_eta, dWorld_eta]); all_goals repeat' (first | with_reducible exact rfl | exact trivial | with_reducible assumption | refine And.intro ?_ ?_ | exact (rfl : (_ : SV) = _) | exact (rfl : (_ : List SC) = _) | (show drawOk _ _ _ = true; exact rfl) | (show ((0 : Nat) : Int) = 0; exact rfl))
    all_goals (try simp only [hx, Ctr.reads, dTag_eta, dRoad_eta, dLetter_eta, dAddr_eta, dSub_eta, dHalf_eta, dPiece_eta, dPolicy_eta, dBucket_eta, dOut_eta, dPieces_eta, dEnd_eta, dKnown_eta, dWorld_eta] at *)
    all_goals (try simp only [Bool.cond_true_left, Bool.cond_false_right, Bool.or_eq_false_iff, Bool.or_eq_true, Bool.and_eq_true, Bool.and_eq_false_imp, Bool.not_eq_true', Bool.not_eq_false', Bool.not_eq_eq_eq_not, Bool.not_true, Bool.not_false] at *)
    all_goals (try simp only [decide_eq_true_eq, decide_eq_false_iff_not] at *)
    all_goals first | done | omega | grind [mTick]
  · have hl : i = e.subs.length := by omega
    subst hl
    rw [List.drop_length, anyL] at hm
    have hcd : mEndOk e = true ∧ e.now < 1000000000 ∧ mTired e = false := ⟨hok.1, hok.2, hm.symm⟩
    have hw1 := hw1 hok.1
    have hfin : mTick e = mTickEnd (mTick1 e) (mTickL e) := by unfold mTick; rw [if_pos hcd]
    clear hm
    by_cases hst : e.state = 2
    · repeat' ((conv => whnf); first | refine toOb2 ?_ | refine toY ?_ | refine And.intro (fun _ => ?_) (fun _ => ?_) | refine And.intro (toOb2 ?_) ?_ | refine And.intro (?_ : drawOk _ _ _ = true) ?_ | (refine And.intro ⟨?_, ?_⟩ ?_; fail) | intro _)
      all_goals try (exfalso; have h9 := lt_of_dec (n := e.subs.length) (by assumption); omega)
      (all_goals first | (refine Ob2.mk ?_; (try simp only [allP, side, Ctr.reads, hw1, dTag_eta, dRoad_eta, dLetter_eta, dAddr_eta, dSub_eta, dHalf_eta, dPiece_eta, dPolicy_eta, dBucket_eta, dOut_eta, dPieces_eta, dEnd_eta, dKnown_eta, dWorld_eta]); first | done | trivial | assumption | omega | grind) | (show drawOk _ _ _ = true; exact rfl) | skip)
      conv => whnf
      refine And.intro ⟨((0, e.subs, []) : Nat × List DSub × List DLetter), Ob.mk ?_, ?_⟩ (fun (z : Nat × List DSub × List DLetter) hi => ?_)
      · exact And.intro (Nat.zero_le _) (And.intro rfl (And.intro rfl (And.intro (Nat.le_refl _) (fun _ => rfl))))
      · conv => whnf
        refine Ob.mk ?_
        all_goals (try simp only [allP, side, Ctr.reads, dTag_eta, dRoad_eta, dLetter_eta, dAddr_eta, dSub_eta, dHalf_eta, dPiece_eta, dPolicy_eta, dBucket_eta, dOut_eta, dPieces_eta, dEnd_eta, dKnown_eta, dWorld_eta]); all_goals repeat' (first | with_reducible exact rfl | exact trivial | with_reducible assumption | refine And.intro ?_ ?_ | exact (rfl : (_ : SV) = _) | exact (rfl : (_ : List SC) = _) | (show drawOk _ _ _ = true; exact rfl) | (show ((0 : Nat) : Int) = 0; exact rfl))
        all_goals first | done | rfl | exact trivial
      obtain ⟨i, R, acc⟩ := z
      obtain ⟨hi, hR, hm, hac, _⟩ := hi
      have hi : i ≤ e.subs.length := hi
      have hR : R = (e.subs.take i).map tickG ++ e.subs.drop i := hR
      have hm : acc ++ colL (tickF e) (e.subs.drop i) i = colL (tickF e) e.subs 0 := hm
      have hac : acc.length ≤ i := hac
      have hRl : R.length = e.subs.length := by rw [hR]; simp; omega
      rcases Nat.lt_or_ge i e.subs.length with hlt | hge
      · obtain ⟨s, hx, hxi, hd⟩ := at_step e.subs i (ETy.zero .sub) hlt
        rw [hd, colL] at hm
        have hw := w64_succ hlt hb3
        have hRg : R.getD i (ETy.zero .sub) = s := by rw [hR]; exact map_get _ _ _ _ _ hxi
        have hR1 : R.set i (tickG s) = (e.subs.take (i + 1)).map tickG ++ e.subs.drop (i + 1) := by rw [hR]; exact map_step _ _ _ _ hxi
        have hR2 : tickG s = s → R = (e.subs.take (i + 1)).map tickG ++ e.subs.drop (i + 1) := fun h => by rw [hR]; exact map_same _ _ _ _ hxi h
        have htd := tired_no hcd.2.2 i s hxi
        have hst2 := sub_nums hcd.1 i s hxi
        have hwt : w64 (s.tries + 1) = s.tries + 1 := w64_id (by omega) (by omega)
        have hjl : ∀ t, mJoinLetter e { s with tries := t } = mJoinLetter e s := fun t => rfl
        have hdl : ∀ t, mDoneLetter e { s with tries := t } = mDoneLetter e s := fun t => rfl
        have hjl2 : mJoinLetter ({ e with now := e.now + 1, bucket := mFilled e.bucket, halfs := mYounger e.halfs (e.now + 1), out := mAnew e.out, subs := R.set i { s with tries := s.tries + 1 } } : DEnd) s = mJoinLetter e s := rfl
        have hdl2 : mDoneLetter ({ e with now := e.now + 1, bucket := mFilled e.bucket, halfs := mYounger e.halfs (e.now + 1), out := mAnew e.out, subs := R.set i { s with tries := s.tries + 1 } } : DEnd) s = mDoneLetter e s := rfl
        clear hR hd hcd h8 hnm
        repeat' ((conv => whnf); first | refine toOb2 ?_ | refine And.intro (fun _ => ?_) (fun _ => ?_) | refine And.intro ?_ ?_ | refine toEx2 ?_ | refine toY ?_ | intro _)
        all_goals try (exfalso; have h9 := ge_of_dec (n := R.length) (by assumption); omega)
        all_goals try (exfalso; have h9 := ge_of_dec (n := e.subs.length) (by assumption); omega)
        all_goals first | refine Ob2.mk ?_ | (show drawOk _ _ _ = true; exact rfl) | refine Ex2.of ((i + 1, (if tickG s = s then R else R.set i (tickG s)), (match tickF e s i with | some l => acc ++ [l] | none => acc)) : Nat × List DSub × List DLetter) ?_ ?_ | skip
        all_goals try ((conv => whnf); refine Ob.mk ?_)
        all_goals (try simp only [allP, side, Ctr.reads, dTag_eta, dRoad_eta, dLetter_eta, dAddr_eta, dSub_eta, dHalf_eta, dPiece_eta, dPolicy_eta, dBucket_eta, dOut_eta, dPieces_eta, dEnd_eta, dKnown_eta, dWorld_eta]); all_goals repeat' (first | with_reducible exact rfl | exact trivial | with_reducible assumption | refine And.intro ?_ ?_ | exact (rfl : (_ : SV) = _) | exact (rfl : (_ : List SC) = _) | (show drawOk _ _ _ = true; exact rfl) | (show ((0 : Nat) : Int) = 0; exact rfl))
        all_goals (try simp only [Int.toNat_natCast, hRg, ETy.frm, hwt, hw1, Ctr.reads, dTag_eta, dRoad_eta, dLetter_eta, dAddr_eta, dSub_eta, dHalf_eta, dPiece_eta, dPolicy_eta, dBucket_eta, dOut_eta, dPieces_eta, dEnd_eta, dKnown_eta, dWorld_eta] at *)
        all_goals (try simp (disch := first | assumption | omega | (simp only [List.length_set]; omega)) only [set_get, List.set_set, hwt, hjl, hdl, hjl2, hdl2, List.length_set, dTag_eta, dRoad_eta, dLetter_eta, dAddr_eta, dSub_eta, dHalf_eta, dPiece_eta, dPolicy_eta, dBucket_eta, dOut_eta, dPieces_eta, dEnd_eta, dKnown_eta, dWorld_eta] at *)
        all_goals (try simp only [Bool.cond_true_left, Bool.cond_false_right, Bool.or_eq_false_iff, Bool.or_eq_true, Bool.and_eq_true, Bool.and_eq_false_imp, Bool.not_eq_true', Bool.not_eq_false', Bool.not_eq_eq_eq_not, Bool.not_true, Bool.not_false] at *)
        all_goals (try simp only [decide_eq_true_eq, decide_eq_false_iff_not] at *)
        all_goals first | done | omega | grind [tickG, tickF]
      · have hl : i = e.subs.length := by omega
        subst hl
        have hRm : R = e.subs.map tickG := by rw [hR]; simp
        clear hR
        rw [List.drop_length, colL, List.append_nil] at hm
        subst hm
        have hE : ({ e with now := e.now + 1, bucket := mFilled e.bucket, halfs := mYounger e.halfs (e.now + 1), out := mAnew e.out, subs := R } : DEnd) = mTick1 e := by rw [hRm]; unfold mTick1; rw [if_pos hst]; rfl
        have hL : colL (tickF e) e.subs 0 = mTickL e := by unfold mTickL; rw [if_pos hst]
        have h1B := mTick1_B hB
        have hlL : (mTickL e).length ≤ 1073741824 := by rw [← hL]; omega
        have hsl := h8 hcd.1
        have hs8 : (mTickL e).length ≤ 8 := by rw [← hL]; omega
        have hA6 := tell_small hcd.1
        clear hRm hge
        repeat' ((conv => whnf); first | refine toOb2 ?_ | (refine fun y hy => ?_; (try simp only [Ctr.reads, hw1, hE, hL, dTag_eta, dRoad_eta, dLetter_eta, dAddr_eta, dSub_eta, dHalf_eta, dPiece_eta, dPolicy_eta, dBucket_eta, dOut_eta, dPieces_eta, dEnd_eta, dKnown_eta, dWorld_eta] at hy); subst hy) | refine And.intro (fun _ => ?_) (fun _ => ?_) | refine And.intro (toOb2 ?_) ?_ | refine And.intro (?_ : drawOk _ _ _ = true) ?_ | (refine And.intro ⟨?_, ?_⟩ ?_; fail) | intro _)
        all_goals try (exfalso; simp only [Bool.cond_false_right, Bool.and_eq_true, decide_eq_true_eq] at *; omega)
        all_goals first | (refine Ob2.mk ?_; (try simp only [allP, side, Ctr.reads, hw1, hE, hL, dTag_eta, dRoad_eta, dLetter_eta, dAddr_eta, dSub_eta, dHalf_eta, dPiece_eta, dPolicy_eta, dBucket_eta, dOut_eta, dPieces_eta, dEnd_eta, dKnown_eta, dWorld_eta]); first | done | trivial | assumption | omega | ((repeat' (first | assumption | refine And.intro ?_ ?_ | omega | intro _)); done) | grind) | (show drawOk _ _ _ = true; exact rfl) | skip
        conv => whnf
        refine And.intro ⟨((0, mTick1 e, (mTickL e ++ mTellAddrs (mTick1 e))) : Nat × DEnd × List DLetter), Ob.mk ?_, ?_⟩ (fun (z : Nat × DEnd × List DLetter) hi => ?_)
        · exact And.intro (Nat.zero_le _) (And.intro rfl (by simp [pushN]))
        · conv => whnf
          refine Ob.mk ?_
          all_goals (try simp only [allP, side, Ctr.reads, dTag_eta, dRoad_eta, dLetter_eta, dAddr_eta, dSub_eta, dHalf_eta, dPiece_eta, dPolicy_eta, dBucket_eta, dOut_eta, dPieces_eta, dEnd_eta, dKnown_eta, dWorld_eta]); all_goals repeat' (first | with_reducible exact rfl | exact trivial | with_reducible assumption | refine And.intro ?_ ?_ | exact (rfl : (_ : SV) = _) | exact (rfl : (_ : List SC) = _) | (show drawOk _ _ _ = true; exact rfl) | (show ((0 : Nat) : Int) = 0; exact rfl))
          all_goals first | done | rfl | exact trivial | (rw [← hE]; done) | (show (_ : Int) = _; rw [← hE]; done) | (simp only [← hE]; done) | grind
        obtain ⟨i, a, acc⟩ := z
        obtain ⟨hi, ha, hc⟩ := hi
        have hi : i ≤ 3 := hi
        have ha : a = (pushN i (mTick1 e)).1 := ha
        have hc : acc = (mTickL e ++ mTellAddrs (mTick1 e)) ++ (pushN i (mTick1 e)).2 := hc
        have hab : a.B := by rw [ha]; exact pushN_B h1B i
        have hal := mPush_len1 a
        have hpi := pushN_len (mTick1 e) i
        have hcl : acc.length ≤ 1073741824 := by rw [hc]; simp only [List.length_append]; omega
        have hn : pushN (i + 1) (mTick1 e) = ((mPush a).1, (pushN i (mTick1 e)).2 ++ (mPush a).2) := by rw [ha]; rfl
        have hn2 : acc ++ (mPush a).2 = (mTickL e ++ mTellAddrs (mTick1 e)) ++ (pushN (i + 1) (mTick1 e)).2 := by rw [hn, hc, List.append_assoc]
        have hn1 : (mPush a).1 = (pushN (i + 1) (mTick1 e)).1 := by rw [hn]
        have hw : i < 3 → w64 ((i : Int) + 1) = ((i + 1 : Nat) : Int) := fun h => w64_succ h (by decide)
        rcases Nat.lt_or_ge i 3 with hlt | hge
        · have hw := hw hlt
          clear ha hc hE
          repeat' ((conv => whnf); first | refine toOb2 ?_ | refine And.intro (fun _ => ?_) (fun _ => ?_) | refine And.intro ?_ ?_ | refine toEx2 ?_ | refine toY ?_ | intro _)
          all_goals try (exfalso; have h9 := of_decide_eq_false (by assumption); revert h9; simp; omega)
          all_goals first | refine Ob2.mk ?_ | refine Ex2.of ((i + 1, (mPush a).1, acc ++ (mPush a).2) : Nat × DEnd × List DLetter) ?_ ?_ | skip
          all_goals try ((conv => whnf); refine Ob.mk ?_)
          all_goals (try simp only [allP, side, Ctr.reads, dTag_eta, dRoad_eta, dLetter_eta, dAddr_eta, dSub_eta, dHalf_eta, dPiece_eta, dPolicy_eta, dBucket_eta, dOut_eta, dPieces_eta, dEnd_eta, dKnown_eta, dWorld_eta]); all_goals repeat' (first | with_reducible exact rfl | exact trivial | with_reducible assumption | refine And.intro ?_ ?_ | exact (rfl : (_ : SV) = _) | exact (rfl : (_ : List SC) = _) | (show drawOk _ _ _ = true; exact rfl) | (show ((0 : Nat) : Int) = 0; exact rfl))
          all_goals (try simp only [Ctr.reads, dTag_eta, dRoad_eta, dLetter_eta, dAddr_eta, dSub_eta, dHalf_eta, dPiece_eta, dPolicy_eta, dBucket_eta, dOut_eta, dPieces_eta, dEnd_eta, dKnown_eta, dWorld_eta] at *)
          all_goals first | done | omega | rfl | exact hw.symm | (refine And.intro (And.intro (by omega) (And.intro hn1 hn2)) (by omega)) | grind
        · have hl : i = 3 := by omega
          subst hl
          repeat' ((conv => whnf); first | refine toOb2 ?_ | refine And.intro (fun _ => ?_) (fun _ => ?_) | refine And.intro ?_ ?_ | refine toEx2 ?_ | refine toY ?_ | intro _)
          all_goals try (exfalso; have h9 := of_decide_eq_true (by assumption); revert h9; simp; done)
          all_goals first | refine Ob2.mk ?_ | skip
          all_goals (try simp only [allP, side, Ctr.reads, hfin, mTickEnd, dTag_eta, dRoad_eta, dLetter_eta, dAddr_eta, dSub_eta, dHalf_eta, dPiece_eta, dPolicy_eta, dBucket_eta, dOut_eta, dPieces_eta, dEnd_eta, dKnown_eta, dWorld_eta])
          all_goals first | done | omega | (rw [ha, hc]; done) | grind
    · repeat' ((conv => whnf); first | refine toOb2 ?_ | refine toY ?_ | refine And.intro (fun _ => ?_) (fun _ => ?_) | refine And.intro (toOb2 ?_) ?_ | refine And.intro (?_ : drawOk _ _ _ = true) ?_ | (refine And.intro ⟨?_, ?_⟩ ?_; fail) | intro _)
      all_goals try (exfalso; have h9 := lt_of_dec (n := e.subs.length) (by assumption); omega)
      (all_goals first | (refine Ob2.mk ?_; (try simp only [allP, side, Ctr.reads, hw1, dTag_eta, dRoad_eta, dLetter_eta, dAddr_eta, dSub_eta, dHalf_eta, dPiece_eta, dPolicy_eta, dBucket_eta, dOut_eta, dPieces_eta, dEnd_eta, dKnown_eta, dWorld_eta]); first | done | trivial | assumption | omega | grind) | (show drawOk _ _ _ = true; exact rfl) | skip)
      conv => whnf
      refine And.intro ⟨((0, e.subs, []) : Nat × List DSub × List DLetter), Ob.mk ?_, ?_⟩ (fun (z : Nat × List DSub × List DLetter) hi => ?_)
      · exact And.intro (Nat.zero_le _) (And.intro rfl (And.intro rfl (And.intro (Nat.le_refl _) (fun _ => rfl))))
      · conv => whnf
        refine Ob.mk ?_
        all_goals (try simp only [allP, side, Ctr.reads, dTag_eta, dRoad_eta, dLetter_eta, dAddr_eta, dSub_eta, dHalf_eta, dPiece_eta, dPolicy_eta, dBucket_eta, dOut_eta, dPieces_eta, dEnd_eta, dKnown_eta, dWorld_eta]); all_goals repeat' (first | with_reducible exact rfl | exact trivial | with_reducible assumption | refine And.intro ?_ ?_ | exact (rfl : (_ : SV) = _) | exact (rfl : (_ : List SC) = _) | (show drawOk _ _ _ = true; exact rfl) | (show ((0 : Nat) : Int) = 0; exact rfl))
        all_goals first | done | rfl | exact trivial
      obtain ⟨i, R, acc⟩ := z
      obtain ⟨_, hR, _, hac, h0⟩ := hi
      obtain rfl : i = 0 := h0 hst
      have hR : R = (e.subs.take 0).map tickG ++ e.subs.drop 0 := hR
      have hR0 : R = e.subs := by rw [hR]; simp
      have htl : (mTickL e).length = 0 := by unfold mTickL; rw [if_neg hst]; rfl
      have hac : acc.length ≤ 0 := hac
      obtain rfl : acc = mTickL e := by
        rw [List.length_eq_zero_iff.1 htl]
        exact List.length_eq_zero_iff.1 (by omega)
      have hE : ({ e with now := e.now + 1, bucket := mFilled e.bucket, halfs := mYounger e.halfs (e.now + 1), out := mAnew e.out, subs := R } : DEnd) = mTick1 e := by rw [hR0]; unfold mTick1; rw [if_neg hst]; rfl
      have h1B := mTick1_B hB
      have hlL : (mTickL e).length ≤ 1073741824 := by rw [htl]; decide
      have hsl := h8 hcd.1
      have hs8 : (mTickL e).length ≤ 8 := by rw [htl]; decide
      have hA6 := tell_small hcd.1
      clear hR0 hR
      repeat' ((conv => whnf); first | refine toOb2 ?_ | (refine fun y hy => ?_; (try simp only [Ctr.reads, hw1, hE, dTag_eta, dRoad_eta, dLetter_eta, dAddr_eta, dSub_eta, dHalf_eta, dPiece_eta, dPolicy_eta, dBucket_eta, dOut_eta, dPieces_eta, dEnd_eta, dKnown_eta, dWorld_eta] at hy); subst hy) | refine And.intro (fun _ => ?_) (fun _ => ?_) | refine And.intro (toOb2 ?_) ?_ | refine And.intro (?_ : drawOk _ _ _ = true) ?_ | (refine And.intro ⟨?_, ?_⟩ ?_; fail) | intro _)
      all_goals try (exfalso; simp only [Bool.cond_false_right, Bool.and_eq_true, decide_eq_true_eq, beq_iff_eq] at *; omega)
      all_goals first | (refine Ob2.mk ?_; (try simp only [allP, side, Ctr.reads, hw1, hE, dTag_eta, dRoad_eta, dLetter_eta, dAddr_eta, dSub_eta, dHalf_eta, dPiece_eta, dPolicy_eta, dBucket_eta, dOut_eta, dPieces_eta, dEnd_eta, dKnown_eta, dWorld_eta]); first | done | trivial | assumption | omega | ((repeat' (first | assumption | refine And.intro ?_ ?_ | omega | intro _)); done) | grind) | (show drawOk _ _ _ = true; exact rfl) | skip
      conv => whnf
      refine And.intro ⟨((0, mTick1 e, (mTickL e ++ mTellAddrs (mTick1 e))) : Nat × DEnd × List DLetter), Ob.mk ?_, ?_⟩ (fun (z : Nat × DEnd × List DLetter) hi => ?_)
      · exact And.intro (Nat.zero_le _) (And.intro rfl (by simp [pushN]))
      · conv => whnf
        refine Ob.mk ?_
        all_goals (try simp only [allP, side, Ctr.reads, dTag_eta, dRoad_eta, dLetter_eta, dAddr_eta, dSub_eta, dHalf_eta, dPiece_eta, dPolicy_eta, dBucket_eta, dOut_eta, dPieces_eta, dEnd_eta, dKnown_eta, dWorld_eta]); all_goals repeat' (first | with_reducible exact rfl | exact trivial | with_reducible assumption | refine And.intro ?_ ?_ | exact (rfl : (_ : SV) = _) | exact (rfl : (_ : List SC) = _) | (show drawOk _ _ _ = true; exact rfl) | (show ((0 : Nat) : Int) = 0; exact rfl))
        all_goals first | done | rfl | exact trivial | (rw [← hE]; done) | (show (_ : Int) = _; rw [← hE]; done) | (simp only [← hE]; done) | grind
      obtain ⟨i, a, acc⟩ := z
      obtain ⟨hi, ha, hc⟩ := hi
      have hi : i ≤ 3 := hi
      have ha : a = (pushN i (mTick1 e)).1 := ha
      have hc : acc = (mTickL e ++ mTellAddrs (mTick1 e)) ++ (pushN i (mTick1 e)).2 := hc
      have hab : a.B := by rw [ha]; exact pushN_B h1B i
      have hal := mPush_len1 a
      have hpi := pushN_len (mTick1 e) i
      have hcl : acc.length ≤ 1073741824 := by rw [hc]; simp only [List.length_append]; omega
      have hn : pushN (i + 1) (mTick1 e) = ((mPush a).1, (pushN i (mTick1 e)).2 ++ (mPush a).2) := by rw [ha]; rfl
      have hn2 : acc ++ (mPush a).2 = (mTickL e ++ mTellAddrs (mTick1 e)) ++ (pushN (i + 1) (mTick1 e)).2 := by rw [hn, hc, List.append_assoc]
      have hn1 : (mPush a).1 = (pushN (i + 1) (mTick1 e)).1 := by rw [hn]
      have hw : i < 3 → w64 ((i : Int) + 1) = ((i + 1 : Nat) : Int) := fun h => w64_succ h (by decide)
      rcases Nat.lt_or_ge i 3 with hlt | hge
      · have hw := hw hlt
        clear ha hc hE
        repeat' ((conv => whnf); first | refine toOb2 ?_ | refine And.intro (fun _ => ?_) (fun _ => ?_) | refine And.intro ?_ ?_ | refine toEx2 ?_ | refine toY ?_ | intro _)
        all_goals try (exfalso; have h9 := of_decide_eq_false (by assumption); revert h9; simp; omega)
        all_goals first | refine Ob2.mk ?_ | refine Ex2.of ((i + 1, (mPush a).1, acc ++ (mPush a).2) : Nat × DEnd × List DLetter) ?_ ?_ | skip
        all_goals try ((conv => whnf); refine Ob.mk ?_)
        all_goals (try simp only [allP, side, Ctr.reads, dTag_eta, dRoad_eta, dLetter_eta, dAddr_eta, dSub_eta, dHalf_eta, dPiece_eta, dPolicy_eta, dBucket_eta, dOut_eta, dPieces_eta, dEnd_eta, dKnown_eta, dWorld_eta]); all_goals repeat' (first | with_reducible exact rfl | exact trivial | with_reducible assumption | refine And.intro ?_ ?_ | exact (rfl : (_ : SV) = _) | exact (rfl : (_ : List SC) = _) | (show drawOk _ _ _ = true; exact rfl) | (show ((0 : Nat) : Int) = 0; exact rfl))
        all_goals (try simp only [Ctr.reads, dTag_eta, dRoad_eta, dLetter_eta, dAddr_eta, dSub_eta, dHalf_eta, dPiece_eta, dPolicy_eta, dBucket_eta, dOut_eta, dPieces_eta, dEnd_eta, dKnown_eta, dWorld_eta] at *)
        all_goals first | done | omega | rfl | exact hw.symm | (refine And.intro (And.intro (by omega) (And.intro hn1 hn2)) (by omega)) | grind
      · have hl : i = 3 := by omega
        subst hl
        repeat' ((conv => whnf); first | refine toOb2 ?_ | refine And.intro (fun _ => ?_) (fun _ => ?_) | refine And.intro ?_ ?_ | refine toEx2 ?_ | refine toY ?_ | intro _)
        all_goals try (exfalso; have h9 := of_decide_eq_true (by assumption); revert h9; simp; done)
        all_goals first | refine Ob2.mk ?_ | skip
        all_goals (try simp only [allP, side, Ctr.reads, hfin, mTickEnd, dTag_eta, dRoad_eta, dLetter_eta, dAddr_eta, dSub_eta, dHalf_eta, dPiece_eta, dPolicy_eta, dBucket_eta, dOut_eta, dPieces_eta, dEnd_eta, dKnown_eta, dWorld_eta])
        all_goals first | done | omega | (rw [ha, hc]; done) | grind
set_option maxHeartbeats 1000000 in
theorem h_impl_Filled : Ctr.holds E 230 (.reads [aBucket, aInt] [aBucket] (fun ((b : DBucket), (n : Int), _) => n = 1) fun ((b : DBucket), (n : Int), _) => (mFilled b, ())) := by
  refine fn_ok (Γ := [(251, .reads [aBucket] [aBool] (fun _ => True) fun ((b : DBucket), _) => (mBucketOk b, ())), (255, .reads [aRow .int] [aBool] (fun ((l : List Int), _) => l.length ≤ 1073741824) fun ((l : List Int), _) => (mNums l, ()))]) prgOk (gcons h_impl_BucketOk (gcons h_impl_isNumber gnil)) Tryz.func230 rfl rfl rfl rfl ?_
  rintro ty ⟨(b : DBucket), (n : Int), _⟩ hp
  obtain rfl : n = 1 := hp
  refine ⟨[], ?_⟩
  by_cases hok : mBucketOk b = true
  · obtain ⟨ho1, ho2, ho3, ho4⟩ := bucketOk_bd hok
    repeat' ((conv => whnf); first | refine toOb2 ?_ | refine And.intro (fun _ => ?_) (fun _ => ?_) | refine And.intro ?_ ?_ | refine toEx2 ?_ | refine toY ?_ | intro _)
    all_goals first | refine Ob2.mk ?_ | (show drawOk _ _ _ = true; exact rfl)
    all_goals (try simp only [allP, side, Ctr.reads, dTag_eta, dRoad_eta, dLetter_eta, dAddr_eta, dSub_eta, dHalf_eta, dPiece_eta, dPolicy_eta, dBucket_eta, dOut_eta, dPieces_eta, dEnd_eta, dKnown_eta, dWorld_eta]); all_goals repeat' (first | with_reducible exact rfl | exact trivial | with_reducible assumption | refine And.intro ?_ ?_ | exact (rfl : (_ : SV) = _) | exact (rfl : (_ : List SC) = _) | (show drawOk _ _ _ = true; exact rfl) | (show ((0 : Nat) : Int) = 0; exact rfl))
    all_goals (try simp only [Int.mul_one, Ctr.reads, dTag_eta, dRoad_eta, dLetter_eta, dAddr_eta, dSub_eta, dHalf_eta, dPiece_eta, dPolicy_eta, dBucket_eta, dOut_eta, dPieces_eta, dEnd_eta, dKnown_eta, dWorld_eta] at *)
    all_goals (try simp only [Bool.cond_true_left, Bool.cond_false_right, Bool.or_eq_false_iff, Bool.or_eq_true, Bool.and_eq_true, Bool.and_eq_false_imp, Bool.not_eq_true', Bool.not_eq_false', Bool.not_eq_eq_eq_not, Bool.not_true, Bool.not_false] at *)
    all_goals (try simp only [decide_eq_true_eq, decide_eq_false_iff_not] at *)
    all_goals (try simp (disch := omega) only [w64_id] at *)
    all_goals (try simp (disch := omega) only [w64_id] at *)
    all_goals first | done | with_reducible assumption | with_reducible rfl | omega | grind [mFilled, mBrought, mNums, allL, mNum, mIn]
  · repeat' ((conv => whnf); first | refine toOb2 ?_ | refine And.intro (fun _ => ?_) (fun _ => ?_) | refine And.intro ?_ ?_ | refine toEx2 ?_ | refine toY ?_ | intro _)
    all_goals first | refine Ob2.mk ?_ | (show drawOk _ _ _ = true; exact rfl)
    all_goals (try simp only [allP, side, Ctr.reads, dTag_eta, dRoad_eta, dLetter_eta, dAddr_eta, dSub_eta, dHalf_eta, dPiece_eta, dPolicy_eta, dBucket_eta, dOut_eta, dPieces_eta, dEnd_eta, dKnown_eta, dWorld_eta]); all_goals repeat' (first | with_reducible exact rfl | exact trivial | with_reducible assumption | refine And.intro ?_ ?_ | exact (rfl : (_ : SV) = _) | exact (rfl : (_ : List SC) = _) | (show drawOk _ _ _ = true; exact rfl) | (show ((0 : Nat) : Int) = 0; exact rfl))
    all_goals (try simp only [Int.mul_one, Ctr.reads, dTag_eta, dRoad_eta, dLetter_eta, dAddr_eta, dSub_eta, dHalf_eta, dPiece_eta, dPolicy_eta, dBucket_eta, dOut_eta, dPieces_eta, dEnd_eta, dKnown_eta, dWorld_eta] at *)
    all_goals (try simp only [Bool.cond_true_left, Bool.cond_false_right, Bool.or_eq_false_iff, Bool.or_eq_true, Bool.and_eq_true, Bool.and_eq_false_imp, Bool.not_eq_true', Bool.not_eq_false', Bool.not_eq_eq_eq_not, Bool.not_true, Bool.not_false] at *)
    all_goals first | done | with_reducible assumption | with_reducible rfl | omega | grind [mFilled, mBrought, mNums, allL, mNum, mIn]
set_option maxHeartbeats 1000000 in
theorem h_impl_Younger : Ctr.holds E 231 (.reads [aRow .half, aInt] [aRow .half] (fun ((l : List DHalf), (n : Int), _) => l.length ≤ 1073741824) fun ((l : List DHalf), (n : Int), _) => (mYounger l n, ())) := by
  refine fn_ok (Γ := []) prgOk gnil Tryz.func231 rfl rfl rfl rfl ?_
  rintro ty ⟨(l : List DHalf), (n : Int), _⟩ (hp : l.length ≤ 1073741824)
  refine ⟨[(3, { X := Nat × List DHalf, inv := fun x => x.1 ≤ l.length ∧ x.2 ++ colL (fYoung n) (l.drop x.1) x.1 = mYounger l n ∧ x.2.length ≤ x.1, mu := fun x => l.length - x.1, vk := [10, 5], ov := fun x => [.a (.c (.leaf (.int (x.1 : Int)))), .a (.c (.row 320))], bk := [], ob := fun x => [], rk := [320], orr := fun x => [⟨.half, x.2, true, none⟩] })], ?_⟩
  conv => whnf
  refine And.intro ⟨((0, []) : Nat × List DHalf), Ob.mk ?_, ?_⟩ (fun (x : Nat × List DHalf) hi => ?_)
  · exact And.intro (Nat.zero_le _) (And.intro (rfl) (Nat.le_refl _))
  · conv => whnf
    refine Ob.mk ?_
    all_goals (try simp only [allP, side, Ctr.reads, dTag_eta, dRoad_eta, dLetter_eta, dAddr_eta, dSub_eta, dHalf_eta, dPiece_eta, dPolicy_eta, dBucket_eta, dOut_eta, dPieces_eta, dEnd_eta, dKnown_eta, dWorld_eta]); all_goals repeat' (first | with_reducible exact rfl | exact trivial | with_reducible assumption | refine And.intro ?_ ?_ | exact (rfl : (_ : SV) = _) | exact (rfl : (_ : List SC) = _) | (show drawOk _ _ _ = true; exact rfl) | (show ((0 : Nat) : Int) = 0; exact rfl))
  obtain ⟨i, acc⟩ := x
  obtain ⟨hi, hm⟩ := hi
  have hi : i ≤ l.length := hi
  have hm : acc ++ colL (fYoung n) (l.drop i) i = mYounger l n ∧ acc.length ≤ i := hm
  rcases Nat.lt_or_ge i l.length with hlt | hge
  · obtain ⟨x, hx, hxi, hd⟩ := at_step l i (ETy.zero .half) hlt
    rw [hd, colL] at hm
    have hw := w64_succ hlt (hp)
    repeat' ((conv => whnf); first | refine toOb2 ?_ | refine And.intro (fun _ => ?_) (fun _ => ?_) | refine And.intro ?_ ?_ | refine toEx2 ?_ | intro _)
    all_goals try (exfalso; exact Nat.lt_irrefl _ (Nat.lt_of_lt_of_le hlt (ge_of_dec (by assumption))))
    all_goals first | refine Ob2.mk ?_ | refine Ex2.of ((i + 1, if x.til > n then acc ++ [x] else acc)) ?_ ?_ | skip
    all_goals try ((conv => whnf); refine Ob.mk ?_)
    all_goals (try simp only [allP, side, Ctr.reads, dTag_eta, dRoad_eta, dLetter_eta, dAddr_eta, dSub_eta, dHalf_eta, dPiece_eta, dPolicy_eta, dBucket_eta, dOut_eta, dPieces_eta, dEnd_eta, dKnown_eta, dWorld_eta]); all_goals repeat' (first | with_reducible exact rfl | exact trivial | with_reducible assumption | refine And.intro ?_ ?_ | exact (rfl : (_ : SV) = _) | exact (rfl : (_ : List SC) = _) | (show drawOk _ _ _ = true; exact rfl) | (show ((0 : Nat) : Int) = 0; exact rfl))
    all_goals (try simp only [hx, ETy.frm, Ctr.reads, dTag_eta, dRoad_eta, dLetter_eta, dAddr_eta, dSub_eta, dHalf_eta, dPiece_eta, dPolicy_eta, dBucket_eta, dOut_eta, dPieces_eta, dEnd_eta, dKnown_eta, dWorld_eta] at *)
    all_goals first | done | grind [fYoung, mYounger]
  · have hl : i = l.length := by omega
    subst hl
    rw [List.drop_length, colL] at hm
    repeat' ((conv => whnf); first | refine toOb2 ?_ | refine And.intro (fun _ => ?_) (fun _ => ?_) | refine And.intro ?_ ?_ | refine toEx2 ?_ | intro _)
    all_goals try (exfalso; exact Nat.lt_irrefl _ (Nat.lt_of_lt_of_le (lt_of_dec (by assumption)) hge))
    all_goals first | refine Ob2.mk ?_ | refine Ex2.of ((l.length, acc)) ?_ ?_ | skip
    all_goals try ((conv => whnf); refine Ob.mk ?_)
    all_goals (try simp only [allP, side, Ctr.reads, dTag_eta, dRoad_eta, dLetter_eta, dAddr_eta, dSub_eta, dHalf_eta, dPiece_eta, dPolicy_eta, dBucket_eta, dOut_eta, dPieces_eta, dEnd_eta, dKnown_eta, dWorld_eta]); all_goals repeat' (first | with_reducible exact rfl | exact trivial | with_reducible assumption | refine And.intro ?_ ?_ | exact (rfl : (_ : SV) = _) | exact (rfl : (_ : List SC) = _) | (show drawOk _ _ _ = true; exact rfl) | (show ((0 : Nat) : Int) = 0; exact rfl))
    all_goals (try simp only [ETy.frm, Ctr.reads, dTag_eta, dRoad_eta, dLetter_eta, dAddr_eta, dSub_eta, dHalf_eta, dPiece_eta, dPolicy_eta, dBucket_eta, dOut_eta, dPieces_eta, dEnd_eta, dKnown_eta, dWorld_eta] at *)
    all_goals first | done | grind [fYoung, mYounger]
set_option maxHeartbeats 1000000 in
theorem h_impl_Anew : Ctr.holds E 232 (.reads [aOut] [aOut] (fun ((o : DOut), _) => True) fun ((o : DOut), _) => (mAnew o, ())) := by
  refine fn_ok (Γ := [(252, .reads [aOut] [aBool] (fun _ => True) fun ((o : DOut), _) => (mOutOk o, ()))]) prgOk (gcons h_impl_OutOk gnil) Tryz.func232 rfl rfl rfl rfl ?_
  rintro ty ⟨(o : DOut), _⟩ hp
  refine ⟨[], ?_⟩
  repeat' ((conv => whnf); first | refine toOb2 ?_ | refine And.intro (fun _ => ?_) (fun _ => ?_) | refine And.intro ?_ ?_ | refine toEx2 ?_ | refine toY ?_ | intro _)
  all_goals first | refine Ob2.mk ?_ | (show drawOk _ _ _ = true; exact rfl)
  all_goals (try simp only [allP, side, Ctr.reads, dTag_eta, dRoad_eta, dLetter_eta, dAddr_eta, dSub_eta, dHalf_eta, dPiece_eta, dPolicy_eta, dBucket_eta, dOut_eta, dPieces_eta, dEnd_eta, dKnown_eta, dWorld_eta]); all_goals repeat' (first | with_reducible exact rfl | exact trivial | with_reducible assumption | refine And.intro ?_ ?_ | exact (rfl : (_ : SV) = _) | exact (rfl : (_ : List SC) = _) | (show drawOk _ _ _ = true; exact rfl) | (show ((0 : Nat) : Int) = 0; exact rfl))
  all_goals (try simp only [Ctr.reads, dTag_eta, dRoad_eta, dLetter_eta, dAddr_eta, dSub_eta, dHalf_eta, dPiece_eta, dPolicy_eta, dBucket_eta, dOut_eta, dPieces_eta, dEnd_eta, dKnown_eta, dWorld_eta] at *)
  all_goals (try simp only [Bool.cond_true_left, Bool.cond_false_right, Bool.or_eq_false_iff, Bool.or_eq_true, Bool.and_eq_true, Bool.and_eq_false_imp, Bool.not_eq_true', Bool.not_eq_false', Bool.not_eq_eq_eq_not, Bool.not_true, Bool.not_false] at *)
  all_goals first | done | with_reducible assumption | with_reducible rfl | omega | grind [mAnew]
set_option maxHeartbeats 1000000 in
theorem h_impl_tickEnd : Ctr.holds E 233 (⟨[aEnd, aRow .letter], [.own, .own], [aEnd, aRow .letter], (fun ((e : DEnd), (l : List DLetter), _) => e.B ∧ l.length ≤ 1073741824), (fun ((e : DEnd), (l : List DLetter), _) => ((mTickEnd e l).1, (mTickEnd e l).2, ())), fun x => x⟩) := by
  refine fn_ok (Γ := [(290, .reads [aEnd] [aRow .letter] (fun ((e : DEnd), _) => e.B) fun ((e : DEnd), _) => (mTellAddrs e, ())), (196, ⟨[aEnd], [.own], [aEnd, aRow .letter], (fun ((e : DEnd), _) => e.B), (fun ((e : DEnd), _) => ((pushN 3 e).1, (pushN 3 e).2, ())), fun x => x⟩)]) prgOk (gcons h_impl_TellAddrs (gcons h_impl_pushSome gnil)) Tryz.func233 rfl rfl rfl rfl ?_
  rintro ty ⟨(e : DEnd), (l : List DLetter), _⟩ (hp : e.B ∧ l.length ≤ 1073741824)
  obtain ⟨hp, hp2⟩ := hp
  have hpl := pushN_len e 3
  have htl := mTellAddrs_len hp
  refine ⟨[], ?_⟩
  repeat' ((conv => whnf); first | refine toOb2 ?_ | refine And.intro (fun _ => ?_) (fun _ => ?_) | refine And.intro ?_ ?_ | refine toEx2 ?_ | refine toY ?_ | intro _)
  all_goals first | refine Ob2.mk ?_ | (show drawOk _ _ _ = true; exact rfl)
  all_goals (try simp only [allP, side, Ctr.reads, dTag_eta, dRoad_eta, dLetter_eta, dAddr_eta, dSub_eta, dHalf_eta, dPiece_eta, dPolicy_eta, dBucket_eta, dOut_eta, dPieces_eta, dEnd_eta, dKnown_eta, dWorld_eta]); all_goals repeat' (first | with_reducible exact rfl | exact trivial | with_reducible assumption | refine And.intro ?_ ?_ | exact (rfl : (_ : SV) = _) | exact (rfl : (_ : List SC) = _) | (show drawOk _ _ _ = true; exact rfl) | (show ((0 : Nat) : Int) = 0; exact rfl))
  all_goals (try simp only [List.length_append, Ctr.reads, dTag_eta, dRoad_eta, dLetter_eta, dAddr_eta, dSub_eta, dHalf_eta, dPiece_eta, dPolicy_eta, dBucket_eta, dOut_eta, dPieces_eta, dEnd_eta, dKnown_eta, dWorld_eta] at *)
  all_goals (try simp only [Bool.cond_true_left, Bool.cond_false_right, Bool.or_eq_false_iff, Bool.or_eq_true, Bool.and_eq_true, Bool.and_eq_false_imp, Bool.not_eq_true', Bool.not_eq_false', Bool.not_eq_eq_eq_not, Bool.not_true, Bool.not_false] at *)
  all_goals first | done | with_reducible assumption | with_reducible rfl | omega | grind [mTickEnd]
set_option maxHeartbeats 1000000 in
theorem h_impl_Tick : Ctr.holds E 93 (.reads [aEnd] [aEnd, aRow .letter] (fun ((e : DEnd), _) => e.B) fun ((e : DEnd), _) => ((mTick e).1, (mTick e).2, ())) := by
  refine fn_ok (Γ := [(115, .reads [aEnd] [aEnd] (fun ((e : DEnd), _) => e.B) fun (e, _) => (e, ())), (112, .reads [aEnd] [aBool] (fun ((e : DEnd), _) => e.B) fun ((e : DEnd), _) => (mEndOk e, ())), (230, .reads [aBucket, aInt] [aBucket] (fun ((b : DBucket), (n : Int), _) => n = 1) fun ((b : DBucket), (n : Int), _) => (mFilled b, ())), (231, .reads [aRow .half, aInt] [aRow .half] (fun ((l : List DHalf), (n : Int), _) => l.length ≤ 1073741824) fun ((l : List DHalf), (n : Int), _) => (mYounger l n, ())), (232, .reads [aOut] [aOut] (fun ((o : DOut), _) => True) fun ((o : DOut), _) => (mAnew o, ())), (233, ⟨[aEnd, aRow .letter], [.own, .own], [aEnd, aRow .letter], (fun ((e : DEnd), (l : List DLetter), _) => e.B ∧ l.length ≤ 1073741824), (fun ((e : DEnd), (l : List DLetter), _) => ((mTickEnd e l).1, (mTickEnd e l).2, ())), fun x => x⟩), (160, .reads [aEnd, aSub] [aLetter] (fun ((e : DEnd), (s : DSub), _) => True) fun ((e : DEnd), (s : DSub), _) => (mJoinLetter e s, ())), (166, .reads [aEnd, aSub] [aLetter] (fun ((e : DEnd), (s : DSub), _) => True) fun ((e : DEnd), (s : DSub), _) => (mDoneLetter e s, ()))]) prgOk (gcons h_impl_copyEnd (gcons h_impl_EndOk (gcons h_impl_Filled (gcons h_impl_Younger (gcons h_impl_Anew (gcons h_impl_tickEnd (gcons h_impl_joinLetter (gcons h_impl_doneLetter gnil)))))))) Tryz.func93 rfl rfl rfl rfl ?_
  rintro ty ⟨(e : DEnd), _⟩ (hp : e.B)
  have hB := hp
  obtain ⟨hb1, hb2, hb3, hb4, hb5, hb6, hb7⟩ := hp
  have h8 := fun h : mEndOk e = true => (endOk_split h).2.2.1
  have hnm := fun h : mEndOk e = true => endOk_nums h
  have hw1 := fun h : mEndOk e = true => now_w1 h
  have hyl : (mYounger e.halfs (e.now + 1)).length ≤ 1073741824 := Nat.le_trans (colL_le _ _ _) hb4
  refine ⟨[(5, { X := Nat, inv := fun i => i ≤ e.subs.length ∧ anyL (fun s : DSub => decide (s.tries ≥ 1000000000)) (e.subs.drop i) = mTired e, mu := fun i => e.subs.length - i, vk := [24], ov := fun i => [.a (.c (.leaf (.int (i : Int))))], bk := [], ob := fun i => [], rk := [], orr := fun i => [] }), (18, { X := Nat × List DSub × List DLetter, inv := fun z => z.1 ≤ e.subs.length ∧ z.2.1 = (e.subs.take z.1).map tickG ++ e.subs.drop z.1 ∧ z.2.2 ++ colL (tickF e) (e.subs.drop z.1) z.1 = colL (tickF e) e.subs 0 ∧ z.2.2.length ≤ z.1 ∧ (e.state ≠ 2 → z.1 = 0), mu := fun z => e.subs.length - z.1, vk := [61, 7], ov := fun z => [.a (.c (.leaf (.int (z.1 : Int)))), .a (.c (.row 448))], bk := [], ob := fun z => [], rk := [712, 448], orr := fun z => [⟨.sub, z.2.1, true, none⟩, ⟨.letter, z.2.2, true, none⟩] })], ?_⟩
  repeat' ((conv => whnf); first | refine toOb2 ?_ | refine toY ?_ | refine And.intro (fun _ => ?_) (fun _ => ?_) | refine And.intro (toOb2 ?_) ?_ | refine And.intro (?_ : drawOk _ _ _ = true) ?_ | (refine And.intro ⟨?_, ?_⟩ ?_; fail) | intro _)
  (all_goals first | (refine Ob2.mk ?_; (try simp only [allP, side, Ctr.reads, dTag_eta, dRoad_eta, dLetter_eta, dAddr_eta, dSub_eta, dHalf_eta, dPiece_eta, dPolicy_eta, dBucket_eta, dOut_eta, dPieces_eta, dEnd_eta, dKnown_eta, dWorld_eta] at *); (try simp only [Bool.cond_true_left, Bool.cond_false_right, Bool.or_eq_false_iff, Bool.or_eq_true, Bool.and_eq_true, Bool.and_eq_false_imp, Bool.not_eq_true', Bool.not_eq_false', Bool.not_eq_eq_eq_not, Bool.not_true, Bool.not_false, imp_self, implies_true, and_self, and_true, true_and] at *); first | done | trivial | assumption | omega | grind [mTick]) | (show drawOk _ _ _ = true; exact rfl) | skip)
  (all_goals rename_i hcond)
  have hok : mEndOk e = true ∧ e.now < 1000000000 := by (try simp only [Ctr.reads, dTag_eta, dRoad_eta, dLetter_eta, dAddr_eta, dSub_eta, dHalf_eta, dPiece_eta, dPolicy_eta, dBucket_eta, dOut_eta, dPieces_eta, dEnd_eta, dKnown_eta, dWorld_eta] at hcond); grind
  clear hcond
  conv => whnf
  refine And.intro ⟨(0 : Nat), Ob.mk ?_, ?_⟩ (fun (i : Nat) hi => ?_)
  · exact And.intro (Nat.zero_le _) rfl
  · conv => whnf
    refine Ob.mk ?_
    all_goals (try simp only [allP, side, Ctr.reads, dTag_eta, dRoad_eta, dLetter_eta, dAddr_eta, dSub_eta, dHalf_eta, dPiece_eta, dPolicy_eta, dBucket_eta, dOut_eta, dPieces_eta, dEnd_eta, dKnown_eta, dWorld_eta]); all_goals repeat' (first | with_reducible exact rfl | exact trivial | with_reducible assumption | refine And.intro ?_ ?_ | exact (rfl : (_ : SV) = _) | exact (rfl : (_ : List SC) = _) | (show drawOk _ _ _ = true; exact rfl) | (show ((0 : Nat) : Int) = 0; exact rfl))
  obtain ⟨hi, hm⟩ := hi
  have hi : i ≤ e.subs.length := hi
  have hm : anyL (fun s : DSub => decide (s.tries ≥ 1000000000)) (e.subs.drop i) = mTired e := hm
  rcases Nat.lt_or_ge i e.subs.length with hlt | hge
  · obtain ⟨s, hx, hxi, hd⟩ := at_step e.subs i (ETy.zero .sub) hlt
    rw [hd, anyL] at hm
    have hw := w64_succ hlt hb3
    have hst2 := sub_nums hok.1 i s hxi
    repeat' ((conv => whnf); first | refine toOb2 ?_ | refine And.intro (fun _ => ?_) (fun _ => ?_) | refine And.intro (toOb2 ?_) ?_ | refine And.intro (?_ : drawOk _ _ _ = true) ?_ | refine toEx2 ?_ | refine toY ?_ | intro _)
    all_goals try (exfalso; exact Nat.lt_irrefl _ (Nat.lt_of_lt_of_le hlt (ge_of_dec (by assumption))))
    all_goals first | refine Ob2.mk ?_ | refine Ex2.of (i + 1) ?_ ?_ | skip
    all_goals try ((conv => whnf); refine Ob.mk ?_)
    all_goals (try simp only [allP, side, Ctr.reads, dTag_eta, dRoad_eta, dLetter_eta, dAddr_eta, dSub_eta, dHalf_eta, dPiece_eta, dPolicy_eta, dBucket_eta, dOut_eta, dPieces_eta, dEnd_eta, dKnown_eta, dWorld_eta]); all_goals repeat' (first | with_reducible exact rfl | exact trivial | with_reducible assumption | refine And.intro ?_ ?_ | exact (rfl : (_ : SV) = _) | exact (rfl : (_ : List SC) = _) | (show drawOk _ _ _ = true; exact rfl) | (show ((0 : Nat) : Int) = 0; exact rfl))
    all_goals (try simp only [hx, Ctr.reads, dTag_eta, dRoad_eta, dLetter_eta, dAddr_eta, dSub_eta, dHalf_eta, dPiece_eta, dPolicy_eta, dBucket_eta, dOut_eta, dPieces_eta, dEnd_eta, dKnown_eta, dWorld_eta] at *)
    all_goals (try simp only [Bool.cond_true_left, Bool.cond_false_right, Bool.or_eq_false_iff, Bool.or_eq_true, Bool.and_eq_true, Bool.and_eq_false_imp, Bool.not_eq_true', Bool.not_eq_false', Bool.not_eq_eq_eq_not, Bool.not_true, Bool.not_false] at *)
    all_goals (try simp only [decide_eq_true_eq, decide_eq_false_iff_not] at *)
    all_goals first | done | omega | grind [mTick]
  · have hl : i = e.subs.length := by omega
    subst hl
    rw [List.drop_length, anyL] at hm
    have hcd : mEndOk e = true ∧ e.now < 1000000000 ∧ mTired e = false := ⟨hok.1, hok.2, hm.symm⟩
    have hw1 := hw1 hok.1
    have hfin : mTick e = mTickEnd (mTick1 e) (mTickL e) := by unfold mTick; rw [if_pos hcd]
    clear hm
    by_cases hst : e.state = 2
    · repeat' ((conv => whnf); first | refine toOb2 ?_ | refine toY ?_ | refine And.intro (fun _ => ?_) (fun _ => ?_) | refine And.intro (toOb2 ?_) ?_ | refine And.intro (?_ : drawOk _ _ _ = true) ?_ | (refine And.intro ⟨?_, ?_⟩ ?_; fail) | intro _)
      all_goals try (exfalso; have h9 := lt_of_dec (n := e.subs.length) (by assumption); omega)
      all_goals try (exfalso; revert ‹_ = true›; simp [hst]; done)
      (all_goals first | (refine Ob2.mk ?_; (try simp only [allP, side, Ctr.reads, hw1, dTag_eta, dRoad_eta, dLetter_eta, dAddr_eta, dSub_eta, dHalf_eta, dPiece_eta, dPolicy_eta, dBucket_eta, dOut_eta, dPieces_eta, dEnd_eta, dKnown_eta, dWorld_eta]); first | done | trivial | assumption | omega | grind) | (show drawOk _ _ _ = true; exact rfl) | skip)
      conv => whnf
      refine And.intro ⟨((0, e.subs, []) : Nat × List DSub × List DLetter), Ob.mk ?_, ?_⟩ (fun (z : Nat × List DSub × List DLetter) hi => ?_)
      · exact And.intro (Nat.zero_le _) (And.intro rfl (And.intro rfl (And.intro (Nat.le_refl _) (fun _ => rfl))))
      · conv => whnf
        refine Ob.mk ?_
        all_goals (try simp only [allP, side, Ctr.reads, dTag_eta, dRoad_eta, dLetter_eta, dAddr_eta, dSub_eta, dHalf_eta, dPiece_eta, dPolicy_eta, dBucket_eta, dOut_eta, dPieces_eta, dEnd_eta, dKnown_eta, dWorld_eta]); all_goals repeat' (first | with_reducible exact rfl | exact trivial | with_reducible assumption | refine And.intro ?_ ?_ | exact (rfl : (_ : SV) = _) | exact (rfl : (_ : List SC) = _) | (show drawOk _ _ _ = true; exact rfl) | (show ((0 : Nat) : Int) = 0; exact rfl))
        all_goals first | done | rfl | exact trivial
      obtain ⟨i, R, acc⟩ := z
      obtain ⟨hi, hR, hm, hac, _⟩ := hi
      have hi : i ≤ e.subs.length := hi
      have hR : R = (e.subs.take i).map tickG ++ e.subs.drop i := hR
      have hm : acc ++ colL (tickF e) (e.subs.drop i) i = colL (tickF e) e.subs 0 := hm
      have hac : acc.length ≤ i := hac
      have hRl : R.length = e.subs.length := by rw [hR]; simp; omega
      rcases Nat.lt_or_ge i e.subs.length with hlt | hge
      · obtain ⟨s, hx, hxi, hd⟩ := at_step e.subs i (ETy.zero .sub) hlt
        rw [hd, colL] at hm
        have hw := w64_succ hlt hb3
        have hRg : R.getD i (ETy.zero .sub) = s := by rw [hR]; exact map_get _ _ _ _ _ hxi
        have hR1 : R.set i (tickG s) = (e.subs.take (i + 1)).map tickG ++ e.subs.drop (i + 1) := by rw [hR]; exact map_step _ _ _ _ hxi
        have hR2 : tickG s = s → R = (e.subs.take (i + 1)).map tickG ++ e.subs.drop (i + 1) := fun h => by rw [hR]; exact map_same _ _ _ _ hxi h
        have htd := tired_no hcd.2.2 i s hxi
        have hst2 := sub_nums hcd.1 i s hxi
        have hwt : w64 (s.tries + 1) = s.tries + 1 := w64_id (by omega) (by omega)
        have hjl : ∀ t, mJoinLetter e { s with tries := t } = mJoinLetter e s := fun t => rfl
        have hdl : ∀ t, mDoneLetter e { s with tries := t } = mDoneLetter e s := fun t => rfl
        have hjl2 : mJoinLetter ({ e with now := e.now + 1, bucket := mFilled e.bucket, halfs := mYounger e.halfs (e.now + 1), out := mAnew e.out, subs := R.set i { s with tries := s.tries + 1 } } : DEnd) s = mJoinLetter e s := rfl
        have hdl2 : mDoneLetter ({ e with now := e.now + 1, bucket := mFilled e.bucket, halfs := mYounger e.halfs (e.now + 1), out := mAnew e.out, subs := R.set i { s with tries := s.tries + 1 } } : DEnd) s = mDoneLetter e s := rfl
        clear hR hd hcd h8 hnm
        repeat' ((conv => whnf); first | refine toOb2 ?_ | refine And.intro (fun _ => ?_) (fun _ => ?_) | refine And.intro ?_ ?_ | refine toEx2 ?_ | refine toY ?_ | intro _)
        all_goals try (exfalso; have h9 := ge_of_dec (n := R.length) (by assumption); omega)
        all_goals try (exfalso; have h9 := ge_of_dec (n := e.subs.length) (by assumption); omega)
        all_goals first | refine Ob2.mk ?_ | (show drawOk _ _ _ = true; exact rfl) | refine Ex2.of ((i + 1, (if tickG s = s then R else R.set i (tickG s)), (match tickF e s i with | some l => acc ++ [l] | none => acc)) : Nat × List DSub × List DLetter) ?_ ?_ | skip
        all_goals try ((conv => whnf); refine Ob.mk ?_)
        all_goals (try simp only [allP, side, Ctr.reads, dTag_eta, dRoad_eta, dLetter_eta, dAddr_eta, dSub_eta, dHalf_eta, dPiece_eta, dPolicy_eta, dBucket_eta, dOut_eta, dPieces_eta, dEnd_eta, dKnown_eta, dWorld_eta]); all_goals repeat' (first | with_reducible exact rfl | exact trivial | with_reducible assumption | refine And.intro ?_ ?_ | exact (rfl : (_ : SV) = _) | exact (rfl : (_ : List SC) = _) | (show drawOk _ _ _ = true; exact rfl) | (show ((0 : Nat) : Int) = 0; exact rfl))
        all_goals (try simp only [Int.toNat_natCast, hRg, ETy.frm, hwt, hw1, Ctr.reads, dTag_eta, dRoad_eta, dLetter_eta, dAddr_eta, dSub_eta, dHalf_eta, dPiece_eta, dPolicy_eta, dBucket_eta, dOut_eta, dPieces_eta, dEnd_eta, dKnown_eta, dWorld_eta] at *)
        all_goals (try simp (disch := first | assumption | omega | (simp only [List.length_set]; omega)) only [set_get, List.set_set, hwt, hjl, hdl, hjl2, hdl2, List.length_set, dTag_eta, dRoad_eta, dLetter_eta, dAddr_eta, dSub_eta, dHalf_eta, dPiece_eta, dPolicy_eta, dBucket_eta, dOut_eta, dPieces_eta, dEnd_eta, dKnown_eta, dWorld_eta] at *)
        all_goals (try simp only [Bool.cond_true_left, Bool.cond_false_right, Bool.or_eq_false_iff, Bool.or_eq_true, Bool.and_eq_true, Bool.and_eq_false_imp, Bool.not_eq_true', Bool.not_eq_false', Bool.not_eq_eq_eq_not, Bool.not_true, Bool.not_false] at *)
        all_goals (try simp only [decide_eq_true_eq, decide_eq_false_iff_not] at *)
        all_goals first | done | omega | grind [tickG, tickF]
      · have hl : i = e.subs.length := by omega
        subst hl
        have hRm : R = e.subs.map tickG := by rw [hR]; simp
        clear hR
        rw [List.drop_length, colL, List.append_nil] at hm
        subst hm
        have hE : ({ e with now := e.now + 1, bucket := mFilled e.bucket, halfs := mYounger e.halfs (e.now + 1), out := mAnew e.out, subs := R } : DEnd) = mTick1 e := by rw [hRm]; unfold mTick1; rw [if_pos hst]; rfl
        have hL : colL (tickF e) e.subs 0 = mTickL e := by unfold mTickL; rw [if_pos hst]
        have h1B := mTick1_B hB
        have hlL : (mTickL e).length ≤ 1073741824 := by rw [← hL]; omega
        clear hRm hge
        repeat' ((conv => whnf); first | refine toOb2 ?_ | refine And.intro (fun _ => ?_) (fun _ => ?_) | refine And.intro ?_ ?_ | refine toEx2 ?_ | (refine fun y hy => ?_; (try simp only [Ctr.reads, hw1, hE, hL, dTag_eta, dRoad_eta, dLetter_eta, dAddr_eta, dSub_eta, dHalf_eta, dPiece_eta, dPolicy_eta, dBucket_eta, dOut_eta, dPieces_eta, dEnd_eta, dKnown_eta, dWorld_eta] at hy); subst hy) | intro _)
        all_goals try (exfalso; have h9 := lt_of_dec (n := e.subs.length) (by assumption); omega)
        all_goals first | refine Ob2.mk ?_ | skip
        all_goals (try simp only [allP, side, Ctr.reads, hw1, hE, hL, hfin, dTag_eta, dRoad_eta, dLetter_eta, dAddr_eta, dSub_eta, dHalf_eta, dPiece_eta, dPolicy_eta, dBucket_eta, dOut_eta, dPieces_eta, dEnd_eta, dKnown_eta, dWorld_eta])
        all_goals first | done | trivial | assumption | omega | ((repeat' (first | assumption | refine And.intro ?_ ?_ | omega | intro _)); done) | grind
    · have hE : ({ e with now := e.now + 1, bucket := mFilled e.bucket, halfs := mYounger e.halfs (e.now + 1), out := mAnew e.out } : DEnd) = mTick1 e := by unfold mTick1; rw [if_neg hst]; rfl
      have hL : ([] : List DLetter) = mTickL e := by unfold mTickL; rw [if_neg hst]
      have h1B := mTick1_B hB
      have hlL : (mTickL e).length ≤ 1073741824 := by rw [← hL]; simp
      repeat' ((conv => whnf); first | refine toOb2 ?_ | (refine fun y hy => ?_; (try simp only [Ctr.reads, hw1, hE, hL, dTag_eta, dRoad_eta, dLetter_eta, dAddr_eta, dSub_eta, dHalf_eta, dPiece_eta, dPolicy_eta, dBucket_eta, dOut_eta, dPieces_eta, dEnd_eta, dKnown_eta, dWorld_eta] at hy); subst hy) | refine And.intro (fun _ => ?_) (fun _ => ?_) | refine And.intro (toOb2 ?_) ?_ | refine And.intro (?_ : drawOk _ _ _ = true) ?_ | (refine And.intro ⟨?_, ?_⟩ ?_; fail) | intro _)
      all_goals try (exfalso; have h9 := lt_of_dec (n := e.subs.length) (by assumption); omega)
      all_goals first | refine Ob2.mk ?_ | (show drawOk _ _ _ = true; exact rfl) | (exfalso; revert ‹_ = false›; simp [hst]; done) | skip
      all_goals (try simp only [allP, side, Ctr.reads, hw1, hE, hL, hfin, dTag_eta, dRoad_eta, dLetter_eta, dAddr_eta, dSub_eta, dHalf_eta, dPiece_eta, dPolicy_eta, dBucket_eta, dOut_eta, dPieces_eta, dEnd_eta, dKnown_eta, dWorld_eta])
      all_goals first | done | trivial | assumption | omega | ((repeat' (first | assumption | refine And.intro ?_ ?_ | omega | intro _)); done) | grind
end Go.Proofs.YtjlbibidgdnjdaaGreat
