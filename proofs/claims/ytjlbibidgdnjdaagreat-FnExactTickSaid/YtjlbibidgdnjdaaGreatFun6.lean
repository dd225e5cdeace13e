/- Contracts of functions of the program, each shown over the text. -/
import Derived.Test.YtjlbibidgdnjdaaGreatFun5
set_option linter.unusedVariables false
set_option linter.unusedSimpArgs false
set_option maxRecDepth 100000
namespace Go.Proofs.YtjlbibidgdnjdaaGreat
open Go.Eng
set_option maxHeartbeats 1000000 in
theorem h_spec_NextPiece : Ctr.holds E 174 (.reads [aOut] [aPiece, aBool] (fun ((o : DOut), _) => True) fun ((o : DOut), _) => ((mNextPiece o).1, (mNextPiece o).2, ())) := by
  refine fn_ok (Γ := [(239, .reads [aOut] [aBool] (fun _ => True) fun ((o : DOut), _) => (mOutOk o, ()))]) prgOk (gcons h_spec_OutOk gnil) Tryz.func174 rfl rfl rfl rfl ?_
  rintro ty ⟨(o : DOut), _⟩ hp
  refine ⟨[], ?_⟩
  by_cases hok : mOutOk o = true
  · obtain ⟨ho1, ho2, ho3, ho4⟩ := outOk_bd hok
    have hpl : ((o.text.drop (o.sent - o.base).toNat).length : Int) = o.text.length - (o.sent - o.base) := by rw [List.length_drop]; omega
    have hA : ∀ l : List UInt8, l.take ((l.length : Int)).toNat = l := fun l => by simp
    have hB : ∀ l : List UInt8, (l.length : Int) ≤ 20 → l.take 20 = l := fun l h => List.take_of_length_le (by omega)
    repeat' ((conv => whnf); first | refine toOb2 ?_ | refine And.intro (fun _ => ?_) (fun _ => ?_) | refine And.intro ?_ ?_ | refine toEx2 ?_ | refine toY ?_ | intro _)
    all_goals first | refine Ob2.mk ?_ | (show drawOk _ _ _ = true; exact rfl)
    all_goals (try simp only [allP, side, Ctr.reads, dTag_eta, dRoad_eta, dLetter_eta, dAddr_eta, dSub_eta, dHalf_eta, dPiece_eta, dPolicy_eta, dBucket_eta, dOut_eta, dPieces_eta, dEnd_eta, dKnown_eta, dWorld_eta]); all_goals repeat' (first | with_reducible exact rfl | exact trivial | with_reducible assumption | refine And.intro ?_ ?_ | exact (rfl : (_ : SV) = _) | exact (rfl : (_ : List SC) = _) | (show drawOk _ _ _ = true; exact rfl) | (show ((0 : Nat) : Int) = 0; exact rfl))
    all_goals (try simp only [Ctr.reads, dTag_eta, dRoad_eta, dLetter_eta, dAddr_eta, dSub_eta, dHalf_eta, dPiece_eta, dPolicy_eta, dBucket_eta, dOut_eta, dPieces_eta, dEnd_eta, dKnown_eta, dWorld_eta] at *)
    all_goals (try simp only [Bool.cond_true_left, Bool.cond_false_right, Bool.or_eq_false_iff, Bool.or_eq_true, Bool.and_eq_true, Bool.and_eq_false_imp, Bool.not_eq_true', Bool.not_eq_false', Bool.not_eq_eq_eq_not, Bool.not_true, Bool.not_false] at *)
    all_goals (try simp only [decide_eq_true_eq, decide_eq_false_iff_not] at *)
    all_goals (try simp (disch := omega) only [w64_id] at *)
    all_goals (try simp (disch := omega) only [w64_id] at *)
    all_goals first | done | with_reducible assumption | with_reducible rfl | omega | grind [mNextPiece]
  · repeat' ((conv => whnf); first | refine toOb2 ?_ | refine And.intro (fun _ => ?_) (fun _ => ?_) | refine And.intro ?_ ?_ | refine toEx2 ?_ | refine toY ?_ | intro _)
    all_goals first | refine Ob2.mk ?_ | (show drawOk _ _ _ = true; exact rfl)
    all_goals (try simp only [allP, side, Ctr.reads, dTag_eta, dRoad_eta, dLetter_eta, dAddr_eta, dSub_eta, dHalf_eta, dPiece_eta, dPolicy_eta, dBucket_eta, dOut_eta, dPieces_eta, dEnd_eta, dKnown_eta, dWorld_eta]); all_goals repeat' (first | with_reducible exact rfl | exact trivial | with_reducible assumption | refine And.intro ?_ ?_ | exact (rfl : (_ : SV) = _) | exact (rfl : (_ : List SC) = _) | (show drawOk _ _ _ = true; exact rfl) | (show ((0 : Nat) : Int) = 0; exact rfl))
    all_goals (try simp only [Ctr.reads, dTag_eta, dRoad_eta, dLetter_eta, dAddr_eta, dSub_eta, dHalf_eta, dPiece_eta, dPolicy_eta, dBucket_eta, dOut_eta, dPieces_eta, dEnd_eta, dKnown_eta, dWorld_eta] at *)
    all_goals (try simp only [Bool.cond_true_left, Bool.cond_false_right, Bool.or_eq_false_iff, Bool.or_eq_true, Bool.and_eq_true, Bool.and_eq_false_imp, Bool.not_eq_true', Bool.not_eq_false', Bool.not_eq_eq_eq_not, Bool.not_true, Bool.not_false] at *)
    all_goals first | done | with_reducible assumption | with_reducible rfl | omega | grind [mNextPiece]
set_option maxHeartbeats 1000000 in
theorem h_spec_WasSent : Ctr.holds E 175 (.reads [aOut] [aOut] (fun ((o : DOut), _) => (mNextPiece o).2 = true) fun ((o : DOut), _) => (mWasSent o, ())) := by
  refine fn_ok (Γ := [(174, .reads [aOut] [aPiece, aBool] (fun ((o : DOut), _) => True) fun ((o : DOut), _) => ((mNextPiece o).1, (mNextPiece o).2, ()))]) prgOk (gcons h_spec_NextPiece gnil) Tryz.func175 rfl rfl rfl rfl ?_
  rintro ty ⟨(o : DOut), _⟩ (hp : (mNextPiece o).2 = true)
  obtain ⟨ho1, ho2, ho3, ho4⟩ := outOk_bd (nextPiece_ok hp)
  have hpt := nextPiece_len o
  have hw : w64 (o.sent + ((mNextPiece o).1.text.length : Int)) = o.sent + ((mNextPiece o).1.text.length : Int) := w64_id (by omega) (by omega)
  refine ⟨[], ?_⟩
  repeat' ((conv => whnf); first | refine toOb2 ?_ | refine And.intro (fun _ => ?_) (fun _ => ?_) | refine And.intro ?_ ?_ | refine toEx2 ?_ | refine toY ?_ | intro _)
  all_goals first | refine Ob2.mk ?_ | (show drawOk _ _ _ = true; exact rfl)
  all_goals (try simp only [allP, side, Ctr.reads, dTag_eta, dRoad_eta, dLetter_eta, dAddr_eta, dSub_eta, dHalf_eta, dPiece_eta, dPolicy_eta, dBucket_eta, dOut_eta, dPieces_eta, dEnd_eta, dKnown_eta, dWorld_eta]); all_goals repeat' (first | with_reducible exact rfl | exact trivial | with_reducible assumption | refine And.intro ?_ ?_ | exact (rfl : (_ : SV) = _) | exact (rfl : (_ : List SC) = _) | (show drawOk _ _ _ = true; exact rfl) | (show ((0 : Nat) : Int) = 0; exact rfl))
  all_goals (try simp only [Ctr.reads, dTag_eta, dRoad_eta, dLetter_eta, dAddr_eta, dSub_eta, dHalf_eta, dPiece_eta, dPolicy_eta, dBucket_eta, dOut_eta, dPieces_eta, dEnd_eta, dKnown_eta, dWorld_eta] at *)
  all_goals (try simp only [Bool.cond_true_left, Bool.cond_false_right, Bool.or_eq_false_iff, Bool.or_eq_true, Bool.and_eq_true, Bool.and_eq_false_imp, Bool.not_eq_true', Bool.not_eq_false', Bool.not_eq_eq_eq_not, Bool.not_true, Bool.not_false] at *)
  all_goals first | done | with_reducible assumption | with_reducible rfl | omega | grind [mWasSent]
set_option maxHeartbeats 1000000 in
theorem h_spec_Push : Ctr.holds E 62 (.reads [aEnd] [aEnd, aRow .letter] (fun ((e : DEnd), _) => e.B) fun ((e : DEnd), _) => ((mPush e).1, (mPush e).2, ())) := by
  refine fn_ok (Γ := [(103, .reads [aEnd] [aEnd] (fun ((e : DEnd), _) => e.B) fun (e, _) => (e, ())), (173, .reads [aEnd] [aInt] (fun ((e : DEnd), _) => e.B) fun ((e : DEnd), _) => (mNextSub e, ())), (174, .reads [aOut] [aPiece, aBool] (fun ((o : DOut), _) => True) fun ((o : DOut), _) => ((mNextPiece o).1, (mNextPiece o).2, ())), (175, .reads [aOut] [aOut] (fun ((o : DOut), _) => (mNextPiece o).2 = true) fun ((o : DOut), _) => (mWasSent o, ())), (137, .reads [aRoad, aLetter] [aLetter] (fun _ => True) fun ((r : DRoad), (x : DLetter), _) => (mBetween r x, ()))]) prgOk (gcons h_spec_l17Copy (gcons h_spec_NextSub (gcons h_spec_NextPiece (gcons h_spec_WasSent (gcons h_spec_Between gnil))))) Tryz.func62 rfl rfl rfl rfl ?_
  rintro ty ⟨(e : DEnd), _⟩ (hp : e.B)
  have hB := hp
  obtain ⟨hb1, hb2, hb3, hb4, hb5, hb6, hb7⟩ := hp
  have hnb := mNextSub_bd e
  have hpk := fun h : 0 ≤ mNextSub e => endOk_nums (nextSub_ok h)
  have hwp : 0 ≤ e.pick → e.pick ≤ 1000000000 → w64 (e.pick + 1) = e.pick + 1 := fun h1 h2 => w64_id (by omega) (by omega)
  refine ⟨[], ?_⟩
  repeat' ((conv => whnf); first | refine toOb2 ?_ | refine And.intro (fun _ => ?_) (fun _ => ?_) | refine And.intro ?_ ?_ | refine toEx2 ?_ | refine toY ?_ | intro _)
  all_goals first | refine Ob2.mk ?_ | (show drawOk _ _ _ = true; exact rfl)
  all_goals (try simp only [allP, side, Ctr.reads, dTag_eta, dRoad_eta, dLetter_eta, dAddr_eta, dSub_eta, dHalf_eta, dPiece_eta, dPolicy_eta, dBucket_eta, dOut_eta, dPieces_eta, dEnd_eta, dKnown_eta, dWorld_eta]); all_goals repeat' (first | with_reducible exact rfl | exact trivial | with_reducible assumption | refine And.intro ?_ ?_ | exact (rfl : (_ : SV) = _) | exact (rfl : (_ : List SC) = _) | (show drawOk _ _ _ = true; exact rfl) | (show ((0 : Nat) : Int) = 0; exact rfl))
  all_goals (try simp only [ETy.frm, dTag_beq, List.set_set, List.length_set, List.nil_append, Ctr.reads, dTag_eta, dRoad_eta, dLetter_eta, dAddr_eta, dSub_eta, dHalf_eta, dPiece_eta, dPolicy_eta, dBucket_eta, dOut_eta, dPieces_eta, dEnd_eta, dKnown_eta, dWorld_eta] at *)
  all_goals (try simp only [Bool.cond_true_left, Bool.cond_false_right, Bool.or_eq_false_iff, Bool.or_eq_true, Bool.and_eq_true, Bool.and_eq_false_imp, Bool.not_eq_true', Bool.not_eq_false', Bool.not_eq_eq_eq_not, Bool.not_true, Bool.not_false] at *)
  all_goals first | done | with_reducible assumption | with_reducible rfl | omega | grind [mPush, ltr, mBetween, gSub]
set_option maxHeartbeats 1000000 in
theorem h_impl_NextPiece : Ctr.holds E 176 (.reads [aOut] [aPiece, aBool] (fun ((o : DOut), _) => True) fun ((o : DOut), _) => ((mNextPiece o).1, (mNextPiece o).2, ())) := by
  refine fn_ok (Γ := [(252, .reads [aOut] [aBool] (fun _ => True) fun ((o : DOut), _) => (mOutOk o, ()))]) prgOk (gcons h_impl_OutOk gnil) Tryz.func176 rfl rfl rfl rfl ?_
  rintro ty ⟨(o : DOut), _⟩ hp
  refine ⟨[], ?_⟩
  by_cases hok : mOutOk o = true
  · obtain ⟨ho1, ho2, ho3, ho4⟩ := outOk_bd hok
    have hpl : ((o.text.drop (o.sent - o.base).toNat).length : Int) = o.text.length - (o.sent - o.base) := by rw [List.length_drop]; omega
    have hA : ∀ l : List UInt8, l.take ((l.length : Int)).toNat = l := fun l => by simp
    have hB : ∀ l : List UInt8, (l.length : Int) ≤ 20 → l.take 20 = l := fun l h => List.take_of_length_le (by omega)
    repeat' ((conv => whnf); first | refine toOb2 ?_ | refine And.intro (fun _ => ?_) (fun _ => ?_) | refine And.intro ?_ ?_ | refine toEx2 ?_ | refine toY ?_ | intro _)
    all_goals first | refine Ob2.mk ?_ | (show drawOk _ _ _ = true; exact rfl)
    all_goals (try simp only [allP, side, Ctr.reads, dTag_eta, dRoad_eta, dLetter_eta, dAddr_eta, dSub_eta, dHalf_eta, dPiece_eta, dPolicy_eta, dBucket_eta, dOut_eta, dPieces_eta, dEnd_eta, dKnown_eta, dWorld_eta]); all_goals repeat' (first | with_reducible exact rfl | exact trivial | with_reducible assumption | refine And.intro ?_ ?_ | exact (rfl : (_ : SV) = _) | exact (rfl : (_ : List SC) = _) | (show drawOk _ _ _ = true; exact rfl) | (show ((0 : Nat) : Int) = 0; exact rfl))
    all_goals (try simp only [Ctr.reads, dTag_eta, dRoad_eta, dLetter_eta, dAddr_eta, dSub_eta, dHalf_eta, dPiece_eta, dPolicy_eta, dBucket_eta, dOut_eta, dPieces_eta, dEnd_eta, dKnown_eta, dWorld_eta] at *)
    all_goals (try simp only [Bool.cond_true_left, Bool.cond_false_right, Bool.or_eq_false_iff, Bool.or_eq_true, Bool.and_eq_true, Bool.and_eq_false_imp, Bool.not_eq_true', Bool.not_eq_false', Bool.not_eq_eq_eq_not, Bool.not_true, Bool.not_false] at *)
    all_goals (try simp only [decide_eq_true_eq, decide_eq_false_iff_not] at *)
    all_goals (try simp (disch := omega) only [w64_id] at *)
    all_goals (try simp (disch := omega) only [w64_id] at *)
    all_goals first | done | with_reducible assumption | with_reducible rfl | omega | grind [mNextPiece]
  · repeat' ((conv => whnf); first | refine toOb2 ?_ | refine And.intro (fun _ => ?_) (fun _ => ?_) | refine And.intro ?_ ?_ | refine toEx2 ?_ | refine toY ?_ | intro _)
    all_goals first | refine Ob2.mk ?_ | (show drawOk _ _ _ = true; exact rfl)
    all_goals (try simp only [allP, side, Ctr.reads, dTag_eta, dRoad_eta, dLetter_eta, dAddr_eta, dSub_eta, dHalf_eta, dPiece_eta, dPolicy_eta, dBucket_eta, dOut_eta, dPieces_eta, dEnd_eta, dKnown_eta, dWorld_eta]); all_goals repeat' (first | with_reducible exact rfl | exact trivial | with_reducible assumption | refine And.intro ?_ ?_ | exact (rfl : (_ : SV) = _) | exact (rfl : (_ : List SC) = _) | (show drawOk _ _ _ = true; exact rfl) | (show ((0 : Nat) : Int) = 0; exact rfl))
    all_goals (try simp only [Ctr.reads, dTag_eta, dRoad_eta, dLetter_eta, dAddr_eta, dSub_eta, dHalf_eta, dPiece_eta, dPolicy_eta, dBucket_eta, dOut_eta, dPieces_eta, dEnd_eta, dKnown_eta, dWorld_eta] at *)
    all_goals (try simp only [Bool.cond_true_left, Bool.cond_false_right, Bool.or_eq_false_iff, Bool.or_eq_true, Bool.and_eq_true, Bool.and_eq_false_imp, Bool.not_eq_true', Bool.not_eq_false', Bool.not_eq_eq_eq_not, Bool.not_true, Bool.not_false] at *)
    all_goals first | done | with_reducible assumption | with_reducible rfl | omega | grind [mNextPiece]
set_option maxHeartbeats 1000000 in
theorem h_impl_WasSent : Ctr.holds E 178 (.reads [aOut] [aOut] (fun ((o : DOut), _) => (mNextPiece o).2 = true) fun ((o : DOut), _) => (mWasSent o, ())) := by
  refine fn_ok (Γ := [(176, .reads [aOut] [aPiece, aBool] (fun ((o : DOut), _) => True) fun ((o : DOut), _) => ((mNextPiece o).1, (mNextPiece o).2, ()))]) prgOk (gcons h_impl_NextPiece gnil) Tryz.func178 rfl rfl rfl rfl ?_
  rintro ty ⟨(o : DOut), _⟩ (hp : (mNextPiece o).2 = true)
  obtain ⟨ho1, ho2, ho3, ho4⟩ := outOk_bd (nextPiece_ok hp)
  have hpt := nextPiece_len o
  have hw : w64 (o.sent + ((mNextPiece o).1.text.length : Int)) = o.sent + ((mNextPiece o).1.text.length : Int) := w64_id (by omega) (by omega)
  refine ⟨[], ?_⟩
  repeat' ((conv => whnf); first | refine toOb2 ?_ | refine And.intro (fun _ => ?_) (fun _ => ?_) | refine And.intro ?_ ?_ | refine toEx2 ?_ | refine toY ?_ | intro _)
  all_goals first | refine Ob2.mk ?_ | (show drawOk _ _ _ = true; exact rfl)
  all_goals (try simp only [allP, side, Ctr.reads, dTag_eta, dRoad_eta, dLetter_eta, dAddr_eta, dSub_eta, dHalf_eta, dPiece_eta, dPolicy_eta, dBucket_eta, dOut_eta, dPieces_eta, dEnd_eta, dKnown_eta, dWorld_eta]); all_goals repeat' (first | with_reducible exact rfl | exact trivial | with_reducible assumption | refine And.intro ?_ ?_ | exact (rfl : (_ : SV) = _) | exact (rfl : (_ : List SC) = _) | (show drawOk _ _ _ = true; exact rfl) | (show ((0 : Nat) : Int) = 0; exact rfl))
  all_goals (try simp only [Ctr.reads, dTag_eta, dRoad_eta, dLetter_eta, dAddr_eta, dSub_eta, dHalf_eta, dPiece_eta, dPolicy_eta, dBucket_eta, dOut_eta, dPieces_eta, dEnd_eta, dKnown_eta, dWorld_eta] at *)
  all_goals (try simp only [Bool.cond_true_left, Bool.cond_false_right, Bool.or_eq_false_iff, Bool.or_eq_true, Bool.and_eq_true, Bool.and_eq_false_imp, Bool.not_eq_true', Bool.not_eq_false', Bool.not_eq_eq_eq_not, Bool.not_true, Bool.not_false] at *)
  all_goals first | done | with_reducible assumption | with_reducible rfl | omega | grind [mWasSent]
set_option maxHeartbeats 1000000 in
theorem h_impl_nextPick : Ctr.holds E 179 (.reads [aInt] [aInt] (fun ((n : Int), _) => 0 ≤ n ∧ n ≤ 1000000000) fun ((n : Int), _) => (if n ≥ 1000000000 then 0 else n + 1, ())) := by
  refine fn_ok (Γ := []) prgOk gnil Tryz.func179 rfl rfl rfl rfl ?_
  rintro ty ⟨(n : Int), _⟩ (hp : 0 ≤ n ∧ n ≤ 1000000000)
  have hw : w64 (n + 1) = n + 1 := w64_id (by omega) (by omega)
  refine ⟨[], ?_⟩
  repeat' ((conv => whnf); first | refine toOb2 ?_ | refine And.intro (fun _ => ?_) (fun _ => ?_) | refine And.intro ?_ ?_ | refine toEx2 ?_ | intro _)
  all_goals first | refine Ob2.mk ?_ | (show drawOk _ _ _ = true; exact rfl)
  all_goals (try simp only [allP, side, Ctr.reads, dTag_eta, dRoad_eta, dLetter_eta, dAddr_eta, dSub_eta, dHalf_eta, dPiece_eta, dPolicy_eta, dBucket_eta, dOut_eta, dPieces_eta, dEnd_eta, dKnown_eta, dWorld_eta]); all_goals repeat' (first | with_reducible exact rfl | exact trivial | with_reducible assumption | refine And.intro ?_ ?_ | exact (rfl : (_ : SV) = _) | exact (rfl : (_ : List SC) = _) | (show drawOk _ _ _ = true; exact rfl) | (show ((0 : Nat) : Int) = 0; exact rfl))
  all_goals (try simp only [Ctr.reads, dTag_eta, dRoad_eta, dLetter_eta, dAddr_eta, dSub_eta, dHalf_eta, dPiece_eta, dPolicy_eta, dBucket_eta, dOut_eta, dPieces_eta, dEnd_eta, dKnown_eta, dWorld_eta] at *)
  all_goals (try simp only [Bool.cond_true_left, Bool.cond_false_right, Bool.or_eq_false_iff, Bool.or_eq_true, Bool.and_eq_true, Bool.and_eq_false_imp, Bool.not_eq_true', Bool.not_eq_false', Bool.not_eq_eq_eq_not, Bool.not_true, Bool.not_false] at *)
  all_goals first | done | with_reducible assumption | with_reducible rfl | omega | grind []
set_option maxHeartbeats 1000000 in
theorem h_impl_Push : Ctr.holds E 63 (.reads [aEnd] [aEnd, aRow .letter] (fun ((e : DEnd), _) => e.B) fun ((e : DEnd), _) => ((mPush e).1, (mPush e).2, ())) := by
  refine fn_ok (Γ := [(115, .reads [aEnd] [aEnd] (fun ((e : DEnd), _) => e.B) fun (e, _) => (e, ())), (176, .reads [aOut] [aPiece, aBool] (fun ((o : DOut), _) => True) fun ((o : DOut), _) => ((mNextPiece o).1, (mNextPiece o).2, ())), (177, .reads [aEnd] [aInt] (fun ((e : DEnd), _) => e.B) fun ((e : DEnd), _) => (mNextSub e, ())), (178, .reads [aOut] [aOut] (fun ((o : DOut), _) => (mNextPiece o).2 = true) fun ((o : DOut), _) => (mWasSent o, ())), (179, .reads [aInt] [aInt] (fun ((n : Int), _) => 0 ≤ n ∧ n ≤ 1000000000) fun ((n : Int), _) => (if n ≥ 1000000000 then 0 else n + 1, ())), (139, .reads [aRoad, aLetter] [aLetter] (fun _ => True) fun ((r : DRoad), (x : DLetter), _) => (mBetween r x, ()))]) prgOk (gcons h_impl_copyEnd (gcons h_impl_NextPiece (gcons h_impl_NextSub (gcons h_impl_WasSent (gcons h_impl_nextPick (gcons h_impl_Between gnil)))))) Tryz.func63 rfl rfl rfl rfl ?_
  rintro ty ⟨(e : DEnd), _⟩ (hp : e.B)
  have hB := hp
  obtain ⟨hb1, hb2, hb3, hb4, hb5, hb6, hb7⟩ := hp
  have hnb := mNextSub_bd e
  have hpk := fun h : 0 ≤ mNextSub e => endOk_nums (nextSub_ok h)
  have hwp : 0 ≤ e.pick → e.pick ≤ 1000000000 → w64 (e.pick + 1) = e.pick + 1 := fun h1 h2 => w64_id (by omega) (by omega)
  refine ⟨[], ?_⟩
  repeat' ((conv => whnf); first | refine toOb2 ?_ | refine And.intro (fun _ => ?_) (fun _ => ?_) | refine And.intro ?_ ?_ | refine toEx2 ?_ | refine toY ?_ | intro _)
  all_goals first | refine Ob2.mk ?_ | (show drawOk _ _ _ = true; exact rfl)
  all_goals (try simp only [allP, side, Ctr.reads, dTag_eta, dRoad_eta, dLetter_eta, dAddr_eta, dSub_eta, dHalf_eta, dPiece_eta, dPolicy_eta, dBucket_eta, dOut_eta, dPieces_eta, dEnd_eta, dKnown_eta, dWorld_eta]); all_goals repeat' (first | with_reducible exact rfl | exact trivial | with_reducible assumption | refine And.intro ?_ ?_ | exact (rfl : (_ : SV) = _) | exact (rfl : (_ : List SC) = _) | (show drawOk _ _ _ = true; exact rfl) | (show ((0 : Nat) : Int) = 0; exact rfl))
  all_goals (try simp only [ETy.frm, dTag_beq, List.set_set, List.length_set, List.nil_append, Ctr.reads, dTag_eta, dRoad_eta, dLetter_eta, dAddr_eta, dSub_eta, dHalf_eta, dPiece_eta, dPolicy_eta, dBucket_eta, dOut_eta, dPieces_eta, dEnd_eta, dKnown_eta, dWorld_eta] at *)
  all_goals (try simp only [Bool.cond_true_left, Bool.cond_false_right, Bool.or_eq_false_iff, Bool.or_eq_true, Bool.and_eq_true, Bool.and_eq_false_imp, Bool.not_eq_true', Bool.not_eq_false', Bool.not_eq_eq_eq_not, Bool.not_true, Bool.not_false] at *)
  all_goals first | done | with_reducible assumption | with_reducible rfl | omega | grind [mPush, ltr, mBetween, gSub]
end Go.Proofs.YtjlbibidgdnjdaaGreat
