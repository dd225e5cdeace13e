/- Contracts of functions of the program, each shown over the text. -/
import Derived.Test.YtnpeomhpbakgnaaGreatFun5
set_option linter.unusedVariables false
set_option linter.unusedSimpArgs false
set_option maxRecDepth 100000
set_option maxHeartbeats 1000000
namespace Go.Proofs.YtnpeomhpbakgnaaGreat
open Go.Eng
theorem h_spec_NextPiece : Ctr.holds E 183 (.reads [aOut] [aPiece, aBool] (fun ((o : DOut), _) => True) fun ((o : DOut), _) => ((mNextPiece o).1, (mNextPiece o).2, ())) := by
  refine fn_ok prgOk (gcons h_spec_OutOk gnil) Tryz.func183 rfl rfl rfl rfl ?_
  rintro ty ⟨(o : DOut), _⟩ hp
  refine ⟨[], ?_⟩
  by_cases hok : mOutOk o = true
  · obtain ⟨ho1, ho2, ho3, ho4⟩ := outOk_bd hok
    have hpl : ((o.text.drop (o.sent - o.base).toNat).length : Int) = o.text.length - (o.sent - o.base) := by rw [List.length_drop]; omega
    have hA : ∀ l : List UInt8, l.take ((l.length : Int)).toNat = l := fun l => by simp
    have hB : ∀ l : List UInt8, (l.length : Int) ≤ 20 → l.take 20 = l := fun l h => List.take_of_length_le (by omega)
    repeat' ((conv => whnf); first | refine toOb2 ?_ | refine And.intro (fun _ => ?_) (fun _ => ?_) | refine And.intro ?_ ?_ | refine toEx2 ?_ | refine toY ?_ | intro _)
    all_goals first | refine Ob2.mk ?_ | (show drawOk _ _ _ = true; exact rfl)
    all_goals (try simp only [allP, side, Ctr.reads, etas]); all_goals repeat' (first | exact sp1 | refine And.intro ?_ ?_)
    all_goals (try simp only [Ctr.reads, etas] at *)
    all_goals (try simp only [nbls] at *)
    all_goals (try simp only [decide_eq_true_eq, decide_eq_false_iff_not] at *)
    all_goals (try simp (disch := omega) only [w64_id] at *)
    all_goals (try simp (disch := omega) only [w64_id] at *)
    all_goals first | done | with_reducible assumption | with_reducible rfl | omega | grind [mNextPiece]
  · repeat' ((conv => whnf); first | refine toOb2 ?_ | refine And.intro (fun _ => ?_) (fun _ => ?_) | refine And.intro ?_ ?_ | refine toEx2 ?_ | refine toY ?_ | intro _)
    all_goals first | refine Ob2.mk ?_ | (show drawOk _ _ _ = true; exact rfl)
    all_goals (try simp only [allP, side, Ctr.reads, etas]); all_goals repeat' (first | exact sp1 | refine And.intro ?_ ?_)
    all_goals (try simp only [Ctr.reads, etas] at *)
    all_goals (try simp only [nbls] at *)
    all_goals first | done | with_reducible assumption | with_reducible rfl | omega | grind [mNextPiece]
theorem h_spec_WasSent : Ctr.holds E 184 (.reads [aOut] [aOut] (fun ((o : DOut), _) => True) fun ((o : DOut), _) => (mWasSent o, ())) := by
  refine fn_ok prgOk (gcons h_spec_NextPiece gnil) Tryz.func184 rfl rfl rfl rfl ?_
  rintro ty ⟨(o : DOut), _⟩ hp0
  by_cases hp : (mNextPiece o).2 = true
  · obtain ⟨ho1, ho2, ho3, ho4⟩ := outOk_bd (nextPiece_ok hp)
    have hpt := nextPiece_len o
    have hw : w64 (o.sent + ((mNextPiece o).1.text.length : Int)) = o.sent + ((mNextPiece o).1.text.length : Int) := w64_id (by omega) (by omega)
    refine ⟨[], ?_⟩
    repeat' ((conv => whnf); first | refine toOb2 ?_ | refine And.intro (fun _ => ?_) (fun _ => ?_) | refine And.intro ?_ ?_ | refine toEx2 ?_ | refine toY ?_ | intro _)
    all_goals first | refine Ob2.mk ?_ | (show drawOk _ _ _ = true; exact rfl)
    all_goals (try simp only [allP, side, Ctr.reads, etas]); all_goals repeat' (first | exact sp1 | refine And.intro ?_ ?_)
    all_goals (try simp only [Ctr.reads, etas] at *)
    all_goals (try simp only [nbls] at *)
    all_goals first | done | with_reducible assumption | with_reducible rfl | omega | grind [mWasSent]
  · have hp : (mNextPiece o).2 = false := by simpa using hp
    have hno := mWasSent_no hp
    refine ⟨[], ?_⟩
    repeat' ((conv => whnf); first | refine toOb2 ?_ | refine And.intro (fun _ => ?_) (fun _ => ?_) | refine And.intro ?_ ?_ | refine toEx2 ?_ | refine toY ?_ | intro _)
    all_goals first | refine Ob2.mk ?_ | (show drawOk _ _ _ = true; exact rfl)
    all_goals (try simp only [allP, side, Ctr.reads, etas]); all_goals repeat' (first | exact sp1 | refine And.intro ?_ ?_)
    all_goals (try simp only [Ctr.reads, etas] at *)
    all_goals (try simp only [nbls] at *)
    all_goals first | done | with_reducible assumption | with_reducible rfl | omega | grind []
theorem h_spec_Push : Ctr.holds E 84 (.reads [aEnd] [aEnd, aRow .letter] (fun ((e : DEnd), _) => e.B) fun ((e : DEnd), _) => ((mPush e).1, (mPush e).2, ())) := by
  refine fn_ok prgOk (gcons h_spec_l17Copy (gcons h_spec_NextSub (gcons h_spec_NextPiece (gcons h_spec_WasSent (gcons h_spec_Between gnil))))) Tryz.func84 rfl rfl rfl rfl ?_
  rintro ty ⟨(e : DEnd), _⟩ (hp : e.B)
  have hB := hp
  obtain ⟨hb1, hb2, hb3, hb4, hb5, hb6, hb7⟩ := hp
  have hnb := mNextSub_bd e
  have hpk := fun h : 0 ≤ mNextSub e => endOk_nums (nextSub_ok h)
  have hwp : 0 ≤ e.pick → e.pick ≤ 1000000000 → w64 (e.pick + 1) = e.pick + 1 := fun h1 h2 => w64_id (by omega) (by omega)
  refine ⟨[], ?_⟩
  repeat' ((conv => whnf); first | refine toOb2 ?_ | refine And.intro (fun _ => ?_) (fun _ => ?_) | refine And.intro ?_ ?_ | refine toEx2 ?_ | refine toY ?_ | intro _)
  all_goals first | refine Ob2.mk ?_ | (show drawOk _ _ _ = true; exact rfl)
  all_goals (try simp only [allP, side, Ctr.reads, etas]); all_goals repeat' (first | exact sp1 | refine And.intro ?_ ?_)
  all_goals (try simp only [ETy.frm, dTag_beq, List.set_set, List.length_set, List.nil_append, Ctr.reads, etas] at *)
  all_goals (try simp only [nbls] at *)
  all_goals first | done | with_reducible assumption | with_reducible rfl | omega | grind [mPush, ltr, mBetween, gSub]
theorem h_spec_TakeOne : Ctr.holds E 191 (.reads [aBucket] [aBucket, aBool] (fun ((b : DBucket), _) => True) fun ((b : DBucket), _) => ((mTakeOne b).1, (mTakeOne b).2, ())) := by
  refine fn_ok prgOk (gcons h_spec_BucketOk gnil) Tryz.func191 rfl rfl rfl rfl ?_
  rintro ty ⟨(b : DBucket), _⟩ hp
  have hbk := fun h : mBucketOk b = true => bucketOk_bd h
  have hw := fun h : mBucketOk b = true => take_w h
  refine ⟨[], ?_⟩
  repeat' ((conv => whnf); first | refine toOb2 ?_ | refine And.intro (fun _ => ?_) (fun _ => ?_) | refine And.intro ?_ ?_ | refine toEx2 ?_ | refine toY ?_ | intro _)
  all_goals first | refine Ob2.mk ?_ | (show drawOk _ _ _ = true; exact rfl)
  all_goals (try simp only [allP, side, Ctr.reads, etas]); all_goals repeat' (first | exact sp1 | refine And.intro ?_ ?_)
  all_goals (try simp only [Ctr.reads, etas] at *)
  all_goals (try simp only [nbls] at *)
  all_goals first | done | with_reducible assumption | with_reducible rfl | omega | grind [mTakeOne]
theorem h_spec_PutHalf : Ctr.holds E 192 (.reads [aRow .half, aHalf] [aRow .half, aBool] (fun ((l : List DHalf), (h : DHalf), _) => l.length ≤ 1073741823) fun ((l : List DHalf), (h : DHalf), _) => ((mPutHalf l h).1, (mPutHalf l h).2, ())) := by
  refine fn_ok prgOk (gcons h_spec_HalfAt (gcons h_spec_HalfsOk gnil)) Tryz.func192 rfl rfl rfl rfl ?_
  rintro ty ⟨(l : List DHalf), (h : DHalf), _⟩ (hp : l.length ≤ 1073741823)
  have hpb := mHalfAt_bd l h.road
  refine ⟨[], ?_⟩
  repeat' ((conv => whnf); first | refine toOb2 ?_ | refine And.intro (fun _ => ?_) (fun _ => ?_) | refine And.intro ?_ ?_ | refine toEx2 ?_ | refine toY ?_ | intro _)
  all_goals first | refine Ob2.mk ?_ | (show drawOk _ _ _ = true; exact rfl)
  all_goals (try simp only [allP, side, Ctr.reads, etas]); all_goals repeat' (first | exact sp1 | refine And.intro ?_ ?_)
  all_goals (try simp only [ETy.frm, dTag_beq, List.set_set, List.length_set, List.nil_append, List.length_append, List.length_cons, List.length_nil, Ctr.reads, etas] at *)
  all_goals (try simp only [nbls] at *)
  all_goals first | done | with_reducible assumption | with_reducible rfl | omega | grind [mPutHalf, mPutHalfL]
theorem h_spec_HearJoin : Ctr.holds E 105 (.reads [aEnd, aLetter] [aEnd, aRow .letter] (fun ((e : DEnd), (x : DLetter), _) => e.B) fun ((e : DEnd), (x : DLetter), _) => ((mHearJoin e x).1, (mHearJoin e x).2, ())) := by
  refine fn_ok prgOk (gcons h_spec_l17Copy (gcons h_spec_RoadOf (gcons h_spec_HalfAt (gcons h_spec_EndOk (gcons h_spec_LetterOk (gcons h_spec_TokenFor (gcons h_spec_OwnsAddr (gcons h_spec_l18Room (gcons h_spec_TakeOne (gcons h_spec_l18Draw (gcons h_spec_PutHalf (gcons h_spec_TagBack (gcons h_spec_Between gnil))))))))))))) Tryz.func105 rfl rfl rfl rfl ?_
  rintro ty ⟨(e : DEnd), (x : DLetter), _⟩ (hp : e.B)
  obtain ⟨hb1, hb2, hb3, hb4, hb5, hb6, hb7⟩ := id hp
  have hhb := mHalfAt_bd e.halfs (mRoadOf x)
  have h4 := fun h : mEndOk e = true => mHalfsOk_len (endOk_parts h).2.2.1
  have h8 := fun h : mEndOk e = true => (endOk_split h).2.2.1
  have hnm := fun h : mEndOk e = true => endOk_nums h
  have hrm := fun h : mRoom e = true => room_bd h
  have hhr := fun h : 0 ≤ mHalfAt e.halfs (mRoadOf x) => mHalfAt_road h
  have hnw := fun h : mEndOk e = true => now_w h
  have hph := fun (h : mEndOk e = true) (h2 : 0 ≤ mHalfAt e.halfs (mRoadOf x)) (h3 : e.now ≤ 999999994) => joinHalf_til h h2 h3
  refine ⟨[], ?_⟩
  repeat' ((conv => whnf); first | refine toOb2 ?_ | refine And.intro (fun _ => ?_) (fun _ => ?_) | refine And.intro ?_ ?_ | refine toEx2 ?_ | refine toY ?_ | intro _)
  all_goals first | refine Ob2.mk ?_ | (show drawOk _ _ _ = true; exact rfl)
  all_goals (try simp only [allP, side, Ctr.reads, etas]); all_goals repeat' (first | exact sp1 | refine And.intro ?_ ?_)
  all_goals (try simp only [ETy.frm, dTag_beq, List.set_set, List.length_set, List.nil_append, Ctr.reads, etas] at *)
  all_goals (try simp only [nbls] at *)
  all_goals (try simp only [decide_eq_true_eq, decide_eq_false_iff_not] at *)
  all_goals (try simp (disch := omega) only [w64_id] at *)
  all_goals (try simp (disch := omega) only [w64_id] at *)
  all_goals (try simp only [decide_eq_true_eq, decide_eq_false_iff_not] at *)
  all_goals (try simp (disch := first | assumption | omega | (simp only [List.length_set]; omega)) only [set_get, List.set_set, ETy.frm, etas] at *)
  all_goals first | done | with_reducible assumption | with_reducible rfl | omega | grind [mHearJoin, mJoinHalf, mJoinDraw, mDrawn, mTagBack, mIn, gHalf, ltr, mBetween, setSub, gSub]
theorem h_spec_DropHalf : Ctr.holds E 193 (.reads [aRow .half, aRoad] [aRow .half] (fun ((l : List DHalf), (r : DRoad), _) => l.length ≤ 1073741824) fun ((l : List DHalf), (r : DRoad), _) => (mDropHalf l r, ())) := by
  refine fn_ok prgOk (gcons h_spec_HalfAt gnil) Tryz.func193 rfl rfl rfl rfl ?_
  rintro ty ⟨(l : List DHalf), (r : DRoad), _⟩ (hp : l.length ≤ 1073741824)
  have hpb := mHalfAt_bd l r
  have hw : 0 ≤ mHalfAt l r → w64 (mHalfAt l r + 1) = mHalfAt l r + 1 ∧ (mHalfAt l r + 1).toNat = (mHalfAt l r).toNat + 1 := fun h => ⟨w64_id (by omega) (by omega), by omega⟩
  refine ⟨[], ?_⟩
  repeat' ((conv => whnf); first | refine toOb2 ?_ | refine And.intro (fun _ => ?_) (fun _ => ?_) | refine And.intro ?_ ?_ | refine toEx2 ?_ | refine toY ?_ | intro _)
  all_goals first | refine Ob2.mk ?_ | (show drawOk _ _ _ = true; exact rfl)
  all_goals (try simp only [allP, side, Ctr.reads, etas]); all_goals repeat' (first | exact sp1 | refine And.intro ?_ ?_)
  all_goals (try simp only [ETy.frm, dTag_beq, List.set_set, List.length_set, List.nil_append, List.length_append, List.length_take, List.length_drop, Ctr.reads, etas] at *)
  all_goals (try simp only [nbls] at *)
  all_goals first | done | with_reducible assumption | with_reducible rfl | omega | grind [mDropHalf]
theorem h_spec_HearJoinDone : Ctr.holds E 107 (.reads [aEnd, aLetter] [aEnd, aRow .letter] (fun ((e : DEnd), (x : DLetter), _) => e.B) fun ((e : DEnd), (x : DLetter), _) => ((mHearJoinDone e x).1, (mHearJoinDone e x).2, ())) := by
  refine fn_ok prgOk (gcons h_spec_l17Copy (gcons h_spec_RoadOf (gcons h_spec_EndOk (gcons h_spec_LetterOk (gcons h_spec_HalfAt (gcons h_spec_SubAt (gcons h_spec_TagDone (gcons h_spec_l18Sub (gcons h_spec_DropHalf (gcons h_spec_l19Ack gnil)))))))))) Tryz.func107 rfl rfl rfl rfl ?_
  rintro ty ⟨(e : DEnd), (x : DLetter), _⟩ (hp : e.B)
  obtain ⟨hb1, hb2, hb3, hb4, hb5, hb6, hb7⟩ := id hp
  have hsb := mSubAt_bd e (mRoadOf x)
  have hrd := fun h : 0 ≤ mSubAt e (mRoadOf x) => mSubAt_road h
  have hhb := mHalfAt_bd e.halfs (mRoadOf x)
  have h4 := fun h : mEndOk e = true => mHalfsOk_len (endOk_parts h).2.2.1
  have h8 := fun h : mEndOk e = true => (endOk_split h).2.2.1
  have hnm := fun h : mEndOk e = true => endOk_nums h
  refine ⟨[], ?_⟩
  repeat' ((conv => whnf); first | refine toOb2 ?_ | refine And.intro (fun _ => ?_) (fun _ => ?_) | refine And.intro ?_ ?_ | refine toEx2 ?_ | refine toY ?_ | intro _)
  all_goals first | refine Ob2.mk ?_ | (show drawOk _ _ _ = true; exact rfl)
  all_goals (try simp only [allP, side, Ctr.reads, etas]); all_goals repeat' (first | exact sp1 | refine And.intro ?_ ?_)
  all_goals (try simp only [ETy.frm, dTag_beq, List.set_set, List.length_set, List.nil_append, Ctr.reads, etas] at *)
  all_goals (try simp only [nbls] at *)
  all_goals (try simp only [decide_eq_true_eq, decide_eq_false_iff_not] at *)
  all_goals (try simp (disch := first | assumption | omega | (simp only [List.length_set]; omega)) only [set_get, List.set_set, ETy.frm, etas] at *)
  all_goals first | done | with_reducible assumption | with_reducible rfl | omega | grind [mHearJoinDone, mAck, mGoneAt, gHalf, ltr, mBetween, setSub, gSub]
theorem h_spec_l17Put : Ctr.holds E 198 (.reads [aRow .int, aInt] [aRow .int] (fun ((l : List Int), (n : Int), _) => l.length ≤ 1073741824) fun ((l : List Int), (n : Int), _) => (mPut l n, ())) := by
  refine fn_ok prgOk gnil Tryz.func198 rfl rfl rfl rfl ?_
  rintro ty ⟨(l : List Int), (n : Int), _⟩ (hp : l.length ≤ 1073741824)
  refine ⟨[(4, { X := Nat × (List Int × Bool), inv := fun x => x.1 ≤ l.length ∧ x.2.1 ++ putR n (l.drop x.1) x.2.2 = mPut l n ∧ x.2.1.length ≤ x.1 + 1 ∧ (x.2.2 = false → x.2.1.length ≤ x.1), mu := fun x => l.length - x.1, vk := [7, 6, 5, 8], ov := fun x => [.a (.c (.leaf (.int (x.1 : Int)))), .a (.c (.leaf (.bool x.2.2))), .a (.c (.row 512)), .any], bk := [], ob := fun x => [], rk := [512], orr := fun x => [⟨.int, x.2.1, true, none⟩] })], ?_⟩
  repeat' ((conv => whnf); first | refine toOb2 ?_ | refine toY ?_ | refine And.intro (fun _ => ?_) (fun _ => ?_) | refine And.intro (toOb2 ?_) ?_ | refine And.intro (?_ : drawOk _ _ _ = true) ?_ | (refine And.intro ⟨?_, ?_⟩ ?_; fail) | intro _)
  (all_goals first | (refine Ob2.mk ?_; (try simp only [allP, side, Ctr.reads, etas] at *); (try simp only [nbls, imp_self, implies_true, and_self, and_true, true_and] at *); first | done | trivial | assumption | omega | grind []) | (show drawOk _ _ _ = true; exact rfl) | skip)
  conv => whnf
  refine And.intro ⟨((0, ([], false)) : Nat × (List Int × Bool)), Ob.mk ?_, ?_⟩ (fun (x : Nat × (List Int × Bool)) hi => ?_)
  · exact And.intro (Nat.zero_le _) (And.intro (putR_mPut n l) (And.intro (by simp) (by simp)))
  · conv => whnf
    refine Ob.mk ?_
    all_goals (try simp only [allP, side, Ctr.reads, etas]); all_goals repeat' (first | exact sp1 | refine And.intro ?_ ?_)
  obtain ⟨i, acc⟩ := x
  obtain ⟨hi, hm⟩ := hi
  have hi : i ≤ l.length := hi
  have hm : acc.1 ++ putR n (l.drop i) acc.2 = mPut l n ∧ acc.1.length ≤ i + 1 ∧ (acc.2 = false → acc.1.length ≤ i) := hm
  rcases Nat.lt_or_ge i l.length with hlt | hge
  · obtain ⟨x, hx, hxi, hd⟩ := at_step l i (ETy.zero .int) hlt
    rw [hd, putR] at hm
    have hw := w64_succ hlt ((by omega))
    repeat' ((conv => whnf); first | refine toOb2 ?_ | refine And.intro (fun _ => ?_) (fun _ => ?_) | refine And.intro ?_ ?_ | refine toEx2 ?_ | intro _)
    all_goals try (exfalso; exact Nat.lt_irrefl _ (Nat.lt_of_lt_of_le hlt (ge_of_dec (by assumption))))
    all_goals first | refine Ob2.mk ?_ | refine Ex2.of ((i + 1, if acc.2 = false ∧ n ≤ x then (if n < x then (acc.1 ++ [n] ++ [x], true) else (acc.1 ++ [x], true)) else (acc.1 ++ [x], acc.2))) ?_ ?_ | skip
    all_goals try ((conv => whnf); refine Ob.mk ?_)
    all_goals (try simp only [allP, side, Ctr.reads, etas]); all_goals repeat' (first | exact sp1 | refine And.intro ?_ ?_)
    all_goals (try simp only [hx, ETy.frm, List.length_append, List.length_cons, List.length_nil, Ctr.reads, etas] at *)
    all_goals (try simp only [nbls] at *)
    all_goals (try simp only [decide_eq_true_eq, decide_eq_false_iff_not] at *)
    all_goals first | done | grind []
  · have hl : i = l.length := by omega
    subst hl
    rw [List.drop_length, putR] at hm
    repeat' ((conv => whnf); first | refine toOb2 ?_ | refine And.intro (fun _ => ?_) (fun _ => ?_) | refine And.intro ?_ ?_ | refine toEx2 ?_ | intro _)
    all_goals try (exfalso; exact Nat.lt_irrefl _ (Nat.lt_of_lt_of_le (lt_of_dec (by assumption)) hge))
    all_goals first | refine Ob2.mk ?_ | refine Ex2.of ((l.length, acc)) ?_ ?_ | skip
    all_goals try ((conv => whnf); refine Ob.mk ?_)
    all_goals (try simp only [allP, side, Ctr.reads, etas]); all_goals repeat' (first | exact sp1 | refine And.intro ?_ ?_)
    all_goals (try simp only [ETy.frm, List.length_append, List.length_cons, List.length_nil, Ctr.reads, etas] at *)
    all_goals (try simp only [nbls] at *)
    all_goals (try simp only [decide_eq_true_eq, decide_eq_false_iff_not] at *)
    all_goals first | done | grind []
theorem h_spec_DropAddr : Ctr.holds E 199 (.reads [aRow .addr, aInt] [aRow .addr, aBool] (fun ((l : List DAddr), (n : Int), _) => l.length ≤ 1073741824) fun ((l : List DAddr), (n : Int), _) => ((mDropAddr l n).1, (mDropAddr l n).2, ())) := by
  refine fn_ok prgOk (gcons h_spec_AddrAt gnil) Tryz.func199 rfl rfl rfl rfl ?_
  rintro ty ⟨(l : List DAddr), (n : Int), _⟩ (hp : l.length ≤ 1073741824)
  have hpb := mAddrAt_bd l n
  have hw : 0 ≤ mAddrAt l n → w64 (mAddrAt l n + 1) = mAddrAt l n + 1 ∧ (mAddrAt l n + 1).toNat = (mAddrAt l n).toNat + 1 := fun h => ⟨w64_id (by omega) (by omega), by omega⟩
  refine ⟨[], ?_⟩
  repeat' ((conv => whnf); first | refine toOb2 ?_ | refine And.intro (fun _ => ?_) (fun _ => ?_) | refine And.intro ?_ ?_ | refine toEx2 ?_ | refine toY ?_ | intro _)
  all_goals first | refine Ob2.mk ?_ | (show drawOk _ _ _ = true; exact rfl)
  all_goals (try simp only [allP, side, Ctr.reads, etas]); all_goals repeat' (first | exact sp1 | refine And.intro ?_ ?_)
  all_goals (try simp only [ETy.frm, dTag_beq, List.set_set, List.length_set, List.nil_append, List.length_append, List.length_take, List.length_drop, Ctr.reads, etas] at *)
  all_goals (try simp only [nbls] at *)
  all_goals first | done | with_reducible assumption | with_reducible rfl | omega | grind [mDropAddr]
theorem h_spec_HearGone : Ctr.holds E 111 (.reads [aEnd, aLetter] [aEnd, aRow .letter] (fun ((e : DEnd), (x : DLetter), _) => e.B) fun ((e : DEnd), (x : DLetter), _) => ((mHearGone e x).1, (mHearGone e x).2, ())) := by
  refine fn_ok prgOk (gcons h_spec_l17Copy (gcons h_spec_AddrAt (gcons h_spec_l20On (gcons h_spec_l17Put (gcons h_spec_DropAddr gnil))))) Tryz.func111 rfl rfl rfl rfl ?_
  rintro ty ⟨(e : DEnd), (x : DLetter), _⟩ (hp : e.B)
  obtain ⟨hb1, hb2, hb3, hb4, hb5, hb6, hb7⟩ := id hp
  have hgb := mSignedOn_bd e x
  have hab := mAddrAt_bd e.far x.id
  refine ⟨[(8, { X := Nat × List DSub, inv := fun z => z.1 ≤ e.subs.length ∧ z.2 = (e.subs.take z.1).map (goneG (fun s => s.road.far == (e.far.getD (mAddrAt e.far x.id).toNat (ETy.zero .addr)).addr)) ++ e.subs.drop z.1, mu := fun z => e.subs.length - z.1, vk := [8], ov := fun z => [.a (.c (.leaf (.int (z.1 : Int))))], bk := [], ob := fun z => [], rk := [648], orr := fun z => [⟨.sub, z.2, true, none⟩] })], ?_⟩
  repeat' ((conv => whnf); first | refine toOb2 ?_ | refine toY ?_ | refine And.intro (fun _ => ?_) (fun _ => ?_) | refine And.intro (toOb2 ?_) ?_ | refine And.intro (?_ : drawOk _ _ _ = true) ?_ | (refine And.intro ⟨?_, ?_⟩ ?_; fail) | intro _)
  (all_goals first | (refine Ob2.mk ?_; (try simp only [allP, side, Ctr.reads, etas, ETy.frm] at *); (try simp only [nbls, imp_self, implies_true, and_self, and_true, true_and] at *); first | done | trivial | assumption | omega | grind [mHearGone, mL20On]) | (show drawOk _ _ _ = true; exact rfl) | skip)
  (all_goals rename_i hcond)
  conv => whnf
  refine And.intro ⟨((0, e.subs) : Nat × List DSub), Ob.mk ?_, ?_⟩ (fun (y : Nat × List DSub) hi => ?_)
  · exact And.intro (Nat.zero_le _) rfl
  · conv => whnf
    refine Ob.mk ?_
    all_goals (try simp only [allP, side, Ctr.reads, etas]); all_goals repeat' (first | exact sp1 | refine And.intro ?_ ?_)
  obtain ⟨i, R⟩ := y
  obtain ⟨hi, hR⟩ := hi
  have hi : i ≤ e.subs.length := hi
  have hR : R = (e.subs.take i).map (goneG (fun s => s.road.far == (e.far.getD (mAddrAt e.far x.id).toNat (ETy.zero .addr)).addr)) ++ e.subs.drop i := hR
  have hRl : R.length = e.subs.length := by rw [hR]; simp; omega
  rcases Nat.lt_or_ge i e.subs.length with hlt | hge
  · obtain ⟨s, hx, hxi, hd⟩ := at_step e.subs i (ETy.zero .sub) hlt
    have hw := w64_succ hlt hb3
    have hRg : R.getD (i : Int).toNat (ETy.zero .sub) = s := by rw [hR, Int.toNat_natCast]; exact map_get _ _ _ _ _ hxi
    have hR1 : R.set (i : Int).toNat (goneG (fun s => s.road.far == (e.far.getD (mAddrAt e.far x.id).toNat (ETy.zero .addr)).addr) s) = (e.subs.take (i + 1)).map (goneG (fun s => s.road.far == (e.far.getD (mAddrAt e.far x.id).toNat (ETy.zero .addr)).addr)) ++ e.subs.drop (i + 1) := by rw [hR, Int.toNat_natCast]; exact map_step _ _ _ _ hxi
    have hR2 : goneG (fun s => s.road.far == (e.far.getD (mAddrAt e.far x.id).toNat (ETy.zero .addr)).addr) s = s → R = (e.subs.take (i + 1)).map (goneG (fun s => s.road.far == (e.far.getD (mAddrAt e.far x.id).toNat (ETy.zero .addr)).addr)) ++ e.subs.drop (i + 1) := fun h => by rw [hR]; exact map_same _ _ _ _ hxi h
    have hgs : goneG (fun s => s.road.far == (e.far.getD (mAddrAt e.far x.id).toNat (ETy.zero .addr)).addr) s = if (fun s => s.road.far == (e.far.getD (mAddrAt e.far x.id).toNat (ETy.zero .addr)).addr) s = true then { s with state := 4 } else s := rfl
    clear hR hd
    repeat' ((conv => whnf); first | refine toOb2 ?_ | refine And.intro (fun _ => ?_) (fun _ => ?_) | refine And.intro ?_ ?_ | refine toEx2 ?_ | refine toY ?_ | intro _)
    all_goals try (exfalso; have h9 := ge_of_dec (n := R.length) (by assumption); omega)
    all_goals try (exfalso; have h9 := ge_of_dec (n := e.subs.length) (by assumption); omega)
    all_goals first | refine Ob2.mk ?_ | refine Ex2.of ((i + 1, if (fun s => s.road.far == (e.far.getD (mAddrAt e.far x.id).toNat (ETy.zero .addr)).addr) s = true then R.set (i : Int).toNat (goneG (fun s => s.road.far == (e.far.getD (mAddrAt e.far x.id).toNat (ETy.zero .addr)).addr) s) else R) : Nat × List DSub) ?_ ?_ | skip
    all_goals try ((conv => whnf); refine Ob.mk ?_)
    all_goals (try simp only [allP, side, Ctr.reads, etas]); all_goals repeat' (first | exact sp1 | refine And.intro ?_ ?_)
    all_goals (try simp only [hRg, ETy.frm, Ctr.reads, etas] at *)
    all_goals first | done | omega | grind
  · have hl : i = e.subs.length := by omega
    subst hl
    have hR : R = goneIf (fun s => s.road.far == (e.far.getD (mAddrAt e.far x.id).toNat (ETy.zero .addr)).addr) e.subs := by rw [hR, goneIf_eq]; simp
    repeat' ((conv => whnf); first | refine toOb2 ?_ | refine And.intro (fun _ => ?_) (fun _ => ?_) | refine And.intro ?_ ?_ | refine toEx2 ?_ | refine toY ?_ | intro _)
    all_goals try (exfalso; have h9 := lt_of_dec (n := R.length) (by assumption); omega)
    all_goals try (exfalso; have h9 := lt_of_dec (n := e.subs.length) (by assumption); omega)
    all_goals first | refine Ob2.mk ?_ | refine Ex2.of ((e.subs.length, R)) ?_ ?_ | skip
    all_goals try ((conv => whnf); refine Ob.mk ?_)
    all_goals (try simp only [allP, side, Ctr.reads, etas]); all_goals repeat' (first | exact sp1 | refine And.intro ?_ ?_)
    all_goals (try simp only [ETy.frm, Ctr.reads, etas] at *)
    all_goals (try simp only [nbls] at *)
    all_goals first | done | omega | grind [mHearGone, mL20On]
theorem h_impl_TakeOne : Ctr.holds E 143 (.reads [aBucket] [aBucket, aBool] (fun ((b : DBucket), _) => True) fun ((b : DBucket), _) => ((mTakeOne b).1, (mTakeOne b).2, ())) := by
  refine fn_ok prgOk (gcons h_impl_BucketOk gnil) Tryz.func143 rfl rfl rfl rfl ?_
  rintro ty ⟨(b : DBucket), _⟩ hp
  have hbk := fun h : mBucketOk b = true => bucketOk_bd h
  have hw := fun h : mBucketOk b = true => take_w h
  refine ⟨[], ?_⟩
  repeat' ((conv => whnf); first | refine toOb2 ?_ | refine And.intro (fun _ => ?_) (fun _ => ?_) | refine And.intro ?_ ?_ | refine toEx2 ?_ | refine toY ?_ | intro _)
  all_goals first | refine Ob2.mk ?_ | (show drawOk _ _ _ = true; exact rfl)
  all_goals (try simp only [allP, side, Ctr.reads, etas]); all_goals repeat' (first | exact sp1 | refine And.intro ?_ ?_)
  all_goals (try simp only [Ctr.reads, etas] at *)
  all_goals (try simp only [nbls] at *)
  all_goals first | done | with_reducible assumption | with_reducible rfl | omega | grind [mTakeOne]
theorem h_impl_PutHalf : Ctr.holds E 144 (.reads [aRow .half, aHalf] [aRow .half, aBool] (fun ((l : List DHalf), (h : DHalf), _) => l.length ≤ 1073741823) fun ((l : List DHalf), (h : DHalf), _) => ((mPutHalf l h).1, (mPutHalf l h).2, ())) := by
  refine fn_ok prgOk (gcons h_impl_copyHalfs (gcons h_impl_HalfAt (gcons h_impl_HalfsOk gnil))) Tryz.func144 rfl rfl rfl rfl ?_
  rintro ty ⟨(l : List DHalf), (h : DHalf), _⟩ (hp : l.length ≤ 1073741823)
  have hpb := mHalfAt_bd l h.road
  refine ⟨[], ?_⟩
  repeat' ((conv => whnf); first | refine toOb2 ?_ | refine And.intro (fun _ => ?_) (fun _ => ?_) | refine And.intro ?_ ?_ | refine toEx2 ?_ | refine toY ?_ | intro _)
  all_goals first | refine Ob2.mk ?_ | (show drawOk _ _ _ = true; exact rfl)
  all_goals (try simp only [allP, side, Ctr.reads, etas]); all_goals repeat' (first | exact sp1 | refine And.intro ?_ ?_)
  all_goals (try simp only [ETy.frm, dTag_beq, List.set_set, List.length_set, List.nil_append, List.length_append, List.length_cons, List.length_nil, Ctr.reads, etas] at *)
  all_goals (try simp only [nbls] at *)
  all_goals first | done | with_reducible assumption | with_reducible rfl | omega | grind [mPutHalf, mPutHalfL]
theorem h_impl_HearJoin : Ctr.holds E 49 (.reads [aEnd, aLetter] [aEnd, aRow .letter] (fun ((e : DEnd), (x : DLetter), _) => e.B) fun ((e : DEnd), (x : DLetter), _) => ((mHearJoin e x).1, (mHearJoin e x).2, ())) := by
  refine fn_ok prgOk (gcons h_impl_copyEnd (gcons h_impl_RoadOf (gcons h_impl_HalfAt (gcons h_impl_EndOk (gcons h_impl_LetterOk (gcons h_impl_TokenFor (gcons h_impl_OwnsAddr (gcons h_impl_canDrawTwo (gcons h_impl_TakeOne (gcons h_impl_drawTwo (gcons h_impl_PutHalf (gcons h_impl_TagBack (gcons h_impl_Between gnil))))))))))))) Tryz.func49 rfl rfl rfl rfl ?_
  rintro ty ⟨(e : DEnd), (x : DLetter), _⟩ (hp : e.B)
  obtain ⟨hb1, hb2, hb3, hb4, hb5, hb6, hb7⟩ := id hp
  have hhb := mHalfAt_bd e.halfs (mRoadOf x)
  have h4 := fun h : mEndOk e = true => mHalfsOk_len (endOk_parts h).2.2.1
  have h8 := fun h : mEndOk e = true => (endOk_split h).2.2.1
  have hnm := fun h : mEndOk e = true => endOk_nums h
  have hrm := fun h : mRoom e = true => room_bd h
  have hhr := fun h : 0 ≤ mHalfAt e.halfs (mRoadOf x) => mHalfAt_road h
  have hnw := fun h : mEndOk e = true => now_w h
  have hph := fun (h : mEndOk e = true) (h2 : 0 ≤ mHalfAt e.halfs (mRoadOf x)) (h3 : e.now ≤ 999999994) => joinHalf_til h h2 h3
  refine ⟨[], ?_⟩
  repeat' ((conv => whnf); first | refine toOb2 ?_ | refine And.intro (fun _ => ?_) (fun _ => ?_) | refine And.intro ?_ ?_ | refine toEx2 ?_ | refine toY ?_ | intro _)
  all_goals first | refine Ob2.mk ?_ | (show drawOk _ _ _ = true; exact rfl)
  all_goals (try simp only [allP, side, Ctr.reads, etas]); all_goals repeat' (first | exact sp1 | refine And.intro ?_ ?_)
  all_goals (try simp only [ETy.frm, dTag_beq, List.set_set, List.length_set, List.nil_append, Ctr.reads, etas] at *)
  all_goals (try simp only [nbls] at *)
  all_goals (try simp only [decide_eq_true_eq, decide_eq_false_iff_not] at *)
  all_goals (try simp (disch := omega) only [w64_id] at *)
  all_goals (try simp (disch := omega) only [w64_id] at *)
  all_goals (try simp only [decide_eq_true_eq, decide_eq_false_iff_not] at *)
  all_goals (try simp (disch := first | assumption | omega | (simp only [List.length_set]; omega)) only [set_get, List.set_set, ETy.frm, etas] at *)
  all_goals first | done | with_reducible assumption | with_reducible rfl | omega | grind [mHearJoin, mJoinHalf, mJoinDraw, mDrawn, mTagBack, mIn, gHalf, ltr, mBetween, setSub, gSub]
theorem h_impl_DropHalf : Ctr.holds E 145 (.reads [aRow .half, aRoad] [aRow .half] (fun ((l : List DHalf), (r : DRoad), _) => l.length ≤ 1073741824) fun ((l : List DHalf), (r : DRoad), _) => (mDropHalf l r, ())) := by
  refine fn_ok prgOk (gcons h_impl_HalfAt (gcons h_impl_copyHalfs gnil)) Tryz.func145 rfl rfl rfl rfl ?_
  rintro ty ⟨(l : List DHalf), (r : DRoad), _⟩ (hp : l.length ≤ 1073741824)
  have hpb := mHalfAt_bd l r
  have hw : 0 ≤ mHalfAt l r → w64 (mHalfAt l r + 1) = mHalfAt l r + 1 ∧ (mHalfAt l r + 1).toNat = (mHalfAt l r).toNat + 1 := fun h => ⟨w64_id (by omega) (by omega), by omega⟩
  refine ⟨[], ?_⟩
  repeat' ((conv => whnf); first | refine toOb2 ?_ | refine And.intro (fun _ => ?_) (fun _ => ?_) | refine And.intro ?_ ?_ | refine toEx2 ?_ | refine toY ?_ | intro _)
  all_goals first | refine Ob2.mk ?_ | (show drawOk _ _ _ = true; exact rfl)
  all_goals (try simp only [allP, side, Ctr.reads, etas]); all_goals repeat' (first | exact sp1 | refine And.intro ?_ ?_)
  all_goals (try simp only [ETy.frm, dTag_beq, List.set_set, List.length_set, List.nil_append, List.length_append, List.length_take, List.length_drop, Ctr.reads, etas] at *)
  all_goals (try simp only [nbls] at *)
  all_goals first | done | with_reducible assumption | with_reducible rfl | omega | grind [mDropHalf]
theorem h_impl_HearJoinDone : Ctr.holds E 51 (.reads [aEnd, aLetter] [aEnd, aRow .letter] (fun ((e : DEnd), (x : DLetter), _) => e.B) fun ((e : DEnd), (x : DLetter), _) => ((mHearJoinDone e x).1, (mHearJoinDone e x).2, ())) := by
  refine fn_ok prgOk (gcons h_impl_copyEnd (gcons h_impl_EndOk (gcons h_impl_LetterOk (gcons h_impl_RoadOf (gcons h_impl_HalfAt (gcons h_impl_SubAt (gcons h_impl_TagDone (gcons h_impl_DropHalf (gcons h_impl_ackLetter gnil))))))))) Tryz.func51 rfl rfl rfl rfl ?_
  rintro ty ⟨(e : DEnd), (x : DLetter), _⟩ (hp : e.B)
  obtain ⟨hb1, hb2, hb3, hb4, hb5, hb6, hb7⟩ := id hp
  have hsb := mSubAt_bd e (mRoadOf x)
  have hrd := fun h : 0 ≤ mSubAt e (mRoadOf x) => mSubAt_road h
  have hhb := mHalfAt_bd e.halfs (mRoadOf x)
  have h4 := fun h : mEndOk e = true => mHalfsOk_len (endOk_parts h).2.2.1
  have h8 := fun h : mEndOk e = true => (endOk_split h).2.2.1
  have hnm := fun h : mEndOk e = true => endOk_nums h
  refine ⟨[], ?_⟩
  repeat' ((conv => whnf); first | refine toOb2 ?_ | refine And.intro (fun _ => ?_) (fun _ => ?_) | refine And.intro ?_ ?_ | refine toEx2 ?_ | refine toY ?_ | intro _)
  all_goals first | refine Ob2.mk ?_ | (show drawOk _ _ _ = true; exact rfl)
  all_goals (try simp only [allP, side, Ctr.reads, etas]); all_goals repeat' (first | exact sp1 | refine And.intro ?_ ?_)
  all_goals (try simp only [ETy.frm, dTag_beq, List.set_set, List.length_set, List.nil_append, Ctr.reads, etas] at *)
  all_goals (try simp only [nbls] at *)
  all_goals (try simp only [decide_eq_true_eq, decide_eq_false_iff_not] at *)
  all_goals (try simp (disch := first | assumption | omega | (simp only [List.length_set]; omega)) only [set_get, List.set_set, ETy.frm, etas] at *)
  all_goals first | done | with_reducible assumption | with_reducible rfl | omega | grind [mHearJoinDone, mAck, mGoneAt, gHalf, ltr, mBetween, setSub, gSub]
theorem h_impl_DropAddr : Ctr.holds E 125 (.reads [aRow .addr, aInt] [aRow .addr, aBool] (fun ((l : List DAddr), (n : Int), _) => l.length ≤ 1073741824) fun ((l : List DAddr), (n : Int), _) => ((mDropAddr l n).1, (mDropAddr l n).2, ())) := by
  refine fn_ok prgOk (gcons h_impl_AddrAt (gcons h_impl_copyAddrs gnil)) Tryz.func125 rfl rfl rfl rfl ?_
  rintro ty ⟨(l : List DAddr), (n : Int), _⟩ (hp : l.length ≤ 1073741824)
  have hpb := mAddrAt_bd l n
  have hw : 0 ≤ mAddrAt l n → w64 (mAddrAt l n + 1) = mAddrAt l n + 1 ∧ (mAddrAt l n + 1).toNat = (mAddrAt l n).toNat + 1 := fun h => ⟨w64_id (by omega) (by omega), by omega⟩
  refine ⟨[], ?_⟩
  repeat' ((conv => whnf); first | refine toOb2 ?_ | refine And.intro (fun _ => ?_) (fun _ => ?_) | refine And.intro ?_ ?_ | refine toEx2 ?_ | refine toY ?_ | intro _)
  all_goals first | refine Ob2.mk ?_ | (show drawOk _ _ _ = true; exact rfl)
  all_goals (try simp only [allP, side, Ctr.reads, etas]); all_goals repeat' (first | exact sp1 | refine And.intro ?_ ?_)
  all_goals (try simp only [ETy.frm, dTag_beq, List.set_set, List.length_set, List.nil_append, List.length_append, List.length_take, List.length_drop, Ctr.reads, etas] at *)
  all_goals (try simp only [nbls] at *)
  all_goals first | done | with_reducible assumption | with_reducible rfl | omega | grind [mDropAddr]
theorem h_impl_put : Ctr.holds E 126 (.reads [aRow .int, aInt] [aRow .int] (fun ((l : List Int), (n : Int), _) => l.length ≤ 1073741824) fun ((l : List Int), (n : Int), _) => (mPut l n, ())) := by
  refine fn_ok prgOk (gcons h_impl_copyInts gnil) Tryz.func126 rfl rfl rfl rfl ?_
  rintro ty ⟨(l : List Int), (n : Int), _⟩ (hp : l.length ≤ 1073741824)
  refine ⟨[(2, { X := Nat, inv := fun i => i ≤ l.length ∧ plN n (l.drop i) i = plN n l 0, mu := fun i => l.length - i, vk := [5], ov := fun i => [.a (.c (.leaf (.int (i : Int))))], bk := [], ob := fun i => [], rk := [], orr := fun i => [] })], ?_⟩
  repeat' ((conv => whnf); first | refine toOb2 ?_ | refine toY ?_ | refine And.intro (fun _ => ?_) (fun _ => ?_) | refine And.intro (toOb2 ?_) ?_ | refine And.intro (?_ : drawOk _ _ _ = true) ?_ | (refine And.intro ⟨?_, ?_⟩ ?_; fail) | intro _)
  (all_goals first | (refine Ob2.mk ?_; (try simp only [allP, side, Ctr.reads, etas] at *); (try simp only [nbls, imp_self, implies_true, and_self, and_true, true_and] at *); first | done | trivial | assumption | omega | grind []) | (show drawOk _ _ _ = true; exact rfl) | skip)
  conv => whnf
  refine And.intro ⟨(0 : Nat), Ob.mk ?_, ?_⟩ (fun (i : Nat) hi => ?_)
  · exact And.intro (Nat.zero_le _) rfl
  · conv => whnf
    refine Ob.mk ?_
    all_goals (try simp only [allP, side, Ctr.reads, etas]); all_goals repeat' (first | exact sp1 | refine And.intro ?_ ?_)
  obtain ⟨hi, hm⟩ := hi
  have hi : i ≤ l.length := hi
  have hm : plN n (l.drop i) i = plN n l 0 := hm
  rcases Nat.lt_or_ge i l.length with hlt | hge
  · obtain ⟨x, hx, hxi, hd⟩ := at_step l i (ETy.zero .int) hlt
    rw [hd, plN] at hm
    have hw := w64_succ hlt ((by omega))
    repeat' ((conv => whnf); first | refine toOb2 ?_ | refine And.intro (fun _ => ?_) (fun _ => ?_) | refine And.intro ?_ ?_ | refine toEx2 ?_ | refine toY ?_ | intro _)
    all_goals try (exfalso; exact Nat.lt_irrefl _ (Nat.lt_of_lt_of_le hlt (ge_of_dec (by assumption))))
    all_goals first | refine Ob2.mk ?_ | refine Ex2.of (i + 1) ?_ ?_ | skip
    all_goals try ((conv => whnf); refine Ob.mk ?_)
    all_goals (try simp only [allP, side, Ctr.reads, etas]); all_goals repeat' (first | exact sp1 | refine And.intro ?_ ?_)
    all_goals (try simp only [hx, List.nil_append, List.append_assoc, List.length_append, List.length_take, List.length_drop, List.length_cons, List.length_nil, ETy.frm, Ctr.reads, etas] at *)
    all_goals first | done | grind [mPut]
  · have hl : i = l.length := by omega
    subst hl
    rw [List.drop_length, plN] at hm
    repeat' ((conv => whnf); first | refine toOb2 ?_ | refine And.intro (fun _ => ?_) (fun _ => ?_) | refine And.intro ?_ ?_ | refine toEx2 ?_ | refine toY ?_ | intro _)
    all_goals try (exfalso; exact Nat.lt_irrefl _ (Nat.lt_of_lt_of_le (lt_of_dec (by assumption)) hge))
    all_goals first | refine Ob2.mk ?_ | refine Ex2.of (l.length + 1) ?_ ?_ | skip
    all_goals try ((conv => whnf); refine Ob.mk ?_)
    all_goals (try simp only [allP, side, Ctr.reads, etas]); all_goals repeat' (first | exact sp1 | refine And.intro ?_ ?_)
    all_goals (try simp only [List.nil_append, List.append_assoc, List.length_append, List.length_take, List.length_drop, List.length_cons, List.length_nil, ETy.frm, Ctr.reads, etas] at *)
    all_goals first | done | grind [mPut]
theorem h_impl_HearGone : Ctr.holds E 39 (.reads [aEnd, aLetter] [aEnd, aRow .letter] (fun ((e : DEnd), (x : DLetter), _) => e.B) fun ((e : DEnd), (x : DLetter), _) => ((mHearGone e x).1, (mHearGone e x).2, ())) := by
  refine fn_ok prgOk (gcons h_impl_copyEnd (gcons h_impl_AddrAt (gcons h_impl_EndOk (gcons h_impl_LetterOk (gcons h_impl_SignedOn (gcons h_impl_DropAddr (gcons h_impl_put gnil))))))) Tryz.func39 rfl rfl rfl rfl ?_
  rintro ty ⟨(e : DEnd), (x : DLetter), _⟩ (hp : e.B)
  obtain ⟨hb1, hb2, hb3, hb4, hb5, hb6, hb7⟩ := id hp
  have hgb := mSignedOn_bd e x
  have hab := mAddrAt_bd e.far x.id
  refine ⟨[(9, { X := Nat × List DSub, inv := fun z => z.1 ≤ e.subs.length ∧ z.2 = (e.subs.take z.1).map (goneG (fun s => s.road.far == (e.far.getD (mAddrAt e.far x.id).toNat (ETy.zero .addr)).addr)) ++ e.subs.drop z.1, mu := fun z => e.subs.length - z.1, vk := [60], ov := fun z => [.a (.c (.leaf (.int (z.1 : Int))))], bk := [], ob := fun z => [], rk := [712], orr := fun z => [⟨.sub, z.2, true, none⟩] })], ?_⟩
  repeat' ((conv => whnf); first | refine toOb2 ?_ | refine toY ?_ | refine And.intro (fun _ => ?_) (fun _ => ?_) | refine And.intro (toOb2 ?_) ?_ | refine And.intro (?_ : drawOk _ _ _ = true) ?_ | (refine And.intro ⟨?_, ?_⟩ ?_; fail) | intro _)
  (all_goals first | (refine Ob2.mk ?_; (try simp only [allP, side, Ctr.reads, etas, ETy.frm] at *); (try simp only [nbls, imp_self, implies_true, and_self, and_true, true_and] at *); first | done | trivial | assumption | omega | grind [mHearGone, mL20On]) | (show drawOk _ _ _ = true; exact rfl) | skip)
  (all_goals rename_i hcond)
  conv => whnf
  refine And.intro ⟨((0, e.subs) : Nat × List DSub), Ob.mk ?_, ?_⟩ (fun (y : Nat × List DSub) hi => ?_)
  · exact And.intro (Nat.zero_le _) rfl
  · conv => whnf
    refine Ob.mk ?_
    all_goals (try simp only [allP, side, Ctr.reads, etas]); all_goals repeat' (first | exact sp1 | refine And.intro ?_ ?_)
  obtain ⟨i, R⟩ := y
  obtain ⟨hi, hR⟩ := hi
  have hi : i ≤ e.subs.length := hi
  have hR : R = (e.subs.take i).map (goneG (fun s => s.road.far == (e.far.getD (mAddrAt e.far x.id).toNat (ETy.zero .addr)).addr)) ++ e.subs.drop i := hR
  have hRl : R.length = e.subs.length := by rw [hR]; simp; omega
  rcases Nat.lt_or_ge i e.subs.length with hlt | hge
  · obtain ⟨s, hx, hxi, hd⟩ := at_step e.subs i (ETy.zero .sub) hlt
    have hw := w64_succ hlt hb3
    have hRg : R.getD (i : Int).toNat (ETy.zero .sub) = s := by rw [hR, Int.toNat_natCast]; exact map_get _ _ _ _ _ hxi
    have hR1 : R.set (i : Int).toNat (goneG (fun s => s.road.far == (e.far.getD (mAddrAt e.far x.id).toNat (ETy.zero .addr)).addr) s) = (e.subs.take (i + 1)).map (goneG (fun s => s.road.far == (e.far.getD (mAddrAt e.far x.id).toNat (ETy.zero .addr)).addr)) ++ e.subs.drop (i + 1) := by rw [hR, Int.toNat_natCast]; exact map_step _ _ _ _ hxi
    have hR2 : goneG (fun s => s.road.far == (e.far.getD (mAddrAt e.far x.id).toNat (ETy.zero .addr)).addr) s = s → R = (e.subs.take (i + 1)).map (goneG (fun s => s.road.far == (e.far.getD (mAddrAt e.far x.id).toNat (ETy.zero .addr)).addr)) ++ e.subs.drop (i + 1) := fun h => by rw [hR]; exact map_same _ _ _ _ hxi h
    have hgs : goneG (fun s => s.road.far == (e.far.getD (mAddrAt e.far x.id).toNat (ETy.zero .addr)).addr) s = if (fun s => s.road.far == (e.far.getD (mAddrAt e.far x.id).toNat (ETy.zero .addr)).addr) s = true then { s with state := 4 } else s := rfl
    clear hR hd
    repeat' ((conv => whnf); first | refine toOb2 ?_ | refine And.intro (fun _ => ?_) (fun _ => ?_) | refine And.intro ?_ ?_ | refine toEx2 ?_ | refine toY ?_ | intro _)
    all_goals try (exfalso; have h9 := ge_of_dec (n := R.length) (by assumption); omega)
    all_goals try (exfalso; have h9 := ge_of_dec (n := e.subs.length) (by assumption); omega)
    all_goals first | refine Ob2.mk ?_ | refine Ex2.of ((i + 1, if (fun s => s.road.far == (e.far.getD (mAddrAt e.far x.id).toNat (ETy.zero .addr)).addr) s = true then R.set (i : Int).toNat (goneG (fun s => s.road.far == (e.far.getD (mAddrAt e.far x.id).toNat (ETy.zero .addr)).addr) s) else R) : Nat × List DSub) ?_ ?_ | skip
    all_goals try ((conv => whnf); refine Ob.mk ?_)
    all_goals (try simp only [allP, side, Ctr.reads, etas]); all_goals repeat' (first | exact sp1 | refine And.intro ?_ ?_)
    all_goals (try simp only [hRg, ETy.frm, Ctr.reads, etas] at *)
    all_goals first | done | omega | grind
  · have hl : i = e.subs.length := by omega
    subst hl
    have hR : R = goneIf (fun s => s.road.far == (e.far.getD (mAddrAt e.far x.id).toNat (ETy.zero .addr)).addr) e.subs := by rw [hR, goneIf_eq]; simp
    repeat' ((conv => whnf); first | refine toOb2 ?_ | refine And.intro (fun _ => ?_) (fun _ => ?_) | refine And.intro ?_ ?_ | refine toEx2 ?_ | refine toY ?_ | intro _)
    all_goals try (exfalso; have h9 := lt_of_dec (n := R.length) (by assumption); omega)
    all_goals try (exfalso; have h9 := lt_of_dec (n := e.subs.length) (by assumption); omega)
    all_goals first | refine Ob2.mk ?_ | refine Ex2.of ((e.subs.length, R)) ?_ ?_ | skip
    all_goals try ((conv => whnf); refine Ob.mk ?_)
    all_goals (try simp only [allP, side, Ctr.reads, etas]); all_goals repeat' (first | exact sp1 | refine And.intro ?_ ?_)
    all_goals (try simp only [ETy.frm, Ctr.reads, etas] at *)
    all_goals (try simp only [nbls] at *)
    all_goals first | done | omega | grind [mHearGone, mL20On]
end Go.Proofs.YtnpeomhpbakgnaaGreat
