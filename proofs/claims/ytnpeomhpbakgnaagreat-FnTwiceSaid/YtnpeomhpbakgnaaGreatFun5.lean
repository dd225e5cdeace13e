/- Contracts of functions of the program, each shown over the text. -/
import Derived.Test.YtnpeomhpbakgnaaGreatFun3
set_option linter.unusedVariables false
set_option linter.unusedSimpArgs false
set_option maxRecDepth 100000
set_option maxHeartbeats 1000000
namespace Go.Proofs.YtnpeomhpbakgnaaGreat
open Go.Eng
theorem h_spec_PutAddr : Ctr.holds E 197 (.reads [aRow .addr, aAddr] [aRow .addr, aBool] (fun ((l : List DAddr), _) => l.length ≤ 1073741823) fun ((l : List DAddr), (a : DAddr), _) => ((mPutAddr l a).1, (mPutAddr l a).2, ())) := by
  refine fn_ok prgOk (gcons h_spec_AddrAt (gcons h_spec_AddrsOk gnil)) Tryz.func197 rfl rfl rfl rfl ?_
  rintro ty ⟨(l : List DAddr), (a : DAddr), _⟩ (hp : l.length ≤ 1073741823)
  have hpb := mAddrAt_bd l a.id
  have hpl := mPutL_len l a
  have hbig := @mPutAddr_big l a
  refine ⟨[(9, { X := Nat, inv := fun i => i ≤ l.length ∧ plL a.id (l.drop i) i = plL a.id l 0, mu := fun i => l.length - i, vk := [8], ov := fun i => [.a (.c (.leaf (.int (i : Int))))], bk := [], ob := fun i => [], rk := [], orr := fun i => [] })], ?_⟩
  repeat' ((conv => whnf); first | refine toOb2 ?_ | refine toY ?_ | refine And.intro (fun _ => ?_) (fun _ => ?_) | refine And.intro (toOb2 ?_) ?_ | refine And.intro (?_ : drawOk _ _ _ = true) ?_ | (refine And.intro ⟨?_, ?_⟩ ?_; fail) | intro _)
  (all_goals first | (refine Ob2.mk ?_; (try simp only [allP, side, Ctr.reads, etas, List.length_set, List.nil_append] at *); (try simp only [nbls, imp_self, implies_true, and_self, and_true, true_and] at *); (try subst_vars); first | done | trivial | assumption | omega | grind [mPutAddr, mPutL]) | (show drawOk _ _ _ = true; exact rfl) | skip)
  conv => whnf
  refine And.intro ⟨(0 : Nat), Ob.mk ?_, ?_⟩ (fun (i : Nat) hi => ?_)
  · exact And.intro (Nat.zero_le _) rfl
  · conv => whnf
    refine Ob.mk ?_
    all_goals (try simp only [allP, side, Ctr.reads, etas]); all_goals repeat' (first | exact sp1 | refine And.intro ?_ ?_)
  obtain ⟨hi, hm⟩ := hi
  have hi : i ≤ l.length := hi
  have hm : plL a.id (l.drop i) i = plL a.id l 0 := hm
  rcases Nat.lt_or_ge i l.length with hlt | hge
  · obtain ⟨x, hx, hxi, hd⟩ := at_step l i (ETy.zero .addr) hlt
    rw [hd, plL] at hm
    have hw := w64_succ hlt ((by omega))
    repeat' ((conv => whnf); first | refine toOb2 ?_ | refine And.intro (fun _ => ?_) (fun _ => ?_) | refine And.intro ?_ ?_ | refine toEx2 ?_ | refine toY ?_ | intro _)
    all_goals try (exfalso; exact Nat.lt_irrefl _ (Nat.lt_of_lt_of_le hlt (ge_of_dec (by assumption))))
    all_goals first | refine Ob2.mk ?_ | refine Ex2.of (i + 1) ?_ ?_ | skip
    all_goals try ((conv => whnf); refine Ob.mk ?_)
    all_goals (try simp only [allP, side, Ctr.reads, etas]); all_goals repeat' (first | exact sp1 | refine And.intro ?_ ?_)
    all_goals (try simp only [hx, List.nil_append, List.append_assoc, List.length_append, List.length_take, List.length_drop, List.length_cons, List.length_nil, Ctr.reads, etas] at *)
    all_goals first | done | grind [mPutAddr, mPutL]
  · have hl : i = l.length := by omega
    subst hl
    rw [List.drop_length, plL] at hm
    repeat' ((conv => whnf); first | refine toOb2 ?_ | refine And.intro (fun _ => ?_) (fun _ => ?_) | refine And.intro ?_ ?_ | refine toEx2 ?_ | refine toY ?_ | intro _)
    all_goals try (exfalso; exact Nat.lt_irrefl _ (Nat.lt_of_lt_of_le (lt_of_dec (by assumption)) hge))
    all_goals first | refine Ob2.mk ?_ | refine Ex2.of (l.length + 1) ?_ ?_ | skip
    all_goals try ((conv => whnf); refine Ob.mk ?_)
    all_goals (try simp only [allP, side, Ctr.reads, etas]); all_goals repeat' (first | exact sp1 | refine And.intro ?_ ?_)
    all_goals (try simp only [List.nil_append, List.append_assoc, List.length_append, List.length_take, List.length_drop, List.length_cons, List.length_nil, Ctr.reads, etas] at *)
    all_goals first | done | grind [mPutAddr, mPutL]
theorem h_spec_EndNew : Ctr.holds E 202 (.reads [aInt, aInt, aPolicy] [aEnd, aBool] (fun ((s : Int), (a : Int), (p : DPolicy), _) => True) fun ((s : Int), (a : Int), (p : DPolicy), _) => ((mEndNew s a p).1, (mEndNew s a p).2, ())) := by
  refine fn_ok prgOk (gcons h_spec_PutAddr (gcons h_spec_l01In (gcons h_spec_PolicyOk (gcons h_spec_BucketNew gnil)))) Tryz.func202 rfl rfl rfl rfl ?_
  rintro ty ⟨(s : Int), (a : Int), (p : DPolicy), _⟩ hp
  have hbn : mBucketNew 1 3 = (⟨1, 3, 3⟩, true) := by decide
  have hpn : mPutAddr [] ⟨0, a, false, true⟩ = if mAddrsOk [⟨0, a, false, true⟩] = true then ([⟨0, a, false, true⟩], true) else ([], false) := rfl
  refine ⟨[], ?_⟩
  repeat' ((conv => whnf); first | refine toOb2 ?_ | refine And.intro (fun _ => ?_) (fun _ => ?_) | refine And.intro ?_ ?_ | refine toEx2 ?_ | refine toY ?_ | intro _)
  all_goals first | refine Ob2.mk ?_ | (show drawOk _ _ _ = true; exact rfl)
  all_goals (try simp only [allP, side, Ctr.reads, etas]); all_goals repeat' (first | exact sp1 | refine And.intro ?_ ?_)
  all_goals (try simp only [hbn, hpn, Ctr.reads, etas] at *)
  all_goals first | done | with_reducible assumption | with_reducible rfl | grind [mEndNew]
theorem h_spec_l18Room : Ctr.holds E 138 (.reads [aEnd, aInt] [aBool] (fun ((e : DEnd), (n : Int), _) => n = 2) fun ((e : DEnd), (n : Int), _) => (mRoom e, ())) := by
  refine fn_ok prgOk (gcons h_spec_l01In gnil) Tryz.func138 rfl rfl rfl rfl ?_
  rintro ty ⟨(e : DEnd), (n : Int), _⟩ hp
  obtain rfl : n = 2 := hp
  refine ⟨[], ?_⟩
  repeat' ((conv => whnf); first | refine toOb2 ?_ | refine And.intro (fun _ => ?_) (fun _ => ?_) | refine And.intro ?_ ?_ | refine toEx2 ?_ | refine toY ?_ | intro _)
  all_goals first | refine Ob2.mk ?_ | (show drawOk _ _ _ = true; exact rfl)
  all_goals (try simp only [allP, side, Ctr.reads, etas]); all_goals repeat' (first | exact sp1 | refine And.intro ?_ ?_)
  all_goals (try simp only [(by decide : w64 (1000000000 - w64 (2 * 2)) = 999999996), Ctr.reads, etas] at *)
  all_goals (try simp only [nbls] at *)
  all_goals first | done | with_reducible assumption | with_reducible rfl | omega | grind [mRoom]
theorem h_spec_l18Draw : Ctr.holds E 139 (.reads [aEnd] [aEnd, aInt] (fun ((e : DEnd), _) => e.B) fun ((e : DEnd), _) => ((mDrawn e).1, (mDrawn e).2, ())) := by
  refine fn_ok prgOk (gcons h_spec_Drawn gnil) Tryz.func139 rfl rfl rfl rfl ?_
  rintro ty ⟨(e : DEnd), _⟩ (hp : e.B)
  have hB := hp
  obtain ⟨hb1, hb2, hb3, hb4, hb5, hb6, hb7⟩ := hp
  refine ⟨[], ?_⟩
  repeat' ((conv => whnf); first | refine toOb2 ?_ | refine And.intro (fun _ => ?_) (fun _ => ?_) | refine And.intro ?_ ?_ | refine toEx2 ?_ | refine toY ?_ | intro _)
  all_goals first | refine Ob2.mk ?_ | (show drawOk _ _ _ = true; exact rfl)
  all_goals (try simp only [allP, side, Ctr.reads, etas]); all_goals repeat' (first | exact sp1 | refine And.intro ?_ ?_)
  all_goals (try simp only [Ctr.reads, etas] at *)
  all_goals (try simp only [nbls] at *)
  all_goals first | done | with_reducible assumption | with_reducible rfl | omega | grind [mDrawn]
theorem h_spec_l18Sub : Ctr.holds E 140 (⟨[aEnd, aSub], [.own, .ro], [aEnd], (fun ((e : DEnd), _) => e.B), (fun ((e : DEnd), (s : DSub), _) => ({ e with subs := e.subs ++ [s] }, ())), fun x => x, false, .ret⟩) := by
  refine fn_ok prgOk gnil Tryz.func140 rfl rfl rfl rfl ?_
  rintro ty ⟨(e : DEnd), (s : DSub), _⟩ (hp : e.B)
  obtain ⟨hb1, hb2, hb3, hb4, hb5, hb6, hb7⟩ := id hp
  refine ⟨[], ?_⟩
  repeat' ((conv => whnf); first | refine toOb2 ?_ | refine And.intro (fun _ => ?_) (fun _ => ?_) | refine And.intro ?_ ?_ | refine toEx2 ?_ | intro _)
  all_goals first | refine Ob2.mk ?_ | (show drawOk _ _ _ = true; exact rfl)
  all_goals (try simp only [allP, side, Ctr.reads, etas]); all_goals repeat' (first | exact sp1 | refine And.intro ?_ ?_)
  all_goals (try simp only [ETy.frm, dTag_beq, List.set_set, List.length_set, List.nil_append, Ctr.reads, etas] at *)
  all_goals (try simp only [nbls] at *)
  all_goals first | done | with_reducible assumption | with_reducible rfl | omega | grind []
theorem h_spec_Open : Ctr.holds E 228 (.reads [aEnd, aInt] [aEnd, aRow .letter] (fun ((e : DEnd), (f : Int), _) => e.B) fun ((e : DEnd), (f : Int), _) => ((mOpen e f).1, (mOpen e f).2, ())) := by
  refine fn_ok prgOk (gcons h_spec_l17Copy (gcons h_spec_EndOk (gcons h_spec_l01In (gcons h_spec_SubAt (gcons h_spec_l18Room (gcons h_spec_l18Draw (gcons h_spec_l18Sub (gcons h_spec_Between gnil)))))))) Tryz.func228 rfl rfl rfl rfl ?_
  rintro ty ⟨(e : DEnd), (f : Int), _⟩ (hp : e.B)
  obtain ⟨hb1, hb2, hb3, hb4, hb5, hb6, hb7⟩ := id hp
  have hsb := mSubAt_bd e (mOpenRoad e f)
  have h8 := fun h : mEndOk e = true => (endOk_split h).2.2.1
  have hnm := fun h : mEndOk e = true => endOk_nums h
  have hrm := fun h : mRoom e = true => room_bd h
  refine ⟨[], ?_⟩
  repeat' ((conv => whnf); first | refine toOb2 ?_ | refine And.intro (fun _ => ?_) (fun _ => ?_) | refine And.intro ?_ ?_ | refine toEx2 ?_ | refine toY ?_ | intro _)
  all_goals first | refine Ob2.mk ?_ | (show drawOk _ _ _ = true; exact rfl)
  all_goals (try simp only [allP, side, Ctr.reads, etas]); all_goals repeat' (first | exact sp1 | refine And.intro ?_ ?_)
  all_goals (try simp only [ETy.frm, dTag_beq, List.set_set, List.length_set, List.nil_append, show (0 : Int).toNat = 0 from rfl, Ctr.reads, etas] at *)
  all_goals (try simp only [nbls] at *)
  all_goals (try simp only [decide_eq_true_eq, decide_eq_false_iff_not] at *)
  all_goals (try simp (disch := omega) only [w64_id] at *)
  all_goals (try simp (disch := omega) only [w64_id] at *)
  all_goals first | done | with_reducible assumption | with_reducible rfl | omega | grind [mOpen, mOpenRoad, mDrawn, mIn, ltr, mBetween]
theorem h_spec_LetterOk : Ctr.holds E 102 (.reads [aLetter] [aBool] (fun _ => True) fun ((x : DLetter), _) => (mLetterOk x, ())) := by
  refine fn_ok prgOk (gcons h_spec_l01In (gcons h_spec_l14Num gnil)) Tryz.func102 rfl rfl rfl rfl ?_
  rintro ty ⟨(y : DLetter), _⟩ hp
  have hll : (lNums y).length = 16 := rfl
  refine ⟨[(5, { X := Nat, inv := fun i => i ≤ (lNums y).length ∧ allL mNum ((lNums y).drop i) = mNums (lNums y), mu := fun i => (lNums y).length - i, vk := [4], ov := fun i => [.a (.c (.leaf (.int (i : Int))))], bk := [], ob := fun i => [], rk := [], orr := fun i => [] })], ?_⟩
  repeat' ((conv => whnf); first | refine toOb2 ?_ | refine toY ?_ | refine And.intro (fun _ => ?_) (fun _ => ?_) | refine And.intro (toOb2 ?_) ?_ | refine And.intro (?_ : drawOk _ _ _ = true) ?_ | (refine And.intro ⟨?_, ?_⟩ ?_; fail) | intro _)
  (all_goals first | (refine Ob2.mk ?_; (try simp only [allP, side, Ctr.reads, etas] at *); (try simp only [nbls, imp_self, implies_true, and_self, and_true, true_and] at *); first | done | trivial | assumption | omega | grind [mLetterOk]) | (show drawOk _ _ _ = true; exact rfl) | skip)
  conv => whnf
  refine And.intro ⟨(0 : Nat), Ob.mk ?_, ?_⟩ (fun (i : Nat) hi => ?_)
  · exact And.intro (Nat.zero_le _) rfl
  · conv => whnf
    refine Ob.mk ?_
    all_goals (try simp only [allP, side, Ctr.reads, etas]); all_goals repeat' (first | exact sp1 | refine And.intro ?_ ?_)
  obtain ⟨hi, hm⟩ := hi
  have hi : i ≤ (lNums y).length := hi
  have hm : allL mNum ((lNums y).drop i) = mNums (lNums y) := hm
  rcases Nat.lt_or_ge i (lNums y).length with hlt | hge
  · obtain ⟨x, hx, hxi, hd⟩ := at_step (lNums y) i (ETy.zero .int) hlt
    rw [hd, allL] at hm
    have hw := w64_succ hlt ((by omega))
    have hlit : ([ETy.int.frm (y.src, ()), ETy.int.frm (y.dst, ()), ETy.int.frm (y.port, ()), ETy.int.frm (y.key, ()), ETy.int.frm (y.token, ()), ETy.int.frm (y.nonce, ()), ETy.int.frm (y.give, ()), ETy.int.frm (y.sign, ()), ETy.int.frm (y.id, ()), ETy.int.frm (y.addr, ()), ETy.int.frm (y.pos, ()), ETy.int.frm (y.tag.kind, ()), ETy.int.frm (y.tag.one, ()), ETy.int.frm (y.tag.two, ()), ETy.int.frm (y.tag.a, ()), ETy.int.frm (y.tag.b, ())] : List ETy.int.T) = lNums y := rfl
    repeat' ((conv => whnf); first | refine toOb2 ?_ | refine And.intro (fun _ => ?_) (fun _ => ?_) | refine And.intro ?_ ?_ | refine toEx2 ?_ | refine toY ?_ | intro _)
    all_goals try (exfalso; exact Nat.lt_irrefl _ (Nat.lt_of_lt_of_le hlt (ge_of_dec (by assumption))))
    all_goals first | refine Ob2.mk ?_ | refine Ex2.of (i + 1) ?_ ?_ | skip
    all_goals try ((conv => whnf); refine Ob.mk ?_)
    all_goals (try simp only [allP, side, Ctr.reads, etas]); all_goals repeat' (first | exact sp1 | refine And.intro ?_ ?_)
    all_goals (try simp only [hx, hlit, Ctr.reads, etas] at *)
    all_goals (try simp only [nbls] at *)
    all_goals first | done | grind [mNum, mLetterOk]
  · have hl : i = (lNums y).length := by omega
    subst hl
    rw [List.drop_length, allL] at hm
    repeat' ((conv => whnf); first | refine toOb2 ?_ | refine And.intro (fun _ => ?_) (fun _ => ?_) | refine And.intro ?_ ?_ | refine toEx2 ?_ | refine toY ?_ | intro _)
    all_goals try (exfalso; exact Nat.lt_irrefl _ (Nat.lt_of_lt_of_le (lt_of_dec (by assumption)) hge))
    all_goals first | refine Ob2.mk ?_ | refine Ex2.of ((lNums y).length + 1) ?_ ?_ | skip
    all_goals try ((conv => whnf); refine Ob.mk ?_)
    all_goals (try simp only [allP, side, Ctr.reads, etas]); all_goals repeat' (first | exact sp1 | refine And.intro ?_ ?_)
    all_goals (try simp only [hlit, Ctr.reads, etas] at *)
    have hlit : ([ETy.int.frm (y.src, ()), ETy.int.frm (y.dst, ()), ETy.int.frm (y.port, ()), ETy.int.frm (y.key, ()), ETy.int.frm (y.token, ()), ETy.int.frm (y.nonce, ()), ETy.int.frm (y.give, ()), ETy.int.frm (y.sign, ()), ETy.int.frm (y.id, ()), ETy.int.frm (y.addr, ()), ETy.int.frm (y.pos, ()), ETy.int.frm (y.tag.kind, ()), ETy.int.frm (y.tag.one, ()), ETy.int.frm (y.tag.two, ()), ETy.int.frm (y.tag.a, ()), ETy.int.frm (y.tag.b, ())] : List ETy.int.T) = lNums y := rfl
    all_goals (try simp only [hlit, Ctr.reads, etas] at *)
    all_goals (try simp only [nbls] at *)
    all_goals first | done | grind [mNum, mLetterOk]
theorem h_spec_l18Far : Ctr.holds E 190 (.reads [aInt] [aRow .addr] (fun ((a : Int), _) => True) fun ((a : Int), _) => (mMet a, ())) := by
  refine fn_ok prgOk gnil Tryz.func190 rfl rfl rfl rfl ?_
  rintro ty ⟨(a : Int), _⟩ hp
  refine ⟨[], ?_⟩
  repeat' ((conv => whnf); first | refine toOb2 ?_ | refine And.intro (fun _ => ?_) (fun _ => ?_) | refine And.intro ?_ ?_ | refine toEx2 ?_ | intro _)
  all_goals first | refine Ob2.mk ?_ | (show drawOk _ _ _ = true; exact rfl)
  all_goals (try simp only [allP, side, Ctr.reads, etas]); all_goals repeat' (first | exact sp1 | refine And.intro ?_ ?_)
  all_goals (try simp only [Ctr.reads, etas] at *)
  all_goals first | done | with_reducible assumption | with_reducible rfl | grind [mMet]
theorem h_spec_HearHello : Ctr.holds E 103 (.reads [aEnd, aLetter] [aEnd, aRow .letter] (fun ((e : DEnd), (x : DLetter), _) => e.B) fun ((e : DEnd), (x : DLetter), _) => ((mHearHello e x).1, (mHearHello e x).2, ())) := by
  refine fn_ok prgOk (gcons h_spec_l17Copy (gcons h_spec_EndOk (gcons h_spec_LetterOk (gcons h_spec_OwnsAddr (gcons h_spec_l01In (gcons h_spec_RoadOf (gcons h_spec_SubAt (gcons h_spec_l18Room (gcons h_spec_l18Draw (gcons h_spec_l18Far (gcons h_spec_l18Sub (gcons h_spec_Between gnil)))))))))))) Tryz.func103 rfl rfl rfl rfl ?_
  rintro ty ⟨(e : DEnd), (x : DLetter), _⟩ (hp : e.B)
  obtain ⟨hb1, hb2, hb3, hb4, hb5, hb6, hb7⟩ := id hp
  have hsb := mSubAt_bd e (mRoadOf x)
  have h8 := fun h : mEndOk e = true => (endOk_split h).2.2.1
  have hnm := fun h : mEndOk e = true => endOk_nums h
  have hrm := fun h : mRoom e = true => room_bd h
  refine ⟨[], ?_⟩
  repeat' ((conv => whnf); first | refine toOb2 ?_ | refine And.intro (fun _ => ?_) (fun _ => ?_) | refine And.intro ?_ ?_ | refine toEx2 ?_ | refine toY ?_ | intro _)
  all_goals first | refine Ob2.mk ?_ | (show drawOk _ _ _ = true; exact rfl)
  all_goals (try simp only [allP, side, Ctr.reads, etas]); all_goals repeat' (first | exact sp1 | refine And.intro ?_ ?_)
  all_goals (try simp only [ETy.frm, dTag_beq, List.set_set, List.length_set, List.nil_append, Ctr.reads, etas] at *)
  all_goals (try simp only [nbls] at *)
  all_goals (try simp only [decide_eq_true_eq, decide_eq_false_iff_not] at *)
  all_goals (try simp (disch := omega) only [w64_id] at *)
  all_goals (try simp (disch := omega) only [w64_id] at *)
  all_goals first | done | with_reducible assumption | with_reducible rfl | omega | grind [mHearHello, mDrawn, mIn, mMet, ltr, mBetween, setSub, gSub]
theorem h_spec_HearBack : Ctr.holds E 104 (.reads [aEnd, aLetter] [aEnd, aRow .letter] (fun ((e : DEnd), (x : DLetter), _) => e.B) fun ((e : DEnd), (x : DLetter), _) => ((mHearBack e x).1, (mHearBack e x).2, ())) := by
  refine fn_ok prgOk (gcons h_spec_l17Copy (gcons h_spec_RoadOf (gcons h_spec_SubAt (gcons h_spec_EndOk (gcons h_spec_LetterOk (gcons h_spec_l01In (gcons h_spec_l18Far (gcons h_spec_Between gnil)))))))) Tryz.func104 rfl rfl rfl rfl ?_
  rintro ty ⟨(e : DEnd), (x : DLetter), _⟩ (hp : e.B)
  obtain ⟨hb1, hb2, hb3, hb4, hb5, hb6, hb7⟩ := id hp
  have hsb := mSubAt_bd e (mRoadOf x)
  refine ⟨[], ?_⟩
  repeat' ((conv => whnf); first | refine toOb2 ?_ | refine And.intro (fun _ => ?_) (fun _ => ?_) | refine And.intro ?_ ?_ | refine toEx2 ?_ | refine toY ?_ | intro _)
  all_goals first | refine Ob2.mk ?_ | (show drawOk _ _ _ = true; exact rfl)
  all_goals (try simp only [allP, side, Ctr.reads, etas]); all_goals repeat' (first | exact sp1 | refine And.intro ?_ ?_)
  all_goals (try simp only [ETy.frm, dTag_beq, List.set_set, List.length_set, List.nil_append, Ctr.reads, etas] at *)
  all_goals (try simp only [nbls] at *)
  all_goals (try simp only [decide_eq_true_eq, decide_eq_false_iff_not] at *)
  all_goals (try simp (disch := first | assumption | omega | (simp only [List.length_set]; omega)) only [set_get, List.set_set, ETy.frm, etas] at *)
  all_goals first | done | with_reducible assumption | with_reducible rfl | omega | grind [mHearBack, ltr, mBetween, setSub, gSub, mMet]
theorem h_spec_Accept : Ctr.holds E 232 (.reads [aOut, aStr] [aOut, aInt] (fun ((o : DOut), (t : List UInt8), _) => True) fun ((o : DOut), (t : List UInt8), _) => ((mAccept o t).1, (mAccept o t).2, ())) := by
  refine fn_ok prgOk (gcons h_spec_OutOk gnil) Tryz.func232 rfl rfl rfl rfl ?_
  rintro ty ⟨(o : DOut), (t : List UInt8), _⟩ hp
  refine ⟨[], ?_⟩
  by_cases hok : mOutOk o = true
  · obtain ⟨ho1, ho2, ho3, ho4⟩ := outOk_bd hok
    have htl : 0 ≤ (t.length : Int) := by omega
    repeat' ((conv => whnf); first | refine toOb2 ?_ | refine And.intro (fun _ => ?_) (fun _ => ?_) | refine And.intro ?_ ?_ | refine toEx2 ?_ | refine toY ?_ | intro _)
    all_goals first | refine Ob2.mk ?_ | (show drawOk _ _ _ = true; exact rfl)
    all_goals (try simp only [allP, side, Ctr.reads, etas]); all_goals repeat' (first | exact sp1 | refine And.intro ?_ ?_)
    all_goals (try simp only [Ctr.reads, etas] at *)
    all_goals (try simp only [nbls] at *)
    all_goals (try simp only [decide_eq_true_eq, decide_eq_false_iff_not] at *)
    all_goals (try simp (disch := omega) only [w64_id] at *)
    all_goals (try simp (disch := omega) only [w64_id] at *)
    all_goals first | done | with_reducible assumption | with_reducible rfl | omega | grind [mAccept]
  · repeat' ((conv => whnf); first | refine toOb2 ?_ | refine And.intro (fun _ => ?_) (fun _ => ?_) | refine And.intro ?_ ?_ | refine toEx2 ?_ | refine toY ?_ | intro _)
    all_goals first | refine Ob2.mk ?_ | (show drawOk _ _ _ = true; exact rfl)
    all_goals (try simp only [allP, side, Ctr.reads, etas]); all_goals repeat' (first | exact sp1 | refine And.intro ?_ ?_)
    all_goals (try simp only [Ctr.reads, etas] at *)
    all_goals (try simp only [nbls] at *)
    all_goals first | done | with_reducible assumption | with_reducible rfl | omega | grind [mAccept]
theorem h_spec_Write : Ctr.holds E 229 (.reads [aEnd, aStr] [aEnd, aInt] (fun ((e : DEnd), (t : List UInt8), _) => e.B) fun ((e : DEnd), (t : List UInt8), _) => ((mWrite e t).1, (mWrite e t).2, ())) := by
  refine fn_ok prgOk (gcons h_spec_l17Copy (gcons h_spec_EndOk (gcons h_spec_Accept gnil))) Tryz.func229 rfl rfl rfl rfl ?_
  rintro ty ⟨(e : DEnd), (t : List UInt8), _⟩ (hp : e.B)
  obtain ⟨hb1, hb2, hb3, hb4, hb5, hb6, hb7⟩ := id hp
  refine ⟨[], ?_⟩
  repeat' ((conv => whnf); first | refine toOb2 ?_ | refine And.intro (fun _ => ?_) (fun _ => ?_) | refine And.intro ?_ ?_ | refine toEx2 ?_ | refine toY ?_ | intro _)
  all_goals first | refine Ob2.mk ?_ | (show drawOk _ _ _ = true; exact rfl)
  all_goals (try simp only [allP, side, Ctr.reads, etas]); all_goals repeat' (first | exact sp1 | refine And.intro ?_ ?_)
  all_goals (try simp only [Ctr.reads, etas] at *)
  all_goals first | done | with_reducible assumption | with_reducible rfl | grind [mWrite]
theorem h_spec_NextSub : Ctr.holds E 57 (.reads [aEnd] [aInt] (fun ((e : DEnd), _) => e.B) fun ((e : DEnd), _) => (mNextSub e, ())) := by
  refine fn_ok prgOk (gcons h_spec_EndOk (gcons h_spec_OnOf gnil)) Tryz.func57 rfl rfl rfl rfl ?_
  rintro ty ⟨(e : DEnd), _⟩ (hp : e.B)
  obtain ⟨hb1, hb2, hb3, hb4, hb5, hb6, hb7⟩ := hp
  refine ⟨[(6, { X := Nat × List Int, inv := fun x => x.1 ≤ (mOnOf e).length ∧ x.2 ++ colL (fCarr e) ((mOnOf e).drop x.1) x.1 = mCarr0 e ∧ x.2.length ≤ x.1, mu := fun x => (mOnOf e).length - x.1, vk := [5, 4, 11], ov := fun x => [.a (.c (.leaf (.int (x.1 : Int)))), .a (.c (.row 704)), .any], bk := [], ob := fun x => [], rk := [704], orr := fun x => [⟨.int, x.2, true, none⟩] })], ?_⟩
  have hlen : (mOnOf e).length ≤ 1073741824 := Nat.le_trans (colL_le _ _ _) hb3
  have hpk := fun (h : mEndOk e = true) => tmod_bd (mOnOf e) (endOk_pick h)
  have hpk2 := fun (h : mEndOk e = true) => tmod_bd (mCarr0 e) (endOk_pick h)
  repeat' ((conv => whnf); first | refine toOb2 ?_ | refine toY ?_ | refine And.intro (fun _ => ?_) (fun _ => ?_) | refine And.intro (toOb2 ?_) ?_ | refine And.intro (?_ : drawOk _ _ _ = true) ?_ | (refine And.intro ⟨?_, ?_⟩ ?_; fail) | intro _)
  (all_goals first | (refine Ob2.mk ?_; (try simp only [allP, side, Ctr.reads, etas] at *); (try simp only [nbls, imp_self, implies_true, and_self, and_true, true_and] at *); first | done | trivial | assumption | omega | grind [mNextSub]) | (show drawOk _ _ _ = true; exact rfl) | skip)
  conv => whnf
  refine And.intro ⟨((0, []) : Nat × List Int), Ob.mk ?_, ?_⟩ (fun (x : Nat × List Int) hi => ?_)
  · exact And.intro (Nat.zero_le _) (And.intro (rfl) (Nat.le_refl _))
  · conv => whnf
    refine Ob.mk ?_
    all_goals (try simp only [allP, side, Ctr.reads, etas]); all_goals repeat' (first | exact sp1 | refine And.intro ?_ ?_)
  obtain ⟨i, acc⟩ := x
  obtain ⟨hi, hm⟩ := hi
  have hi : i ≤ (mOnOf e).length := hi
  have hm : acc ++ colL (fCarr e) ((mOnOf e).drop i) i = mCarr0 e ∧ acc.length ≤ i := hm
  rcases Nat.lt_or_ge i (mOnOf e).length with hlt | hge
  · obtain ⟨x, hx, hxi, hd⟩ := at_step (mOnOf e) i (ETy.zero .int) hlt
    rw [hd, colL] at hm
    have hw := w64_succ hlt (hlen)
    have hmem := mOnOf_mem e x (List.mem_of_getElem? hxi)
    clear hpk hpk2
    repeat' ((conv => whnf); first | refine toOb2 ?_ | refine And.intro (fun _ => ?_) (fun _ => ?_) | refine And.intro ?_ ?_ | refine toEx2 ?_ | refine toY ?_ | intro _)
    all_goals try (exfalso; exact Nat.lt_irrefl _ (Nat.lt_of_lt_of_le hlt (ge_of_dec (by assumption))))
    all_goals first | refine Ob2.mk ?_ | refine Ex2.of ((i + 1, if (gSub e x).spare = false then acc ++ [x] else acc)) ?_ ?_ | skip
    all_goals try ((conv => whnf); refine Ob.mk ?_)
    all_goals (try simp only [allP, side, Ctr.reads, etas]); all_goals repeat' (first | exact sp1 | refine And.intro ?_ ?_)
    all_goals (try simp only [hx, Ctr.reads, etas] at *)
    all_goals (try simp only [gSub] at *)
    all_goals first | done | grind [fCarr, gSub, mCarr, mNextSub]
  · have hl : i = (mOnOf e).length := by omega
    subst hl
    rw [List.drop_length, colL] at hm
    repeat' ((conv => whnf); first | refine toOb2 ?_ | refine And.intro (fun _ => ?_) (fun _ => ?_) | refine And.intro ?_ ?_ | refine toEx2 ?_ | refine toY ?_ | intro _)
    all_goals try (exfalso; exact Nat.lt_irrefl _ (Nat.lt_of_lt_of_le (lt_of_dec (by assumption)) hge))
    all_goals first | refine Ob2.mk ?_ | refine Ex2.of (((mOnOf e).length, acc)) ?_ ?_ | skip
    all_goals try ((conv => whnf); refine Ob.mk ?_)
    all_goals (try simp only [allP, side, Ctr.reads, etas]); all_goals repeat' (first | exact sp1 | refine And.intro ?_ ?_)
    all_goals (try simp only [Ctr.reads, etas] at *)
    all_goals (try simp only [List.append_nil] at *)
    all_goals (try (obtain ⟨hm, hm9⟩ := hm; subst hm))
    all_goals first | done | grind [fCarr, gSub, mCarr, mNextSub]
theorem h_spec_l15Has : Ctr.holds E 196 (.reads [aRow .int, aInt] [aBool] (fun ((l : List Int), _) => l.length ≤ 1073741824) fun ((l : List Int), (n : Int), _) => (mHas l n, ())) := by
  refine fn_ok prgOk gnil Tryz.func196 rfl rfl rfl rfl ?_
  rintro ty ⟨(l : List Int), (n : Int), _⟩ (hp : l.length ≤ 1073741824)
  refine ⟨[(2, { X := Nat, inv := fun i => i ≤ l.length ∧ anyL (fun x : Int => x == n) (l.drop i) = mHas l n, mu := fun i => l.length - i, vk := [5], ov := fun i => [.a (.c (.leaf (.int (i : Int))))], bk := [], ob := fun i => [], rk := [], orr := fun i => [] })], ?_⟩
  conv => whnf
  refine And.intro ⟨(0 : Nat), Ob.mk ?_, ?_⟩ (fun (i : Nat) hi => ?_)
  · exact And.intro (Nat.zero_le _) rfl
  · conv => whnf
    refine Ob.mk ?_
    all_goals (try simp only [allP, side, Ctr.reads, etas]); all_goals repeat' (first | exact sp1 | refine And.intro ?_ ?_)
  obtain ⟨hi, hm⟩ := hi
  have hi : i ≤ l.length := hi
  have hm : anyL (fun x : Int => x == n) (l.drop i) = mHas l n := hm
  rcases Nat.lt_or_ge i l.length with hlt | hge
  · obtain ⟨x, hx, hxi, hd⟩ := at_step l i (ETy.zero .int) hlt
    rw [hd, anyL] at hm
    have hw := w64_succ hlt (hp)
    repeat' ((conv => whnf); first | refine toOb2 ?_ | refine And.intro (fun _ => ?_) (fun _ => ?_) | refine And.intro ?_ ?_ | refine toEx2 ?_ | intro _)
    all_goals try (exfalso; exact Nat.lt_irrefl _ (Nat.lt_of_lt_of_le hlt (ge_of_dec (by assumption))))
    all_goals first | refine Ob2.mk ?_ | refine Ex2.of (i + 1) ?_ ?_ | skip
    all_goals try ((conv => whnf); refine Ob.mk ?_)
    all_goals (try simp only [allP, side, Ctr.reads, etas]); all_goals repeat' (first | exact sp1 | refine And.intro ?_ ?_)
    all_goals (try simp only [hx, Ctr.reads, etas] at *)
    all_goals first | done | grind [mHas]
  · have hl : i = l.length := by omega
    subst hl
    rw [List.drop_length, anyL] at hm
    repeat' ((conv => whnf); first | refine toOb2 ?_ | refine And.intro (fun _ => ?_) (fun _ => ?_) | refine And.intro ?_ ?_ | refine toEx2 ?_ | intro _)
    all_goals try (exfalso; exact Nat.lt_irrefl _ (Nat.lt_of_lt_of_le (lt_of_dec (by assumption)) hge))
    all_goals first | refine Ob2.mk ?_ | refine Ex2.of (l.length + 1) ?_ ?_ | skip
    all_goals try ((conv => whnf); refine Ob.mk ?_)
    all_goals (try simp only [allP, side, Ctr.reads, etas]); all_goals repeat' (first | exact sp1 | refine And.intro ?_ ?_)
    all_goals (try simp only [Ctr.reads, etas] at *)
    all_goals first | done | grind [mHas]
theorem h_spec_AddOwn : Ctr.holds E 207 (.reads [aEnd, aAddr] [aEnd, aBool] (fun ((e : DEnd), (a : DAddr), _) => e.B ∧ e.own.length ≤ 1073741823) fun ((e : DEnd), (a : DAddr), _) => ((mAddOwn e a).1, (mAddOwn e a).2, ())) := by
  refine fn_ok prgOk (gcons h_spec_l17Copy (gcons h_spec_PutAddr (gcons h_spec_EndOk (gcons h_spec_AddrAt (gcons h_spec_l15Has gnil))))) Tryz.func207 rfl rfl rfl rfl ?_
  rintro ty ⟨(e : DEnd), (a : DAddr), _⟩ (hp : e.B ∧ e.own.length ≤ 1073741823)
  obtain ⟨hp, hp2⟩ := hp
  obtain ⟨hb1, hb2, hb3, hb4, hb5, hb6, hb7⟩ := id hp
  have hno := @mAddOwn_no e a
  have hat := mAddrAt_bd e.own a.id
  refine ⟨[], ?_⟩
  repeat' ((conv => whnf); first | refine toOb2 ?_ | refine And.intro (fun _ => ?_) (fun _ => ?_) | refine And.intro ?_ ?_ | refine toEx2 ?_ | refine toY ?_ | intro _)
  all_goals first | refine Ob2.mk ?_ | (show drawOk _ _ _ = true; exact rfl)
  all_goals (try simp only [allP, side, Ctr.reads, etas]); all_goals repeat' (first | exact sp1 | refine And.intro ?_ ?_)
  all_goals (try simp only [Ctr.reads, etas] at *)
  all_goals (try simp only [nbls] at *)
  all_goals first | done | with_reducible assumption | with_reducible rfl | omega | grind [mAddOwn]
theorem h_spec_l19Asks : Ctr.holds E 81 (.reads [aEnd, aSub] [aLetter] (fun ((e : DEnd), (s : DSub), _) => True) fun ((e : DEnd), (s : DSub), _) => (mJoinLetter e s, ())) := by
  refine fn_ok prgOk (gcons h_spec_TokenFor (gcons h_spec_Between gnil)) Tryz.func81 rfl rfl rfl rfl ?_
  rintro ty ⟨(e : DEnd), (s : DSub), _⟩ hp
  refine ⟨[], ?_⟩
  repeat' ((conv => whnf); first | refine toOb2 ?_ | refine And.intro (fun _ => ?_) (fun _ => ?_) | refine And.intro ?_ ?_ | refine toEx2 ?_ | refine toY ?_ | intro _)
  all_goals first | refine Ob2.mk ?_ | (show drawOk _ _ _ = true; exact rfl)
  all_goals (try simp only [allP, side, Ctr.reads, etas]); all_goals repeat' (first | exact sp1 | refine And.intro ?_ ?_)
  all_goals (try simp only [Ctr.reads, etas] at *)
  all_goals (try simp only [nbls] at *)
  all_goals first | done | with_reducible assumption | with_reducible rfl | omega | grind [mJoinLetter, ltr, mBetween]
theorem h_spec_TagDone : Ctr.holds E 180 (.reads [aInt, aInt, aInt, aInt] [aTag] (fun ((m : Int), (t : Int), (a : Int), (b : Int), _) => True) fun ((m : Int), (t : Int), (a : Int), (b : Int), _) => (mTagDone m t a b, ())) := by
  refine fn_ok prgOk gnil Tryz.func180 rfl rfl rfl rfl ?_
  rintro ty ⟨(m : Int), (t : Int), (a : Int), (b : Int), _⟩ hp
  refine ⟨[], ?_⟩
  repeat' ((conv => whnf); first | refine toOb2 ?_ | refine And.intro (fun _ => ?_) (fun _ => ?_) | refine And.intro ?_ ?_ | refine toEx2 ?_ | intro _)
  all_goals first | refine Ob2.mk ?_ | (show drawOk _ _ _ = true; exact rfl)
  all_goals (try simp only [allP, side, Ctr.reads, etas]); all_goals repeat' (first | exact sp1 | refine And.intro ?_ ?_)
  all_goals (try simp only [Ctr.reads, etas] at *)
  all_goals first | done | with_reducible assumption | with_reducible rfl | grind [mTagDone]
theorem h_spec_l19Proves : Ctr.holds E 82 (.reads [aEnd, aSub] [aLetter] (fun ((e : DEnd), (s : DSub), _) => True) fun ((e : DEnd), (s : DSub), _) => (mDoneLetter e s, ())) := by
  refine fn_ok prgOk (gcons h_spec_TagDone (gcons h_spec_Between gnil)) Tryz.func82 rfl rfl rfl rfl ?_
  rintro ty ⟨(e : DEnd), (s : DSub), _⟩ hp
  refine ⟨[], ?_⟩
  repeat' ((conv => whnf); first | refine toOb2 ?_ | refine And.intro (fun _ => ?_) (fun _ => ?_) | refine And.intro ?_ ?_ | refine toEx2 ?_ | refine toY ?_ | intro _)
  all_goals first | refine Ob2.mk ?_ | (show drawOk _ _ _ = true; exact rfl)
  all_goals (try simp only [allP, side, Ctr.reads, etas]); all_goals repeat' (first | exact sp1 | refine And.intro ?_ ?_)
  all_goals (try simp only [Ctr.reads, etas] at *)
  all_goals (try simp only [nbls] at *)
  all_goals first | done | with_reducible assumption | with_reducible rfl | omega | grind [mDoneLetter, mTagDone, ltr, mBetween]
theorem h_spec_UntoldOf : Ctr.holds E 181 (.reads [aRow .addr] [aRow .int] (fun ((l : List DAddr), _) => l.length ≤ 1073741824) fun ((l : List DAddr), _) => (mUntold l, ())) := by
  refine fn_ok prgOk gnil Tryz.func181 rfl rfl rfl rfl ?_
  rintro ty ⟨(l : List DAddr), _⟩ (hp : l.length ≤ 1073741824)
  refine ⟨[(3, { X := Nat × List Int, inv := fun x => x.1 ≤ l.length ∧ x.2 ++ colL (fUntold) (l.drop x.1) x.1 = mUntold l ∧ x.2.length ≤ x.1, mu := fun x => l.length - x.1, vk := [4, 3, 5], ov := fun x => [.a (.c (.leaf (.int (x.1 : Int)))), .a (.c (.row 320)), .any], bk := [], ob := fun x => [], rk := [320], orr := fun x => [⟨.int, x.2, true, none⟩] })], ?_⟩
  conv => whnf
  refine And.intro ⟨((0, []) : Nat × List Int), Ob.mk ?_, ?_⟩ (fun (x : Nat × List Int) hi => ?_)
  · exact And.intro (Nat.zero_le _) (And.intro (rfl) (Nat.le_refl _))
  · conv => whnf
    refine Ob.mk ?_
    all_goals (try simp only [allP, side, Ctr.reads, etas]); all_goals repeat' (first | exact sp1 | refine And.intro ?_ ?_)
  obtain ⟨i, acc⟩ := x
  obtain ⟨hi, hm⟩ := hi
  have hi : i ≤ l.length := hi
  have hm : acc ++ colL (fUntold) (l.drop i) i = mUntold l ∧ acc.length ≤ i := hm
  rcases Nat.lt_or_ge i l.length with hlt | hge
  · obtain ⟨x, hx, hxi, hd⟩ := at_step l i (ETy.zero .addr) hlt
    rw [hd, colL] at hm
    have hw := w64_succ hlt (hp)
    repeat' ((conv => whnf); first | refine toOb2 ?_ | refine And.intro (fun _ => ?_) (fun _ => ?_) | refine And.intro ?_ ?_ | refine toEx2 ?_ | intro _)
    all_goals try (exfalso; exact Nat.lt_irrefl _ (Nat.lt_of_lt_of_le hlt (ge_of_dec (by assumption))))
    all_goals first | refine Ob2.mk ?_ | refine Ex2.of ((i + 1, if x.told = false then acc ++ [x.id] else acc)) ?_ ?_ | skip
    all_goals try ((conv => whnf); refine Ob.mk ?_)
    all_goals (try simp only [allP, side, Ctr.reads, etas]); all_goals repeat' (first | exact sp1 | refine And.intro ?_ ?_)
    all_goals (try simp only [hx, Ctr.reads, etas] at *)
    all_goals first | done | grind [fUntold, mUntold]
  · have hl : i = l.length := by omega
    subst hl
    rw [List.drop_length, colL] at hm
    repeat' ((conv => whnf); first | refine toOb2 ?_ | refine And.intro (fun _ => ?_) (fun _ => ?_) | refine And.intro ?_ ?_ | refine toEx2 ?_ | intro _)
    all_goals try (exfalso; exact Nat.lt_irrefl _ (Nat.lt_of_lt_of_le (lt_of_dec (by assumption)) hge))
    all_goals first | refine Ob2.mk ?_ | refine Ex2.of ((l.length, acc)) ?_ ?_ | skip
    all_goals try ((conv => whnf); refine Ob.mk ?_)
    all_goals (try simp only [allP, side, Ctr.reads, etas]); all_goals repeat' (first | exact sp1 | refine And.intro ?_ ?_)
    all_goals (try simp only [Ctr.reads, etas] at *)
    all_goals first | done | grind [fUntold, mUntold]
theorem h_spec_TagAddr : Ctr.holds E 182 (.reads [aInt, aInt, aInt, aInt] [aTag] (fun ((m : Int), (t : Int), (i : Int), (a : Int), _) => True) fun ((m : Int), (t : Int), (i : Int), (a : Int), _) => (mTagAddr m t i a, ())) := by
  refine fn_ok prgOk gnil Tryz.func182 rfl rfl rfl rfl ?_
  rintro ty ⟨(m : Int), (t : Int), (i : Int), (a : Int), _⟩ hp
  refine ⟨[], ?_⟩
  repeat' ((conv => whnf); first | refine toOb2 ?_ | refine And.intro (fun _ => ?_) (fun _ => ?_) | refine And.intro ?_ ?_ | refine toEx2 ?_ | intro _)
  all_goals first | refine Ob2.mk ?_ | (show drawOk _ _ _ = true; exact rfl)
  all_goals (try simp only [allP, side, Ctr.reads, etas]); all_goals repeat' (first | exact sp1 | refine And.intro ?_ ?_)
  all_goals (try simp only [Ctr.reads, etas] at *)
  all_goals first | done | with_reducible assumption | with_reducible rfl | grind [mTagAddr]
theorem h_spec_TellAddrs : Ctr.holds E 83 (.reads [aEnd] [aRow .letter] (fun ((e : DEnd), _) => e.B) fun ((e : DEnd), _) => (mTellAddrs e, ())) := by
  refine fn_ok prgOk (gcons h_spec_OnOf (gcons h_spec_EndOk (gcons h_spec_UntoldOf (gcons h_spec_AddrAt (gcons h_spec_TagAddr (gcons h_spec_Between gnil)))))) Tryz.func83 rfl rfl rfl rfl ?_
  rintro ty ⟨(e : DEnd), _⟩ (hp : e.B)
  obtain ⟨hb1, hb2, hb3, hb4, hb5, hb6, hb7⟩ := hp
  refine ⟨[(8, { X := Nat × List DLetter, inv := fun x => x.1 ≤ (mUntold e.own).length ∧ x.2 ++ colL (fTellId e) ((mUntold e.own).drop x.1) x.1 = colL (fTellId e) (mUntold e.own) 0 ∧ x.2.length ≤ x.1, mu := fun x => (mUntold e.own).length - x.1, vk := [7, 3, 9], ov := fun x => [.a (.c (.leaf (.int (x.1 : Int)))), .a (.c (.row 576)), .any], bk := [], ob := fun x => [], rk := [576], orr := fun x => [⟨.letter, x.2, true, none⟩] })], ?_⟩
  have hlen : (mOnOf e).length ≤ 1073741824 := Nat.le_trans (colL_le _ _ _) hb3
  have hon : (mOnOf e).length ≠ 0 → 0 ≤ (mOnOf e).getD 0 (ETy.zero .int) ∧ (mOnOf e).getD 0 (ETy.zero .int) < (e.subs.length : Int) := fun h => mOnOf_mem e _ (by rw [List.getD, List.getElem?_eq_getElem (by omega)]; exact List.getElem_mem _)
  have htl : (mUntold e.own).length ≤ 1073741824 := Nat.le_trans (colL_le _ _ _) hb1
  have hte := fun (h : mEndOk e = true) => tell_eq e (endOk_parts h).1
  have hbd := fun (h : mEndOk e = true) => untold_bd e (endOk_parts h).1
  repeat' ((conv => whnf); first | refine toOb2 ?_ | refine toY ?_ | refine And.intro (fun _ => ?_) (fun _ => ?_) | refine And.intro (toOb2 ?_) ?_ | refine And.intro (?_ : drawOk _ _ _ = true) ?_ | (refine And.intro ⟨?_, ?_⟩ ?_; fail) | intro _)
  (all_goals first | (refine Ob2.mk ?_; (try simp only [allP, side, Ctr.reads, etas] at *); (try simp only [nbls, imp_self, implies_true, and_self, and_true, true_and] at *); (try simp only [show (0 : Int).toNat = 0 from rfl] at *); first | done | trivial | assumption | omega | grind [mTellAddrs]) | (show drawOk _ _ _ = true; exact rfl) | skip)
  conv => whnf
  refine And.intro ⟨((0, []) : Nat × List DLetter), Ob.mk ?_, ?_⟩ (fun (x : Nat × List DLetter) hi => ?_)
  · exact And.intro (Nat.zero_le _) (And.intro (rfl) (Nat.le_refl _))
  · conv => whnf
    refine Ob.mk ?_
    all_goals (try simp only [allP, side, Ctr.reads, etas]); all_goals repeat' (first | exact sp1 | refine And.intro ?_ ?_)
  obtain ⟨i, acc⟩ := x
  obtain ⟨hi, hm⟩ := hi
  have hi : i ≤ (mUntold e.own).length := hi
  have hm : acc ++ colL (fTellId e) ((mUntold e.own).drop i) i = colL (fTellId e) (mUntold e.own) 0 ∧ acc.length ≤ i := hm
  rcases Nat.lt_or_ge i (mUntold e.own).length with hlt | hge
  · obtain ⟨x, hx, hxi, hd⟩ := at_step (mUntold e.own) i (ETy.zero .int) hlt
    rw [hd, colL] at hm
    have hw := w64_succ hlt (htl)
    clear hon hte
    have hmem := fun (h : mEndOk e = true) => hbd h x (List.mem_of_getElem? hxi)
    clear hbd
    repeat' ((conv => whnf); first | refine toOb2 ?_ | refine And.intro (fun _ => ?_) (fun _ => ?_) | refine And.intro ?_ ?_ | refine toEx2 ?_ | refine toY ?_ | intro _)
    all_goals try (exfalso; exact Nat.lt_irrefl _ (Nat.lt_of_lt_of_le hlt (ge_of_dec (by assumption))))
    all_goals first | refine Ob2.mk ?_ | refine Ex2.of ((i + 1, acc ++ [mTellOne e (gA e.own (mAddrAt e.own x).toNat)])) ?_ ?_ | skip
    all_goals try ((conv => whnf); refine Ob.mk ?_)
    all_goals (try simp only [allP, side, Ctr.reads, etas]); all_goals repeat' (first | exact sp1 | refine And.intro ?_ ?_)
    all_goals (try simp only [hx, mTellOne, gSub, gA, show (0 : Int).toNat = 0 from rfl, mBetween, mTagAddr, Ctr.reads, etas] at *)
    all_goals (try simp only [nbls] at *)
    all_goals first | done | grind [fTellId, mTellOne, gSub, mTellAddrs, mBetween, mTagAddr]
  · have hl : i = (mUntold e.own).length := by omega
    subst hl
    rw [List.drop_length, colL] at hm
    repeat' ((conv => whnf); first | refine toOb2 ?_ | refine And.intro (fun _ => ?_) (fun _ => ?_) | refine And.intro ?_ ?_ | refine toEx2 ?_ | refine toY ?_ | intro _)
    all_goals try (exfalso; exact Nat.lt_irrefl _ (Nat.lt_of_lt_of_le (lt_of_dec (by assumption)) hge))
    all_goals first | refine Ob2.mk ?_ | refine Ex2.of (((mUntold e.own).length, acc)) ?_ ?_ | skip
    all_goals try ((conv => whnf); refine Ob.mk ?_)
    all_goals (try simp only [allP, side, Ctr.reads, etas]); all_goals repeat' (first | exact sp1 | refine And.intro ?_ ?_)
    all_goals (try simp only [mTellOne, gSub, gA, show (0 : Int).toNat = 0 from rfl, mBetween, mTagAddr, Ctr.reads, etas] at *)
    all_goals (try simp only [List.append_nil] at *)
    all_goals (try simp only [nbls] at *)
    all_goals first | done | grind [fTellId, mTellOne, gSub, mTellAddrs, mBetween, mTagAddr]
theorem h_spec_l19Far : Ctr.holds E 137 (.reads [aEnd, aInt] [aBool] (fun ((e : DEnd), (a : Int), _) => e.B) fun ((e : DEnd), (a : Int), _) => (mFarHas e a, ())) := by
  refine fn_ok prgOk gnil Tryz.func137 rfl rfl rfl rfl ?_
  rintro ty ⟨(e : DEnd), (a : Int), _⟩ (hp : e.B)
  obtain ⟨hb1, hb2, hb3, hb4, hb5, hb6, hb7⟩ := id hp
  refine ⟨[(2, { X := Nat, inv := fun i => i ≤ e.far.length ∧ anyL (fun x : DAddr => x.addr == a) (e.far.drop i) = mFarHas e a, mu := fun i => e.far.length - i, vk := [5], ov := fun i => [.a (.c (.leaf (.int (i : Int))))], bk := [], ob := fun i => [], rk := [], orr := fun i => [] })], ?_⟩
  conv => whnf
  refine And.intro ⟨(0 : Nat), Ob.mk ?_, ?_⟩ (fun (i : Nat) hi => ?_)
  · exact And.intro (Nat.zero_le _) rfl
  · conv => whnf
    refine Ob.mk ?_
    all_goals (try simp only [allP, side, Ctr.reads, etas]); all_goals repeat' (first | exact sp1 | refine And.intro ?_ ?_)
  obtain ⟨hi, hm⟩ := hi
  have hi : i ≤ e.far.length := hi
  have hm : anyL (fun x : DAddr => x.addr == a) (e.far.drop i) = mFarHas e a := hm
  rcases Nat.lt_or_ge i e.far.length with hlt | hge
  · obtain ⟨x, hx, hxi, hd⟩ := at_step e.far i (ETy.zero .addr) hlt
    rw [hd, anyL] at hm
    have hw := w64_succ hlt (hb2)
    repeat' ((conv => whnf); first | refine toOb2 ?_ | refine And.intro (fun _ => ?_) (fun _ => ?_) | refine And.intro ?_ ?_ | refine toEx2 ?_ | intro _)
    all_goals try (exfalso; exact Nat.lt_irrefl _ (Nat.lt_of_lt_of_le hlt (ge_of_dec (by assumption))))
    all_goals first | refine Ob2.mk ?_ | refine Ex2.of (i + 1) ?_ ?_ | skip
    all_goals try ((conv => whnf); refine Ob.mk ?_)
    all_goals (try simp only [allP, side, Ctr.reads, etas]); all_goals repeat' (first | exact sp1 | refine And.intro ?_ ?_)
    all_goals (try simp only [hx, Ctr.reads, etas] at *)
    all_goals first | done | grind [mFarHas]
  · have hl : i = e.far.length := by omega
    subst hl
    rw [List.drop_length, anyL] at hm
    repeat' ((conv => whnf); first | refine toOb2 ?_ | refine And.intro (fun _ => ?_) (fun _ => ?_) | refine And.intro ?_ ?_ | refine toEx2 ?_ | intro _)
    all_goals try (exfalso; exact Nat.lt_irrefl _ (Nat.lt_of_lt_of_le (lt_of_dec (by assumption)) hge))
    all_goals first | refine Ob2.mk ?_ | refine Ex2.of (e.far.length + 1) ?_ ?_ | skip
    all_goals try ((conv => whnf); refine Ob.mk ?_)
    all_goals (try simp only [allP, side, Ctr.reads, etas]); all_goals repeat' (first | exact sp1 | refine And.intro ?_ ?_)
    all_goals (try simp only [Ctr.reads, etas] at *)
    all_goals first | done | grind [mFarHas]
theorem h_spec_Join : Ctr.holds E 47 (.reads [aEnd, aRoad, aBool] [aEnd, aRow .letter] (fun ((e : DEnd), (r : DRoad), (p : Bool), _) => e.B) fun ((e : DEnd), (r : DRoad), (p : Bool), _) => ((mJoin e r p).1, (mJoin e r p).2, ())) := by
  refine fn_ok prgOk (gcons h_spec_l17Copy (gcons h_spec_EndOk (gcons h_spec_l14Road (gcons h_spec_SubAt (gcons h_spec_OwnsAddr (gcons h_spec_l19Far (gcons h_spec_l18Room (gcons h_spec_l18Draw (gcons h_spec_l18Sub (gcons h_spec_l19Asks gnil)))))))))) Tryz.func47 rfl rfl rfl rfl ?_
  rintro ty ⟨(e : DEnd), (r : DRoad), (p : Bool), _⟩ (hp : e.B)
  obtain ⟨hb1, hb2, hb3, hb4, hb5, hb6, hb7⟩ := id hp
  have hsb := mSubAt_bd e r
  have h8 := fun h : mEndOk e = true => (endOk_split h).2.2.1
  have hnm := fun h : mEndOk e = true => endOk_nums h
  have hrm := fun h : mRoom e = true => room_bd h
  refine ⟨[], ?_⟩
  repeat' ((conv => whnf); first | refine toOb2 ?_ | refine And.intro (fun _ => ?_) (fun _ => ?_) | refine And.intro ?_ ?_ | refine toEx2 ?_ | refine toY ?_ | intro _)
  all_goals first | refine Ob2.mk ?_ | (show drawOk _ _ _ = true; exact rfl)
  all_goals (try simp only [allP, side, Ctr.reads, etas]); all_goals repeat' (first | exact sp1 | refine And.intro ?_ ?_)
  all_goals (try simp only [ETy.frm, dTag_beq, List.set_set, List.length_set, List.nil_append, Ctr.reads, etas] at *)
  all_goals (try simp only [nbls] at *)
  all_goals (try simp only [decide_eq_true_eq, decide_eq_false_iff_not] at *)
  all_goals (try simp (disch := omega) only [w64_id] at *)
  all_goals (try simp (disch := omega) only [w64_id] at *)
  all_goals first | done | with_reducible assumption | with_reducible rfl | omega | grind [mJoin, mJoinLetter, mDrawn, mIn]
theorem h_spec_TakeReady : Ctr.holds E 230 (.reads [aPieces, aInt] [aPieces, aStr] (fun ((p : DPieces), (n : Int), _) => p.list.length ≤ 1073741824 ∧ p.ready.length ≤ 1073741824) fun ((p : DPieces), (n : Int), _) => ((mTakeReady p n).1, (mTakeReady p n).2, ())) := by
  refine fn_ok prgOk (gcons h_spec_l09Copy (gcons h_spec_PiecesOk gnil)) Tryz.func230 rfl rfl rfl rfl ?_
  rintro ty ⟨(p : DPieces), (n : Int), _⟩ (hp : p.list.length ≤ 1073741824 ∧ p.ready.length ≤ 1073741824)
  obtain ⟨hp, hp2⟩ := hp
  have hwn : 0 ≤ n → n ≤ 1073741824 → w64 (1000000000 - n) = 1000000000 - n := fun h1 h2 => w64_id (by omega) (by omega)
  have hmn : mTakeN p n ≤ 1073741824 := by unfold mTakeN; split <;> omega
  refine ⟨[], ?_⟩
  by_cases hok : mPiecesOk p = true
  · obtain ⟨ho1, ho2⟩ := piecesOk_bd hok
    repeat' ((conv => whnf); first | refine toOb2 ?_ | refine And.intro (fun _ => ?_) (fun _ => ?_) | refine And.intro ?_ ?_ | refine toEx2 ?_ | refine toY ?_ | intro _)
    all_goals first | refine Ob2.mk ?_ | (show drawOk _ _ _ = true; exact rfl)
    all_goals (try simp only [allP, side, Ctr.reads, etas]); all_goals repeat' (first | exact sp1 | refine And.intro ?_ ?_)
    all_goals (try simp only [Ctr.reads, etas] at *)
    all_goals (try simp only [nbls] at *)
    all_goals (try simp only [decide_eq_true_eq, decide_eq_false_iff_not] at *)
    all_goals (try simp (disch := omega) only [w64_id] at *)
    all_goals (try simp (disch := omega) only [w64_id] at *)
    all_goals (try simp only [mTakeReady, mTakeN] at *)
    all_goals (try split at *)
    all_goals (try simp (disch := omega) only [w64_id] at *)
    all_goals (try simp (disch := omega) only [w64_id] at *)
    all_goals first | done | with_reducible assumption | with_reducible rfl | omega | grind [mTakeReady, mTakeN]
  · repeat' ((conv => whnf); first | refine toOb2 ?_ | refine And.intro (fun _ => ?_) (fun _ => ?_) | refine And.intro ?_ ?_ | refine toEx2 ?_ | refine toY ?_ | intro _)
    all_goals first | refine Ob2.mk ?_ | (show drawOk _ _ _ = true; exact rfl)
    all_goals (try simp only [allP, side, Ctr.reads, etas]); all_goals repeat' (first | exact sp1 | refine And.intro ?_ ?_)
    all_goals (try simp only [Ctr.reads, etas] at *)
    all_goals (try simp only [nbls] at *)
    all_goals (try simp only [mTakeReady, mTakeN] at *)
    all_goals (try split at *)
    all_goals (try simp (disch := omega) only [w64_id] at *)
    all_goals (try simp (disch := omega) only [w64_id] at *)
    all_goals first | done | with_reducible assumption | with_reducible rfl | omega | grind [mTakeReady, mTakeN]
theorem h_spec_Read : Ctr.holds E 208 (.reads [aEnd, aInt] [aEnd, aStr] (fun ((e : DEnd), (n : Int), _) => e.B ∧ e.inn.ready.length ≤ 1073741824) fun ((e : DEnd), (n : Int), _) => ((mRead e n).1, (mRead e n).2, ())) := by
  refine fn_ok prgOk (gcons h_spec_l17Copy (gcons h_spec_EndOk (gcons h_spec_TakeReady gnil))) Tryz.func208 rfl rfl rfl rfl ?_
  rintro ty ⟨(e : DEnd), (n : Int), _⟩ (hp : e.B ∧ e.inn.ready.length ≤ 1073741824)
  obtain ⟨hp, hp2⟩ := hp
  obtain ⟨hb1, hb2, hb3, hb4, hb5, hb6, hb7⟩ := id hp
  refine ⟨[], ?_⟩
  repeat' ((conv => whnf); first | refine toOb2 ?_ | refine And.intro (fun _ => ?_) (fun _ => ?_) | refine And.intro ?_ ?_ | refine toEx2 ?_ | refine toY ?_ | intro _)
  all_goals first | refine Ob2.mk ?_ | (show drawOk _ _ _ = true; exact rfl)
  all_goals (try simp only [allP, side, Ctr.reads, etas]); all_goals repeat' (first | exact sp1 | refine And.intro ?_ ?_)
  all_goals (try simp only [Ctr.reads, etas] at *)
  all_goals first | done | with_reducible assumption | with_reducible rfl | grind [mRead]
theorem h_spec_TagBack : Ctr.holds E 187 (.reads [aInt, aInt, aInt, aInt] [aTag] (fun ((m : Int), (t : Int), (a : Int), (b : Int), _) => True) fun ((m : Int), (t : Int), (a : Int), (b : Int), _) => (mTagBack m t a b, ())) := by
  refine fn_ok prgOk gnil Tryz.func187 rfl rfl rfl rfl ?_
  rintro ty ⟨(m : Int), (t : Int), (a : Int), (b : Int), _⟩ hp
  refine ⟨[], ?_⟩
  repeat' ((conv => whnf); first | refine toOb2 ?_ | refine And.intro (fun _ => ?_) (fun _ => ?_) | refine And.intro ?_ ?_ | refine toEx2 ?_ | intro _)
  all_goals first | refine Ob2.mk ?_ | (show drawOk _ _ _ = true; exact rfl)
  all_goals (try simp only [allP, side, Ctr.reads, etas]); all_goals repeat' (first | exact sp1 | refine And.intro ?_ ?_)
  all_goals (try simp only [Ctr.reads, etas] at *)
  all_goals first | done | with_reducible assumption | with_reducible rfl | grind [mTagBack]
theorem h_spec_HearJoinBack : Ctr.holds E 106 (.reads [aEnd, aLetter] [aEnd, aRow .letter] (fun ((e : DEnd), (x : DLetter), _) => e.B) fun ((e : DEnd), (x : DLetter), _) => ((mHearJoinBack e x).1, (mHearJoinBack e x).2, ())) := by
  refine fn_ok prgOk (gcons h_spec_l17Copy (gcons h_spec_RoadOf (gcons h_spec_SubAt (gcons h_spec_EndOk (gcons h_spec_LetterOk (gcons h_spec_TagBack (gcons h_spec_l19Proves gnil))))))) Tryz.func106 rfl rfl rfl rfl ?_
  rintro ty ⟨(e : DEnd), (x : DLetter), _⟩ (hp : e.B)
  obtain ⟨hb1, hb2, hb3, hb4, hb5, hb6, hb7⟩ := id hp
  have hsb := mSubAt_bd e (mRoadOf x)
  refine ⟨[], ?_⟩
  repeat' ((conv => whnf); first | refine toOb2 ?_ | refine And.intro (fun _ => ?_) (fun _ => ?_) | refine And.intro ?_ ?_ | refine toEx2 ?_ | refine toY ?_ | intro _)
  all_goals first | refine Ob2.mk ?_ | (show drawOk _ _ _ = true; exact rfl)
  all_goals (try simp only [allP, side, Ctr.reads, etas]); all_goals repeat' (first | exact sp1 | refine And.intro ?_ ?_)
  all_goals (try simp only [ETy.frm, dTag_beq, List.set_set, List.length_set, List.nil_append, Ctr.reads, etas] at *)
  all_goals (try simp only [nbls] at *)
  all_goals (try simp only [decide_eq_true_eq, decide_eq_false_iff_not] at *)
  all_goals (try simp (disch := first | assumption | omega | (simp only [List.length_set]; omega)) only [set_get, List.set_set, ETy.frm, etas] at *)
  all_goals first | done | with_reducible assumption | with_reducible rfl | omega | grind [mHearJoinBack, ltr, mBetween, setSub, gSub, mDoneLetter, mTagBack, mTagDone]
theorem h_spec_l19Ack : Ctr.holds E 194 (.reads [aSub] [aLetter] (fun ((s : DSub), _) => True) fun ((s : DSub), _) => (mAck s.road s.give, ())) := by
  refine fn_ok prgOk (gcons h_spec_Between gnil) Tryz.func194 rfl rfl rfl rfl ?_
  rintro ty ⟨(s : DSub), _⟩ hp
  refine ⟨[], ?_⟩
  repeat' ((conv => whnf); first | refine toOb2 ?_ | refine And.intro (fun _ => ?_) (fun _ => ?_) | refine And.intro ?_ ?_ | refine toEx2 ?_ | refine toY ?_ | intro _)
  all_goals first | refine Ob2.mk ?_ | (show drawOk _ _ _ = true; exact rfl)
  all_goals (try simp only [allP, side, Ctr.reads, etas]); all_goals repeat' (first | exact sp1 | refine And.intro ?_ ?_)
  all_goals (try simp only [Ctr.reads, etas] at *)
  all_goals (try simp only [nbls] at *)
  all_goals first | done | with_reducible assumption | with_reducible rfl | omega | grind [mAck, ltr, mBetween]
theorem h_spec_HearJoinAck : Ctr.holds E 108 (.reads [aEnd, aLetter] [aEnd, aRow .letter] (fun ((e : DEnd), (x : DLetter), _) => e.B) fun ((e : DEnd), (x : DLetter), _) => ((mHearJoinAck e x).1, (mHearJoinAck e x).2, ())) := by
  refine fn_ok prgOk (gcons h_spec_l17Copy (gcons h_spec_RoadOf (gcons h_spec_SubAt (gcons h_spec_EndOk (gcons h_spec_LetterOk gnil))))) Tryz.func108 rfl rfl rfl rfl ?_
  rintro ty ⟨(e : DEnd), (x : DLetter), _⟩ (hp : e.B)
  obtain ⟨hb1, hb2, hb3, hb4, hb5, hb6, hb7⟩ := id hp
  have hsb := mSubAt_bd e (mRoadOf x)
  refine ⟨[], ?_⟩
  repeat' ((conv => whnf); first | refine toOb2 ?_ | refine And.intro (fun _ => ?_) (fun _ => ?_) | refine And.intro ?_ ?_ | refine toEx2 ?_ | refine toY ?_ | intro _)
  all_goals first | refine Ob2.mk ?_ | (show drawOk _ _ _ = true; exact rfl)
  all_goals (try simp only [allP, side, Ctr.reads, etas]); all_goals repeat' (first | exact sp1 | refine And.intro ?_ ?_)
  all_goals (try simp only [ETy.frm, dTag_beq, List.set_set, List.length_set, List.nil_append, Ctr.reads, etas] at *)
  all_goals (try simp only [nbls] at *)
  all_goals first | done | with_reducible assumption | with_reducible rfl | omega | grind [mHearJoinAck, ltr, mBetween, setSub, gSub]
theorem h_spec_l20On : Ctr.holds E 195 (.reads [aEnd, aLetter] [aInt] (fun ((e : DEnd), (x : DLetter), _) => e.B) fun ((e : DEnd), (x : DLetter), _) => (mL20On e x, ())) := by
  refine fn_ok prgOk (gcons h_spec_EndOk (gcons h_spec_LetterOk (gcons h_spec_SignedOn gnil))) Tryz.func195 rfl rfl rfl rfl ?_
  rintro ty ⟨(e : DEnd), (x : DLetter), _⟩ (hp : e.B)
  obtain ⟨hb1, hb2, hb3, hb4, hb5, hb6, hb7⟩ := id hp
  refine ⟨[], ?_⟩
  repeat' ((conv => whnf); first | refine toOb2 ?_ | refine And.intro (fun _ => ?_) (fun _ => ?_) | refine And.intro ?_ ?_ | refine toEx2 ?_ | refine toY ?_ | intro _)
  all_goals first | refine Ob2.mk ?_ | (show drawOk _ _ _ = true; exact rfl)
  all_goals (try simp only [allP, side, Ctr.reads, etas]); all_goals repeat' (first | exact sp1 | refine And.intro ?_ ?_)
  all_goals (try simp only [Ctr.reads, etas] at *)
  all_goals (try simp only [nbls] at *)
  all_goals first | done | with_reducible assumption | with_reducible rfl | omega | grind [mL20On]
theorem h_spec_HearAddr : Ctr.holds E 109 (.reads [aEnd, aLetter] [aEnd, aRow .letter] (fun ((e : DEnd), (x : DLetter), _) => e.B) fun ((e : DEnd), (x : DLetter), _) => ((mHearAddr e x).1, (mHearAddr e x).2, ())) := by
  refine fn_ok prgOk (gcons h_spec_l17Copy (gcons h_spec_l20On (gcons h_spec_TagAddr (gcons h_spec_l15Has (gcons h_spec_AddrAt (gcons h_spec_PutAddr (gcons h_spec_RoadOf (gcons h_spec_Between gnil)))))))) Tryz.func109 rfl rfl rfl rfl ?_
  rintro ty ⟨(e : DEnd), (x : DLetter), _⟩ (hp : e.B)
  obtain ⟨hb1, hb2, hb3, hb4, hb5, hb6, hb7⟩ := id hp
  have hgb := mSignedOn_bd e x
  have hat := mAddrAt_bd e.far x.id
  have hfl := fun h : mEndOk e = true => mAddrsOk_len (endOk_parts h).2.1
  refine ⟨[], ?_⟩
  repeat' ((conv => whnf); first | refine toOb2 ?_ | refine And.intro (fun _ => ?_) (fun _ => ?_) | refine And.intro ?_ ?_ | refine toEx2 ?_ | refine toY ?_ | intro _)
  all_goals first | refine Ob2.mk ?_ | (show drawOk _ _ _ = true; exact rfl)
  all_goals (try simp only [allP, side, Ctr.reads, etas]); all_goals repeat' (first | exact sp1 | refine And.intro ?_ ?_)
  all_goals (try simp only [ETy.frm, dTag_beq, List.set_set, List.length_set, List.nil_append, Ctr.reads, etas] at *)
  all_goals (try simp only [nbls] at *)
  all_goals first | done | with_reducible assumption | with_reducible rfl | omega | grind [mHearAddr, ltr, mBetween, setSub, gSub, mL20On, mTagAddr]
theorem h_spec_HearEcho : Ctr.holds E 110 (.reads [aEnd, aLetter] [aEnd, aRow .letter] (fun ((e : DEnd), (x : DLetter), _) => e.B) fun ((e : DEnd), (x : DLetter), _) => ((mHearEcho e x).1, (mHearEcho e x).2, ())) := by
  refine fn_ok prgOk (gcons h_spec_l17Copy (gcons h_spec_AddrAt (gcons h_spec_l20On gnil))) Tryz.func110 rfl rfl rfl rfl ?_
  rintro ty ⟨(e : DEnd), (x : DLetter), _⟩ (hp : e.B)
  obtain ⟨hb1, hb2, hb3, hb4, hb5, hb6, hb7⟩ := id hp
  have hgb := mSignedOn_bd e x
  have hab := mAddrAt_bd e.own x.id
  refine ⟨[], ?_⟩
  repeat' ((conv => whnf); first | refine toOb2 ?_ | refine And.intro (fun _ => ?_) (fun _ => ?_) | refine And.intro ?_ ?_ | refine toEx2 ?_ | refine toY ?_ | intro _)
  all_goals first | refine Ob2.mk ?_ | (show drawOk _ _ _ = true; exact rfl)
  all_goals (try simp only [allP, side, Ctr.reads, etas]); all_goals repeat' (first | exact sp1 | refine And.intro ?_ ?_)
  all_goals (try simp only [ETy.frm, dTag_beq, List.set_set, List.length_set, List.nil_append, Ctr.reads, etas] at *)
  all_goals (try simp only [nbls] at *)
  all_goals first | done | with_reducible assumption | with_reducible rfl | omega | grind [mHearEcho, ltr, mBetween, setSub, gSub, mL20On]
theorem h_spec_Came : Ctr.holds E 201 (.reads [aOut, aInt] [aOut] (fun ((o : DOut), (u : Int), _) => True) fun ((o : DOut), (u : Int), _) => (mCame o u, ())) := by
  refine fn_ok prgOk (gcons h_spec_OutOk gnil) Tryz.func201 rfl rfl rfl rfl ?_
  rintro ty ⟨(o : DOut), (u : Int), _⟩ hp
  refine ⟨[], ?_⟩
  by_cases hok : mOutOk o = true
  · obtain ⟨ho1, ho2, ho3, ho4⟩ := outOk_bd hok
    repeat' ((conv => whnf); first | refine toOb2 ?_ | refine And.intro (fun _ => ?_) (fun _ => ?_) | refine And.intro ?_ ?_ | refine toEx2 ?_ | refine toY ?_ | intro _)
    all_goals first | refine Ob2.mk ?_ | (show drawOk _ _ _ = true; exact rfl)
    all_goals (try simp only [allP, side, Ctr.reads, etas]); all_goals repeat' (first | exact sp1 | refine And.intro ?_ ?_)
    all_goals (try simp only [Ctr.reads, etas] at *)
    all_goals (try simp only [nbls] at *)
    all_goals (try simp only [decide_eq_true_eq, decide_eq_false_iff_not] at *)
    all_goals (try simp (disch := omega) only [w64_id] at *)
    all_goals (try simp (disch := omega) only [w64_id] at *)
    all_goals first | done | with_reducible assumption | with_reducible rfl | omega | grind [mCame]
  · repeat' ((conv => whnf); first | refine toOb2 ?_ | refine And.intro (fun _ => ?_) (fun _ => ?_) | refine And.intro ?_ ?_ | refine toEx2 ?_ | refine toY ?_ | intro _)
    all_goals first | refine Ob2.mk ?_ | (show drawOk _ _ _ = true; exact rfl)
    all_goals (try simp only [allP, side, Ctr.reads, etas]); all_goals repeat' (first | exact sp1 | refine And.intro ?_ ?_)
    all_goals (try simp only [Ctr.reads, etas] at *)
    all_goals (try simp only [nbls] at *)
    all_goals first | done | with_reducible assumption | with_reducible rfl | omega | grind [mCame]
theorem h_spec_HearCame : Ctr.holds E 113 (.reads [aEnd, aLetter] [aEnd, aRow .letter] (fun ((e : DEnd), (x : DLetter), _) => e.B) fun ((e : DEnd), (x : DLetter), _) => ((mHearCame e x).1, (mHearCame e x).2, ())) := by
  refine fn_ok prgOk (gcons h_spec_l17Copy (gcons h_spec_l20On (gcons h_spec_Came gnil))) Tryz.func113 rfl rfl rfl rfl ?_
  rintro ty ⟨(e : DEnd), (x : DLetter), _⟩ (hp : e.B)
  obtain ⟨hb1, hb2, hb3, hb4, hb5, hb6, hb7⟩ := id hp
  have hgb := mSignedOn_bd e x
  refine ⟨[], ?_⟩
  repeat' ((conv => whnf); first | refine toOb2 ?_ | refine And.intro (fun _ => ?_) (fun _ => ?_) | refine And.intro ?_ ?_ | refine toEx2 ?_ | refine toY ?_ | intro _)
  all_goals first | refine Ob2.mk ?_ | (show drawOk _ _ _ = true; exact rfl)
  all_goals (try simp only [allP, side, Ctr.reads, etas]); all_goals repeat' (first | exact sp1 | refine And.intro ?_ ?_)
  all_goals (try simp only [ETy.frm, dTag_beq, List.set_set, List.length_set, List.nil_append, Ctr.reads, etas] at *)
  all_goals (try simp only [nbls] at *)
  all_goals first | done | with_reducible assumption | with_reducible rfl | omega | grind [mHearCame, ltr, mBetween, setSub, gSub, mL20On]
theorem h_spec_HearReset : Ctr.holds E 114 (.reads [aEnd, aLetter] [aEnd, aRow .letter] (fun ((e : DEnd), (x : DLetter), _) => e.B) fun ((e : DEnd), (x : DLetter), _) => ((mHearReset e x).1, (mHearReset e x).2, ())) := by
  refine fn_ok prgOk (gcons h_spec_l17Copy (gcons h_spec_l20On gnil)) Tryz.func114 rfl rfl rfl rfl ?_
  rintro ty ⟨(e : DEnd), (x : DLetter), _⟩ (hp : e.B)
  obtain ⟨hb1, hb2, hb3, hb4, hb5, hb6, hb7⟩ := id hp
  have hgb := mSignedOn_bd e x
  refine ⟨[], ?_⟩
  repeat' ((conv => whnf); first | refine toOb2 ?_ | refine And.intro (fun _ => ?_) (fun _ => ?_) | refine And.intro ?_ ?_ | refine toEx2 ?_ | refine toY ?_ | intro _)
  all_goals first | refine Ob2.mk ?_ | (show drawOk _ _ _ = true; exact rfl)
  all_goals (try simp only [allP, side, Ctr.reads, etas]); all_goals repeat' (first | exact sp1 | refine And.intro ?_ ?_)
  all_goals (try simp only [ETy.frm, dTag_beq, List.set_set, List.length_set, List.nil_append, Ctr.reads, etas] at *)
  all_goals (try simp only [nbls] at *)
  all_goals first | done | with_reducible assumption | with_reducible rfl | omega | grind [mHearReset, ltr, mBetween, setSub, gSub, mL20On]
theorem h_impl_LetterOk : Ctr.holds E 98 (.reads [aLetter] [aBool] (fun _ => True) fun ((x : DLetter), _) => (mLetterOk x, ())) := by
  refine fn_ok prgOk (gcons h_impl_within (gcons h_impl_isNumber gnil)) Tryz.func98 rfl rfl rfl rfl ?_
  rintro ty ⟨(x : DLetter), _⟩ hp
  refine ⟨[], ?_⟩
  repeat' ((conv => whnf); first | refine toOb2 ?_ | refine And.intro (fun _ => ?_) (fun _ => ?_) | refine And.intro ?_ ?_ | refine toEx2 ?_ | refine toY ?_ | intro _)
  all_goals first | refine Ob2.mk ?_ | (show drawOk _ _ _ = true; exact rfl)
  all_goals (try simp only [allP, side, Ctr.reads, etas]); all_goals repeat' (first | exact sp1 | refine And.intro ?_ ?_)
  all_goals (try simp only [List.length_cons, List.length_nil, Ctr.reads, etas] at *)
  all_goals (try simp only [nbls] at *)
  all_goals (try simp only [mLetterOk, lNums] at *)
  all_goals first | done | with_reducible assumption | with_reducible rfl | omega | grind [mLetterOk, lNums]
theorem h_impl_canDrawTwo : Ctr.holds E 135 (.reads [aEnd] [aBool] (fun ((e : DEnd), _) => True) fun ((e : DEnd), _) => (mRoom e, ())) := by
  refine fn_ok prgOk (gcons h_impl_within gnil) Tryz.func135 rfl rfl rfl rfl ?_
  rintro ty ⟨(e : DEnd), _⟩ hp
  refine ⟨[], ?_⟩
  repeat' ((conv => whnf); first | refine toOb2 ?_ | refine And.intro (fun _ => ?_) (fun _ => ?_) | refine And.intro ?_ ?_ | refine toEx2 ?_ | refine toY ?_ | intro _)
  all_goals first | refine Ob2.mk ?_ | (show drawOk _ _ _ = true; exact rfl)
  all_goals (try simp only [allP, side, Ctr.reads, etas]); all_goals repeat' (first | exact sp1 | refine And.intro ?_ ?_)
  all_goals (try simp only [Ctr.reads, etas] at *)
  all_goals first | done | with_reducible assumption | with_reducible rfl | grind [mRoom]
theorem h_impl_drawTwo : Ctr.holds E 136 (⟨[aEnd], [.ref], [aInt, aInt], (fun _ => True), (fun ((e : DEnd), _) => (e.draw, w64 (e.draw + 2), ())), fun ((e : DEnd), _) => ({ e with draw := w64 (e.draw + 4) }, ()), false, .ret⟩) := by
  refine fn_okw prgOk gnil Tryz.func136 rfl rfl rfl (fun ⟨a, _⟩ _ => ⟨by simp [LenC], trivial⟩) ?_
  rintro ty ⟨(e : DEnd), _⟩ hp
  refine ⟨[], ?_⟩
  repeat' ((conv => whnf); first | refine toOb2 ?_ | refine And.intro (fun _ => ?_) (fun _ => ?_) | refine And.intro ?_ ?_ | refine toEx2 ?_ | intro _)
  all_goals first | refine Ob2.mk ?_ | (show drawOk _ _ _ = true; exact rfl)
  all_goals (try simp only [allP, side, Ctr.reads, etas]); all_goals repeat' (first | exact sp1 | refine And.intro ?_ ?_)
  all_goals (try simp only [Ctr.reads, etas] at *)
  all_goals (try simp only [nbls] at *)
  all_goals first | done | with_reducible assumption | with_reducible rfl | omega | grind []
theorem h_impl_met : Ctr.holds E 188 (.reads [aInt] [aRow .addr] (fun ((a : Int), _) => True) fun ((a : Int), _) => (mMet a, ())) := by
  refine fn_ok prgOk gnil Tryz.func188 rfl rfl rfl rfl ?_
  rintro ty ⟨(a : Int), _⟩ hp
  refine ⟨[], ?_⟩
  repeat' ((conv => whnf); first | refine toOb2 ?_ | refine And.intro (fun _ => ?_) (fun _ => ?_) | refine And.intro ?_ ?_ | refine toEx2 ?_ | intro _)
  all_goals first | refine Ob2.mk ?_ | (show drawOk _ _ _ = true; exact rfl)
  all_goals (try simp only [allP, side, Ctr.reads, etas]); all_goals repeat' (first | exact sp1 | refine And.intro ?_ ?_)
  all_goals (try simp only [Ctr.reads, etas] at *)
  all_goals first | done | with_reducible assumption | with_reducible rfl | grind [mMet]
theorem h_impl_HearHello : Ctr.holds E 100 (.reads [aEnd, aLetter] [aEnd, aRow .letter] (fun ((e : DEnd), (x : DLetter), _) => e.B) fun ((e : DEnd), (x : DLetter), _) => ((mHearHello e x).1, (mHearHello e x).2, ())) := by
  refine fn_ok prgOk (gcons h_impl_copyEnd (gcons h_impl_RoadOf (gcons h_impl_EndOk (gcons h_impl_LetterOk (gcons h_impl_OwnsAddr (gcons h_impl_within (gcons h_impl_SubAt (gcons h_impl_canDrawTwo (gcons h_impl_drawTwo (gcons h_impl_met (gcons h_impl_Between gnil))))))))))) Tryz.func100 rfl rfl rfl rfl ?_
  rintro ty ⟨(e : DEnd), (x : DLetter), _⟩ (hp : e.B)
  obtain ⟨hb1, hb2, hb3, hb4, hb5, hb6, hb7⟩ := id hp
  have hsb := mSubAt_bd e (mRoadOf x)
  have h8 := fun h : mEndOk e = true => (endOk_split h).2.2.1
  have hnm := fun h : mEndOk e = true => endOk_nums h
  have hrm := fun h : mRoom e = true => room_bd h
  refine ⟨[], ?_⟩
  repeat' ((conv => whnf); first | refine toOb2 ?_ | refine And.intro (fun _ => ?_) (fun _ => ?_) | refine And.intro ?_ ?_ | refine toEx2 ?_ | refine toY ?_ | intro _)
  all_goals first | refine Ob2.mk ?_ | (show drawOk _ _ _ = true; exact rfl)
  all_goals (try simp only [allP, side, Ctr.reads, etas]); all_goals repeat' (first | exact sp1 | refine And.intro ?_ ?_)
  all_goals (try simp only [ETy.frm, dTag_beq, List.set_set, List.length_set, List.nil_append, Ctr.reads, etas] at *)
  all_goals (try simp only [nbls] at *)
  all_goals (try simp only [decide_eq_true_eq, decide_eq_false_iff_not] at *)
  all_goals (try simp (disch := omega) only [w64_id] at *)
  all_goals (try simp (disch := omega) only [w64_id] at *)
  all_goals first | done | with_reducible assumption | with_reducible rfl | omega | grind [mHearHello, mDrawn, mIn, mMet, ltr, mBetween, setSub, gSub]
theorem h_impl_HearBack : Ctr.holds E 101 (.reads [aEnd, aLetter] [aEnd, aRow .letter] (fun ((e : DEnd), (x : DLetter), _) => e.B) fun ((e : DEnd), (x : DLetter), _) => ((mHearBack e x).1, (mHearBack e x).2, ())) := by
  refine fn_ok prgOk (gcons h_impl_copyEnd (gcons h_impl_RoadOf (gcons h_impl_SubAt (gcons h_impl_EndOk (gcons h_impl_LetterOk (gcons h_impl_within (gcons h_impl_met (gcons h_impl_Between gnil)))))))) Tryz.func101 rfl rfl rfl rfl ?_
  rintro ty ⟨(e : DEnd), (x : DLetter), _⟩ (hp : e.B)
  obtain ⟨hb1, hb2, hb3, hb4, hb5, hb6, hb7⟩ := id hp
  have hsb := mSubAt_bd e (mRoadOf x)
  refine ⟨[], ?_⟩
  repeat' ((conv => whnf); first | refine toOb2 ?_ | refine And.intro (fun _ => ?_) (fun _ => ?_) | refine And.intro ?_ ?_ | refine toEx2 ?_ | refine toY ?_ | intro _)
  all_goals first | refine Ob2.mk ?_ | (show drawOk _ _ _ = true; exact rfl)
  all_goals (try simp only [allP, side, Ctr.reads, etas]); all_goals repeat' (first | exact sp1 | refine And.intro ?_ ?_)
  all_goals (try simp only [ETy.frm, dTag_beq, List.set_set, List.length_set, List.nil_append, Ctr.reads, etas] at *)
  all_goals (try simp only [nbls] at *)
  all_goals (try simp only [decide_eq_true_eq, decide_eq_false_iff_not] at *)
  all_goals (try simp (disch := first | assumption | omega | (simp only [List.length_set]; omega)) only [set_get, List.set_set, ETy.frm, etas] at *)
  all_goals first | done | with_reducible assumption | with_reducible rfl | omega | grind [mHearBack, ltr, mBetween, setSub, gSub, mMet]
theorem h_impl_TagBack : Ctr.holds E 67 (.reads [aInt, aInt, aInt, aInt] [aTag] (fun ((m : Int), (t : Int), (a : Int), (b : Int), _) => True) fun ((m : Int), (t : Int), (a : Int), (b : Int), _) => (mTagBack m t a b, ())) := by
  refine fn_ok prgOk gnil Tryz.func67 rfl rfl rfl rfl ?_
  rintro ty ⟨(m : Int), (t : Int), (a : Int), (b : Int), _⟩ hp
  refine ⟨[], ?_⟩
  repeat' ((conv => whnf); first | refine toOb2 ?_ | refine And.intro (fun _ => ?_) (fun _ => ?_) | refine And.intro ?_ ?_ | refine toEx2 ?_ | intro _)
  all_goals first | refine Ob2.mk ?_ | (show drawOk _ _ _ = true; exact rfl)
  all_goals (try simp only [allP, side, Ctr.reads, etas]); all_goals repeat' (first | exact sp1 | refine And.intro ?_ ?_)
  all_goals (try simp only [Ctr.reads, etas] at *)
  all_goals first | done | with_reducible assumption | with_reducible rfl | grind [mTagBack]
theorem h_impl_TagDone : Ctr.holds E 66 (.reads [aInt, aInt, aInt, aInt] [aTag] (fun ((m : Int), (t : Int), (a : Int), (b : Int), _) => True) fun ((m : Int), (t : Int), (a : Int), (b : Int), _) => (mTagDone m t a b, ())) := by
  refine fn_ok prgOk gnil Tryz.func66 rfl rfl rfl rfl ?_
  rintro ty ⟨(m : Int), (t : Int), (a : Int), (b : Int), _⟩ hp
  refine ⟨[], ?_⟩
  repeat' ((conv => whnf); first | refine toOb2 ?_ | refine And.intro (fun _ => ?_) (fun _ => ?_) | refine And.intro ?_ ?_ | refine toEx2 ?_ | intro _)
  all_goals first | refine Ob2.mk ?_ | (show drawOk _ _ _ = true; exact rfl)
  all_goals (try simp only [allP, side, Ctr.reads, etas]); all_goals repeat' (first | exact sp1 | refine And.intro ?_ ?_)
  all_goals (try simp only [Ctr.reads, etas] at *)
  all_goals first | done | with_reducible assumption | with_reducible rfl | grind [mTagDone]
theorem h_impl_doneLetter : Ctr.holds E 77 (.reads [aEnd, aSub] [aLetter] (fun ((e : DEnd), (s : DSub), _) => True) fun ((e : DEnd), (s : DSub), _) => (mDoneLetter e s, ())) := by
  refine fn_ok prgOk (gcons h_impl_TagDone (gcons h_impl_Between gnil)) Tryz.func77 rfl rfl rfl rfl ?_
  rintro ty ⟨(e : DEnd), (s : DSub), _⟩ hp
  refine ⟨[], ?_⟩
  repeat' ((conv => whnf); first | refine toOb2 ?_ | refine And.intro (fun _ => ?_) (fun _ => ?_) | refine And.intro ?_ ?_ | refine toEx2 ?_ | refine toY ?_ | intro _)
  all_goals first | refine Ob2.mk ?_ | (show drawOk _ _ _ = true; exact rfl)
  all_goals (try simp only [allP, side, Ctr.reads, etas]); all_goals repeat' (first | exact sp1 | refine And.intro ?_ ?_)
  all_goals (try simp only [Ctr.reads, etas] at *)
  all_goals (try simp only [nbls] at *)
  all_goals first | done | with_reducible assumption | with_reducible rfl | omega | grind [mDoneLetter, mTagDone, ltr, mBetween]
theorem h_impl_HearJoinBack : Ctr.holds E 50 (.reads [aEnd, aLetter] [aEnd, aRow .letter] (fun ((e : DEnd), (x : DLetter), _) => e.B) fun ((e : DEnd), (x : DLetter), _) => ((mHearJoinBack e x).1, (mHearJoinBack e x).2, ())) := by
  refine fn_ok prgOk (gcons h_impl_copyEnd (gcons h_impl_RoadOf (gcons h_impl_SubAt (gcons h_impl_EndOk (gcons h_impl_LetterOk (gcons h_impl_TagBack (gcons h_impl_doneLetter gnil))))))) Tryz.func50 rfl rfl rfl rfl ?_
  rintro ty ⟨(e : DEnd), (x : DLetter), _⟩ (hp : e.B)
  obtain ⟨hb1, hb2, hb3, hb4, hb5, hb6, hb7⟩ := id hp
  have hsb := mSubAt_bd e (mRoadOf x)
  refine ⟨[], ?_⟩
  repeat' ((conv => whnf); first | refine toOb2 ?_ | refine And.intro (fun _ => ?_) (fun _ => ?_) | refine And.intro ?_ ?_ | refine toEx2 ?_ | refine toY ?_ | intro _)
  all_goals first | refine Ob2.mk ?_ | (show drawOk _ _ _ = true; exact rfl)
  all_goals (try simp only [allP, side, Ctr.reads, etas]); all_goals repeat' (first | exact sp1 | refine And.intro ?_ ?_)
  all_goals (try simp only [ETy.frm, dTag_beq, List.set_set, List.length_set, List.nil_append, Ctr.reads, etas] at *)
  all_goals (try simp only [nbls] at *)
  all_goals (try simp only [decide_eq_true_eq, decide_eq_false_iff_not] at *)
  all_goals (try simp (disch := first | assumption | omega | (simp only [List.length_set]; omega)) only [set_get, List.set_set, ETy.frm, etas] at *)
  all_goals first | done | with_reducible assumption | with_reducible rfl | omega | grind [mHearJoinBack, ltr, mBetween, setSub, gSub, mDoneLetter, mTagBack, mTagDone]
theorem h_impl_ackLetter : Ctr.holds E 146 (.reads [aRoad, aInt] [aRow .letter] (fun ((r : DRoad), (g : Int), _) => True) fun ((r : DRoad), (g : Int), _) => ([mAck r g], ())) := by
  refine fn_ok prgOk (gcons h_impl_Between gnil) Tryz.func146 rfl rfl rfl rfl ?_
  rintro ty ⟨(r : DRoad), (g : Int), _⟩ hp
  refine ⟨[], ?_⟩
  repeat' ((conv => whnf); first | refine toOb2 ?_ | refine And.intro (fun _ => ?_) (fun _ => ?_) | refine And.intro ?_ ?_ | refine toEx2 ?_ | refine toY ?_ | intro _)
  all_goals first | refine Ob2.mk ?_ | (show drawOk _ _ _ = true; exact rfl)
  all_goals (try simp only [allP, side, Ctr.reads, etas]); all_goals repeat' (first | exact sp1 | refine And.intro ?_ ?_)
  all_goals (try simp only [ETy.frm, Ctr.reads, etas] at *)
  all_goals (try simp only [nbls] at *)
  all_goals first | done | with_reducible assumption | with_reducible rfl | omega | grind [mAck, ltr, mBetween]
theorem h_impl_HearJoinAck : Ctr.holds E 52 (.reads [aEnd, aLetter] [aEnd, aRow .letter] (fun ((e : DEnd), (x : DLetter), _) => e.B) fun ((e : DEnd), (x : DLetter), _) => ((mHearJoinAck e x).1, (mHearJoinAck e x).2, ())) := by
  refine fn_ok prgOk (gcons h_impl_copyEnd (gcons h_impl_RoadOf (gcons h_impl_SubAt (gcons h_impl_EndOk (gcons h_impl_LetterOk gnil))))) Tryz.func52 rfl rfl rfl rfl ?_
  rintro ty ⟨(e : DEnd), (x : DLetter), _⟩ (hp : e.B)
  obtain ⟨hb1, hb2, hb3, hb4, hb5, hb6, hb7⟩ := id hp
  have hsb := mSubAt_bd e (mRoadOf x)
  refine ⟨[], ?_⟩
  repeat' ((conv => whnf); first | refine toOb2 ?_ | refine And.intro (fun _ => ?_) (fun _ => ?_) | refine And.intro ?_ ?_ | refine toEx2 ?_ | refine toY ?_ | intro _)
  all_goals first | refine Ob2.mk ?_ | (show drawOk _ _ _ = true; exact rfl)
  all_goals (try simp only [allP, side, Ctr.reads, etas]); all_goals repeat' (first | exact sp1 | refine And.intro ?_ ?_)
  all_goals (try simp only [ETy.frm, dTag_beq, List.set_set, List.length_set, List.nil_append, Ctr.reads, etas] at *)
  all_goals (try simp only [nbls] at *)
  all_goals first | done | with_reducible assumption | with_reducible rfl | omega | grind [mHearJoinAck, ltr, mBetween, setSub, gSub]
theorem h_impl_TagAddr : Ctr.holds E 123 (.reads [aInt, aInt, aInt, aInt] [aTag] (fun ((m : Int), (t : Int), (i : Int), (a : Int), _) => True) fun ((m : Int), (t : Int), (i : Int), (a : Int), _) => (mTagAddr m t i a, ())) := by
  refine fn_ok prgOk gnil Tryz.func123 rfl rfl rfl rfl ?_
  rintro ty ⟨(m : Int), (t : Int), (i : Int), (a : Int), _⟩ hp
  refine ⟨[], ?_⟩
  repeat' ((conv => whnf); first | refine toOb2 ?_ | refine And.intro (fun _ => ?_) (fun _ => ?_) | refine And.intro ?_ ?_ | refine toEx2 ?_ | intro _)
  all_goals first | refine Ob2.mk ?_ | (show drawOk _ _ _ = true; exact rfl)
  all_goals (try simp only [allP, side, Ctr.reads, etas]); all_goals repeat' (first | exact sp1 | refine And.intro ?_ ?_)
  all_goals (try simp only [Ctr.reads, etas] at *)
  all_goals first | done | with_reducible assumption | with_reducible rfl | grind [mTagAddr]
theorem h_impl_hasInt : Ctr.holds E 121 (.reads [aRow .int, aInt] [aBool] (fun ((l : List Int), _) => l.length ≤ 1073741824) fun ((l : List Int), (n : Int), _) => (mHas l n, ())) := by
  refine fn_ok prgOk gnil Tryz.func121 rfl rfl rfl rfl ?_
  rintro ty ⟨(l : List Int), (n : Int), _⟩ (hp : l.length ≤ 1073741824)
  refine ⟨[(2, { X := Nat, inv := fun i => i ≤ l.length ∧ anyL (fun x : Int => x == n) (l.drop i) = mHas l n, mu := fun i => l.length - i, vk := [9], ov := fun i => [.a (.c (.leaf (.int (i : Int))))], bk := [], ob := fun i => [], rk := [], orr := fun i => [] })], ?_⟩
  conv => whnf
  refine And.intro ⟨(0 : Nat), Ob.mk ?_, ?_⟩ (fun (i : Nat) hi => ?_)
  · exact And.intro (Nat.zero_le _) rfl
  · conv => whnf
    refine Ob.mk ?_
    all_goals (try simp only [allP, side, Ctr.reads, etas]); all_goals repeat' (first | exact sp1 | refine And.intro ?_ ?_)
  obtain ⟨hi, hm⟩ := hi
  have hi : i ≤ l.length := hi
  have hm : anyL (fun x : Int => x == n) (l.drop i) = mHas l n := hm
  rcases Nat.lt_or_ge i l.length with hlt | hge
  · obtain ⟨x, hx, hxi, hd⟩ := at_step l i (ETy.zero .int) hlt
    rw [hd, anyL] at hm
    have hw := w64_succ hlt (hp)
    repeat' ((conv => whnf); first | refine toOb2 ?_ | refine And.intro (fun _ => ?_) (fun _ => ?_) | refine And.intro ?_ ?_ | refine toEx2 ?_ | intro _)
    all_goals try (exfalso; exact Nat.lt_irrefl _ (Nat.lt_of_lt_of_le hlt (ge_of_dec (by assumption))))
    all_goals first | refine Ob2.mk ?_ | refine Ex2.of (i + 1) ?_ ?_ | skip
    all_goals try ((conv => whnf); refine Ob.mk ?_)
    all_goals (try simp only [allP, side, Ctr.reads, etas]); all_goals repeat' (first | exact sp1 | refine And.intro ?_ ?_)
    all_goals (try simp only [hx, Ctr.reads, etas] at *)
    all_goals first | done | grind [mHas]
  · have hl : i = l.length := by omega
    subst hl
    rw [List.drop_length, anyL] at hm
    repeat' ((conv => whnf); first | refine toOb2 ?_ | refine And.intro (fun _ => ?_) (fun _ => ?_) | refine And.intro ?_ ?_ | refine toEx2 ?_ | intro _)
    all_goals try (exfalso; exact Nat.lt_irrefl _ (Nat.lt_of_lt_of_le (lt_of_dec (by assumption)) hge))
    all_goals first | refine Ob2.mk ?_ | refine Ex2.of (l.length + 1) ?_ ?_ | skip
    all_goals try ((conv => whnf); refine Ob.mk ?_)
    all_goals (try simp only [allP, side, Ctr.reads, etas]); all_goals repeat' (first | exact sp1 | refine And.intro ?_ ?_)
    all_goals (try simp only [Ctr.reads, etas] at *)
    all_goals first | done | grind [mHas]
theorem h_impl_PutAddr : Ctr.holds E 122 (.reads [aRow .addr, aAddr] [aRow .addr, aBool] (fun ((l : List DAddr), _) => l.length ≤ 1073741823) fun ((l : List DAddr), (a : DAddr), _) => ((mPutAddr l a).1, (mPutAddr l a).2, ())) := by
  refine fn_ok prgOk (gcons h_impl_copyAddrs (gcons h_impl_AddrAt (gcons h_impl_AddrsOk gnil))) Tryz.func122 rfl rfl rfl rfl ?_
  rintro ty ⟨(l : List DAddr), (a : DAddr), _⟩ (hp : l.length ≤ 1073741823)
  have hpb := mAddrAt_bd l a.id
  have hpl := mPutL_len l a
  have hbig := @mPutAddr_big l a
  refine ⟨[(6, { X := Nat, inv := fun i => i ≤ l.length ∧ plL a.id (l.drop i) i = plL a.id l 0, mu := fun i => l.length - i, vk := [7], ov := fun i => [.a (.c (.leaf (.int (i : Int))))], bk := [], ob := fun i => [], rk := [], orr := fun i => [] })], ?_⟩
  repeat' ((conv => whnf); first | refine toOb2 ?_ | refine toY ?_ | refine And.intro (fun _ => ?_) (fun _ => ?_) | refine And.intro (toOb2 ?_) ?_ | refine And.intro (?_ : drawOk _ _ _ = true) ?_ | (refine And.intro ⟨?_, ?_⟩ ?_; fail) | intro _)
  (all_goals first | (refine Ob2.mk ?_; (try simp only [allP, side, Ctr.reads, etas, List.length_set, List.nil_append] at *); (try simp only [nbls, imp_self, implies_true, and_self, and_true, true_and] at *); (try subst_vars); first | done | trivial | assumption | omega | grind [mPutAddr, mPutL]) | (show drawOk _ _ _ = true; exact rfl) | skip)
  conv => whnf
  refine And.intro ⟨(0 : Nat), Ob.mk ?_, ?_⟩ (fun (i : Nat) hi => ?_)
  · exact And.intro (Nat.zero_le _) rfl
  · conv => whnf
    refine Ob.mk ?_
    all_goals (try simp only [allP, side, Ctr.reads, etas]); all_goals repeat' (first | exact sp1 | refine And.intro ?_ ?_)
  obtain ⟨hi, hm⟩ := hi
  have hi : i ≤ l.length := hi
  have hm : plL a.id (l.drop i) i = plL a.id l 0 := hm
  rcases Nat.lt_or_ge i l.length with hlt | hge
  · obtain ⟨x, hx, hxi, hd⟩ := at_step l i (ETy.zero .addr) hlt
    rw [hd, plL] at hm
    have hw := w64_succ hlt ((by omega))
    repeat' ((conv => whnf); first | refine toOb2 ?_ | refine And.intro (fun _ => ?_) (fun _ => ?_) | refine And.intro ?_ ?_ | refine toEx2 ?_ | refine toY ?_ | intro _)
    all_goals try (exfalso; exact Nat.lt_irrefl _ (Nat.lt_of_lt_of_le hlt (ge_of_dec (by assumption))))
    all_goals first | refine Ob2.mk ?_ | refine Ex2.of (i + 1) ?_ ?_ | skip
    all_goals try ((conv => whnf); refine Ob.mk ?_)
    all_goals (try simp only [allP, side, Ctr.reads, etas]); all_goals repeat' (first | exact sp1 | refine And.intro ?_ ?_)
    all_goals (try simp only [hx, List.nil_append, List.append_assoc, List.length_append, List.length_take, List.length_drop, List.length_cons, List.length_nil, Ctr.reads, etas] at *)
    all_goals first | done | grind [mPutAddr, mPutL]
  · have hl : i = l.length := by omega
    subst hl
    rw [List.drop_length, plL] at hm
    repeat' ((conv => whnf); first | refine toOb2 ?_ | refine And.intro (fun _ => ?_) (fun _ => ?_) | refine And.intro ?_ ?_ | refine toEx2 ?_ | refine toY ?_ | intro _)
    all_goals try (exfalso; exact Nat.lt_irrefl _ (Nat.lt_of_lt_of_le (lt_of_dec (by assumption)) hge))
    all_goals first | refine Ob2.mk ?_ | refine Ex2.of (l.length + 1) ?_ ?_ | skip
    all_goals try ((conv => whnf); refine Ob.mk ?_)
    all_goals (try simp only [allP, side, Ctr.reads, etas]); all_goals repeat' (first | exact sp1 | refine And.intro ?_ ?_)
    all_goals (try simp only [List.nil_append, List.append_assoc, List.length_append, List.length_take, List.length_drop, List.length_cons, List.length_nil, Ctr.reads, etas] at *)
    all_goals first | done | grind [mPutAddr, mPutL]
theorem h_impl_HearAddr : Ctr.holds E 36 (.reads [aEnd, aLetter] [aEnd, aRow .letter] (fun ((e : DEnd), (x : DLetter), _) => e.B) fun ((e : DEnd), (x : DLetter), _) => ((mHearAddr e x).1, (mHearAddr e x).2, ())) := by
  refine fn_ok prgOk (gcons h_impl_copyEnd (gcons h_impl_SignedOn (gcons h_impl_EndOk (gcons h_impl_LetterOk (gcons h_impl_TagAddr (gcons h_impl_hasInt (gcons h_impl_AddrAt (gcons h_impl_PutAddr (gcons h_impl_RoadOf (gcons h_impl_Between gnil)))))))))) Tryz.func36 rfl rfl rfl rfl ?_
  rintro ty ⟨(e : DEnd), (x : DLetter), _⟩ (hp : e.B)
  obtain ⟨hb1, hb2, hb3, hb4, hb5, hb6, hb7⟩ := id hp
  have hgb := mSignedOn_bd e x
  have hat := mAddrAt_bd e.far x.id
  have hfl := fun h : mEndOk e = true => mAddrsOk_len (endOk_parts h).2.1
  refine ⟨[], ?_⟩
  repeat' ((conv => whnf); first | refine toOb2 ?_ | refine And.intro (fun _ => ?_) (fun _ => ?_) | refine And.intro ?_ ?_ | refine toEx2 ?_ | refine toY ?_ | intro _)
  all_goals first | refine Ob2.mk ?_ | (show drawOk _ _ _ = true; exact rfl)
  all_goals (try simp only [allP, side, Ctr.reads, etas]); all_goals repeat' (first | exact sp1 | refine And.intro ?_ ?_)
  all_goals (try simp only [ETy.frm, dTag_beq, List.set_set, List.length_set, List.nil_append, Ctr.reads, etas] at *)
  all_goals (try simp only [nbls] at *)
  all_goals first | done | with_reducible assumption | with_reducible rfl | omega | grind [mHearAddr, ltr, mBetween, setSub, gSub, mL20On, mTagAddr]
theorem h_impl_HearEcho : Ctr.holds E 37 (.reads [aEnd, aLetter] [aEnd, aRow .letter] (fun ((e : DEnd), (x : DLetter), _) => e.B) fun ((e : DEnd), (x : DLetter), _) => ((mHearEcho e x).1, (mHearEcho e x).2, ())) := by
  refine fn_ok prgOk (gcons h_impl_copyEnd (gcons h_impl_AddrAt (gcons h_impl_EndOk (gcons h_impl_LetterOk (gcons h_impl_SignedOn gnil))))) Tryz.func37 rfl rfl rfl rfl ?_
  rintro ty ⟨(e : DEnd), (x : DLetter), _⟩ (hp : e.B)
  obtain ⟨hb1, hb2, hb3, hb4, hb5, hb6, hb7⟩ := id hp
  have hgb := mSignedOn_bd e x
  have hab := mAddrAt_bd e.own x.id
  refine ⟨[], ?_⟩
  repeat' ((conv => whnf); first | refine toOb2 ?_ | refine And.intro (fun _ => ?_) (fun _ => ?_) | refine And.intro ?_ ?_ | refine toEx2 ?_ | refine toY ?_ | intro _)
  all_goals first | refine Ob2.mk ?_ | (show drawOk _ _ _ = true; exact rfl)
  all_goals (try simp only [allP, side, Ctr.reads, etas]); all_goals repeat' (first | exact sp1 | refine And.intro ?_ ?_)
  all_goals (try simp only [ETy.frm, dTag_beq, List.set_set, List.length_set, List.nil_append, Ctr.reads, etas] at *)
  all_goals (try simp only [nbls] at *)
  all_goals first | done | with_reducible assumption | with_reducible rfl | omega | grind [mHearEcho, ltr, mBetween, setSub, gSub, mL20On]
theorem h_impl_Came : Ctr.holds E 155 (.reads [aOut, aInt] [aOut] (fun ((o : DOut), (u : Int), _) => True) fun ((o : DOut), (u : Int), _) => (mCame o u, ())) := by
  refine fn_ok prgOk (gcons h_impl_OutOk gnil) Tryz.func155 rfl rfl rfl rfl ?_
  rintro ty ⟨(o : DOut), (u : Int), _⟩ hp
  refine ⟨[], ?_⟩
  by_cases hok : mOutOk o = true
  · obtain ⟨ho1, ho2, ho3, ho4⟩ := outOk_bd hok
    repeat' ((conv => whnf); first | refine toOb2 ?_ | refine And.intro (fun _ => ?_) (fun _ => ?_) | refine And.intro ?_ ?_ | refine toEx2 ?_ | refine toY ?_ | intro _)
    all_goals first | refine Ob2.mk ?_ | (show drawOk _ _ _ = true; exact rfl)
    all_goals (try simp only [allP, side, Ctr.reads, etas]); all_goals repeat' (first | exact sp1 | refine And.intro ?_ ?_)
    all_goals (try simp only [Ctr.reads, etas] at *)
    all_goals (try simp only [nbls] at *)
    all_goals (try simp only [decide_eq_true_eq, decide_eq_false_iff_not] at *)
    all_goals (try simp (disch := omega) only [w64_id] at *)
    all_goals (try simp (disch := omega) only [w64_id] at *)
    all_goals first | done | with_reducible assumption | with_reducible rfl | omega | grind [mCame]
  · repeat' ((conv => whnf); first | refine toOb2 ?_ | refine And.intro (fun _ => ?_) (fun _ => ?_) | refine And.intro ?_ ?_ | refine toEx2 ?_ | refine toY ?_ | intro _)
    all_goals first | refine Ob2.mk ?_ | (show drawOk _ _ _ = true; exact rfl)
    all_goals (try simp only [allP, side, Ctr.reads, etas]); all_goals repeat' (first | exact sp1 | refine And.intro ?_ ?_)
    all_goals (try simp only [Ctr.reads, etas] at *)
    all_goals (try simp only [nbls] at *)
    all_goals first | done | with_reducible assumption | with_reducible rfl | omega | grind [mCame]
theorem h_impl_HearCame : Ctr.holds E 61 (.reads [aEnd, aLetter] [aEnd, aRow .letter] (fun ((e : DEnd), (x : DLetter), _) => e.B) fun ((e : DEnd), (x : DLetter), _) => ((mHearCame e x).1, (mHearCame e x).2, ())) := by
  refine fn_ok prgOk (gcons h_impl_copyEnd (gcons h_impl_EndOk (gcons h_impl_LetterOk (gcons h_impl_SignedOn (gcons h_impl_Came gnil))))) Tryz.func61 rfl rfl rfl rfl ?_
  rintro ty ⟨(e : DEnd), (x : DLetter), _⟩ (hp : e.B)
  obtain ⟨hb1, hb2, hb3, hb4, hb5, hb6, hb7⟩ := id hp
  have hgb := mSignedOn_bd e x
  refine ⟨[], ?_⟩
  repeat' ((conv => whnf); first | refine toOb2 ?_ | refine And.intro (fun _ => ?_) (fun _ => ?_) | refine And.intro ?_ ?_ | refine toEx2 ?_ | refine toY ?_ | intro _)
  all_goals first | refine Ob2.mk ?_ | (show drawOk _ _ _ = true; exact rfl)
  all_goals (try simp only [allP, side, Ctr.reads, etas]); all_goals repeat' (first | exact sp1 | refine And.intro ?_ ?_)
  all_goals (try simp only [ETy.frm, dTag_beq, List.set_set, List.length_set, List.nil_append, Ctr.reads, etas] at *)
  all_goals (try simp only [nbls] at *)
  all_goals first | done | with_reducible assumption | with_reducible rfl | omega | grind [mHearCame, ltr, mBetween, setSub, gSub, mL20On]
theorem h_impl_HearReset : Ctr.holds E 29 (.reads [aEnd, aLetter] [aEnd, aRow .letter] (fun ((e : DEnd), (x : DLetter), _) => e.B) fun ((e : DEnd), (x : DLetter), _) => ((mHearReset e x).1, (mHearReset e x).2, ())) := by
  refine fn_ok prgOk (gcons h_impl_copyEnd (gcons h_impl_SignedOn (gcons h_impl_EndOk (gcons h_impl_LetterOk gnil)))) Tryz.func29 rfl rfl rfl rfl ?_
  rintro ty ⟨(e : DEnd), (x : DLetter), _⟩ (hp : e.B)
  obtain ⟨hb1, hb2, hb3, hb4, hb5, hb6, hb7⟩ := id hp
  have hgb := mSignedOn_bd e x
  refine ⟨[], ?_⟩
  repeat' ((conv => whnf); first | refine toOb2 ?_ | refine And.intro (fun _ => ?_) (fun _ => ?_) | refine And.intro ?_ ?_ | refine toEx2 ?_ | refine toY ?_ | intro _)
  all_goals first | refine Ob2.mk ?_ | (show drawOk _ _ _ = true; exact rfl)
  all_goals (try simp only [allP, side, Ctr.reads, etas]); all_goals repeat' (first | exact sp1 | refine And.intro ?_ ?_)
  all_goals (try simp only [ETy.frm, dTag_beq, List.set_set, List.length_set, List.nil_append, Ctr.reads, etas] at *)
  all_goals (try simp only [nbls] at *)
  all_goals first | done | with_reducible assumption | with_reducible rfl | omega | grind [mHearReset, ltr, mBetween, setSub, gSub, mL20On]
end Go.Proofs.YtnpeomhpbakgnaaGreat
