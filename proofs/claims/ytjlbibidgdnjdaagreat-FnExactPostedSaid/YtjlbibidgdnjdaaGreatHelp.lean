/- Contracts of functions of the program, each shown over the text. -/
import Derived.Test.YtjlbibidgdnjdaaGreatEnv
set_option linter.unusedVariables false
set_option linter.unusedSimpArgs false
set_option maxRecDepth 100000
namespace Go.Proofs.YtjlbibidgdnjdaaGreat
open Go.Eng
set_option maxHeartbeats 1000000 in
theorem h_laws_szAddrS : Ctr.holds E 94 (.reads [aRow .addr, aInt] [aInt] (fun ((a : List DAddr), (q : Int), _) => a.length ≤ 9223372036854775807 ∧ QB q) fun ((a : List DAddr), (q : Int), _) => (szN a.length q, ())) := by
  refine fn_ok (Γ := []) prgOk gnil Tryz.func94 rfl rfl rfl rfl ?_
  rintro ty ⟨(a : List DAddr), (q : Int), _⟩ (hp : a.length ≤ 9223372036854775807 ∧ QB q)
  obtain ⟨hp, hq, hq2⟩ := hp
  have hw : w64 (q - (a.length : Int)) = q - (a.length : Int) := w64_id (by omega) (by omega)
  refine ⟨[], ?_⟩
  repeat' ((conv => whnf); first | refine toOb2 ?_ | refine And.intro (fun _ => ?_) (fun _ => ?_) | refine And.intro ?_ ?_ | refine toEx2 ?_ | intro _)
  all_goals refine Ob2.mk ?_
  all_goals (try simp only [allP, side, Ctr.reads, dTag_eta, dRoad_eta, dLetter_eta, dAddr_eta, dSub_eta, dHalf_eta, dPiece_eta, dPolicy_eta, dBucket_eta, dOut_eta, dPieces_eta, dEnd_eta, dKnown_eta, dWorld_eta]); all_goals repeat' (first | with_reducible exact rfl | exact trivial | with_reducible assumption | refine And.intro ?_ ?_ | exact (rfl : (_ : SV) = _) | exact (rfl : (_ : List SC) = _) | (show drawOk _ _ _ = true; exact rfl) | (show ((0 : Nat) : Int) = 0; exact rfl))
  all_goals (try simp only [Ctr.reads, dTag_eta, dRoad_eta, dLetter_eta, dAddr_eta, dSub_eta, dHalf_eta, dPiece_eta, dPolicy_eta, dBucket_eta, dOut_eta, dPieces_eta, dEnd_eta, dKnown_eta, dWorld_eta] at *)
  all_goals first | done | trivial | grind [szN]
set_option maxHeartbeats 1000000 in
theorem h_laws_szSubS : Ctr.holds E 95 (.reads [aRow .sub, aInt] [aInt] (fun ((a : List DSub), (q : Int), _) => a.length ≤ 9223372036854775807 ∧ QB q) fun ((a : List DSub), (q : Int), _) => (szN a.length q, ())) := by
  refine fn_ok (Γ := []) prgOk gnil Tryz.func95 rfl rfl rfl rfl ?_
  rintro ty ⟨(a : List DSub), (q : Int), _⟩ (hp : a.length ≤ 9223372036854775807 ∧ QB q)
  obtain ⟨hp, hq, hq2⟩ := hp
  have hw : w64 (q - (a.length : Int)) = q - (a.length : Int) := w64_id (by omega) (by omega)
  refine ⟨[], ?_⟩
  repeat' ((conv => whnf); first | refine toOb2 ?_ | refine And.intro (fun _ => ?_) (fun _ => ?_) | refine And.intro ?_ ?_ | refine toEx2 ?_ | intro _)
  all_goals refine Ob2.mk ?_
  all_goals (try simp only [allP, side, Ctr.reads, dTag_eta, dRoad_eta, dLetter_eta, dAddr_eta, dSub_eta, dHalf_eta, dPiece_eta, dPolicy_eta, dBucket_eta, dOut_eta, dPieces_eta, dEnd_eta, dKnown_eta, dWorld_eta]); all_goals repeat' (first | with_reducible exact rfl | exact trivial | with_reducible assumption | refine And.intro ?_ ?_ | exact (rfl : (_ : SV) = _) | exact (rfl : (_ : List SC) = _) | (show drawOk _ _ _ = true; exact rfl) | (show ((0 : Nat) : Int) = 0; exact rfl))
  all_goals (try simp only [Ctr.reads, dTag_eta, dRoad_eta, dLetter_eta, dAddr_eta, dSub_eta, dHalf_eta, dPiece_eta, dPolicy_eta, dBucket_eta, dOut_eta, dPieces_eta, dEnd_eta, dKnown_eta, dWorld_eta] at *)
  all_goals first | done | trivial | grind [szN]
set_option maxHeartbeats 1000000 in
theorem h_laws_szHalfS : Ctr.holds E 96 (.reads [aRow .half, aInt] [aInt] (fun ((a : List DHalf), (q : Int), _) => a.length ≤ 9223372036854775807 ∧ QB q) fun ((a : List DHalf), (q : Int), _) => (szN a.length q, ())) := by
  refine fn_ok (Γ := []) prgOk gnil Tryz.func96 rfl rfl rfl rfl ?_
  rintro ty ⟨(a : List DHalf), (q : Int), _⟩ (hp : a.length ≤ 9223372036854775807 ∧ QB q)
  obtain ⟨hp, hq, hq2⟩ := hp
  have hw : w64 (q - (a.length : Int)) = q - (a.length : Int) := w64_id (by omega) (by omega)
  refine ⟨[], ?_⟩
  repeat' ((conv => whnf); first | refine toOb2 ?_ | refine And.intro (fun _ => ?_) (fun _ => ?_) | refine And.intro ?_ ?_ | refine toEx2 ?_ | intro _)
  all_goals refine Ob2.mk ?_
  all_goals (try simp only [allP, side, Ctr.reads, dTag_eta, dRoad_eta, dLetter_eta, dAddr_eta, dSub_eta, dHalf_eta, dPiece_eta, dPolicy_eta, dBucket_eta, dOut_eta, dPieces_eta, dEnd_eta, dKnown_eta, dWorld_eta]); all_goals repeat' (first | with_reducible exact rfl | exact trivial | with_reducible assumption | refine And.intro ?_ ?_ | exact (rfl : (_ : SV) = _) | exact (rfl : (_ : List SC) = _) | (show drawOk _ _ _ = true; exact rfl) | (show ((0 : Nat) : Int) = 0; exact rfl))
  all_goals (try simp only [Ctr.reads, dTag_eta, dRoad_eta, dLetter_eta, dAddr_eta, dSub_eta, dHalf_eta, dPiece_eta, dPolicy_eta, dBucket_eta, dOut_eta, dPieces_eta, dEnd_eta, dKnown_eta, dWorld_eta] at *)
  all_goals first | done | trivial | grind [szN]
set_option maxHeartbeats 1000000 in
theorem h_laws_szOut : Ctr.holds E 97 (.reads [aOut, aInt] [aInt] (fun ((a : DOut), (q : Int), _) => a.text.length ≤ 9223372036854775807 ∧ QB q) fun ((a : DOut), (q : Int), _) => (szOut a q, ())) := by
  refine fn_ok (Γ := []) prgOk gnil Tryz.func97 rfl rfl rfl rfl ?_
  rintro ty ⟨(a : DOut), (q : Int), _⟩ (hp : a.text.length ≤ 9223372036854775807 ∧ QB q)
  obtain ⟨hp, hq, hq2⟩ := hp
  have hw : w64 (q - (a.text.length : Int)) = q - (a.text.length : Int) := w64_id (by omega) (by omega)
  refine ⟨[], ?_⟩
  repeat' ((conv => whnf); first | refine toOb2 ?_ | refine And.intro (fun _ => ?_) (fun _ => ?_) | refine And.intro ?_ ?_ | refine toEx2 ?_ | intro _)
  all_goals refine Ob2.mk ?_
  all_goals (try simp only [allP, side, Ctr.reads, dTag_eta, dRoad_eta, dLetter_eta, dAddr_eta, dSub_eta, dHalf_eta, dPiece_eta, dPolicy_eta, dBucket_eta, dOut_eta, dPieces_eta, dEnd_eta, dKnown_eta, dWorld_eta]); all_goals repeat' (first | with_reducible exact rfl | exact trivial | with_reducible assumption | refine And.intro ?_ ?_ | exact (rfl : (_ : SV) = _) | exact (rfl : (_ : List SC) = _) | (show drawOk _ _ _ = true; exact rfl) | (show ((0 : Nat) : Int) = 0; exact rfl))
  all_goals (try simp only [Ctr.reads, dTag_eta, dRoad_eta, dLetter_eta, dAddr_eta, dSub_eta, dHalf_eta, dPiece_eta, dPolicy_eta, dBucket_eta, dOut_eta, dPieces_eta, dEnd_eta, dKnown_eta, dWorld_eta] at *)
  all_goals first | done | trivial | grind [szN, szOut]
set_option maxHeartbeats 1000000 in
theorem h_laws_szPiece : Ctr.holds E 291 (.reads [aPiece, aInt] [aInt] (fun ((a : DPiece), (q : Int), _) => a.text.length ≤ 9223372036854775807 ∧ QB q) fun ((a : DPiece), (q : Int), _) => (szPiece a q, ())) := by
  refine fn_ok (Γ := []) prgOk gnil Tryz.func291 rfl rfl rfl rfl ?_
  rintro ty ⟨(a : DPiece), (q : Int), _⟩ (hp : a.text.length ≤ 9223372036854775807 ∧ QB q)
  obtain ⟨hp, hq, hq2⟩ := hp
  have hw : w64 (q - (a.text.length : Int)) = q - (a.text.length : Int) := w64_id (by omega) (by omega)
  refine ⟨[], ?_⟩
  repeat' ((conv => whnf); first | refine toOb2 ?_ | refine And.intro (fun _ => ?_) (fun _ => ?_) | refine And.intro ?_ ?_ | refine toEx2 ?_ | intro _)
  all_goals refine Ob2.mk ?_
  all_goals (try simp only [allP, side, Ctr.reads, dTag_eta, dRoad_eta, dLetter_eta, dAddr_eta, dSub_eta, dHalf_eta, dPiece_eta, dPolicy_eta, dBucket_eta, dOut_eta, dPieces_eta, dEnd_eta, dKnown_eta, dWorld_eta]); all_goals repeat' (first | with_reducible exact rfl | exact trivial | with_reducible assumption | refine And.intro ?_ ?_ | exact (rfl : (_ : SV) = _) | exact (rfl : (_ : List SC) = _) | (show drawOk _ _ _ = true; exact rfl) | (show ((0 : Nat) : Int) = 0; exact rfl))
  all_goals (try simp only [Ctr.reads, dTag_eta, dRoad_eta, dLetter_eta, dAddr_eta, dSub_eta, dHalf_eta, dPiece_eta, dPolicy_eta, dBucket_eta, dOut_eta, dPieces_eta, dEnd_eta, dKnown_eta, dWorld_eta] at *)
  all_goals first | done | trivial | grind [szN, szPiece]
set_option maxHeartbeats 1000000 in
theorem h_laws_szPieceS : Ctr.holds E 234 (.reads [aRow .piece, aInt] [aInt] (fun ((a : List DPiece), (q : Int), _) => a.length ≤ 9223372036854775807 ∧ (∀ x ∈ a, x.text.length ≤ 9223372036854775807) ∧ QB q) fun ((a : List DPiece), (q : Int), _) => (szS szPiece a q, ())) := by
  refine fn_ok (Γ := [(291, .reads [aPiece, aInt] [aInt] (fun ((a : DPiece), (q : Int), _) => a.text.length ≤ 9223372036854775807 ∧ QB q) fun ((a : DPiece), (q : Int), _) => (szPiece a q, ()))]) prgOk (gcons h_laws_szPiece gnil) Tryz.func234 rfl rfl rfl rfl ?_
  rintro ty ⟨(a : List DPiece), (q : Int), _⟩ (hp : a.length ≤ 9223372036854775807 ∧ (∀ x ∈ a, x.text.length ≤ 9223372036854775807) ∧ QB q)
  obtain ⟨hp, ht, hq, hq2⟩ := hp
  have hw0 : w64 (q - (a.length : Int)) = q - (a.length : Int) := w64_id (by omega) (by omega)
  refine ⟨[(5, { X := Nat × Int, inv := fun x => x.1 ≤ a.length ∧ QB x.2 ∧ szL szPiece (a.drop x.1) x.2 = szS szPiece a q, mu := fun x => a.length - x.1, vk := [5, 1], ov := fun x => [.a (.c (.leaf (.int (x.1 : Int)))), .a (.c (.leaf (.int x.2)))], bk := [], ob := fun x => [], rk := [], orr := fun x => [] })], ?_⟩
  conv => whnf
  refine And.intro (fun hn => ?_) (fun hn => ?_)
  · repeat' ((conv => whnf); first | refine toOb2 ?_ | refine And.intro (fun _ => ?_) (fun _ => ?_) | refine And.intro ?_ ?_ | refine toEx2 ?_ | refine toY ?_ | intro _)
    all_goals refine Ob2.mk ?_
    all_goals (try simp only [Ctr.reads, dTag_eta, dRoad_eta, dLetter_eta, dAddr_eta, dSub_eta, dHalf_eta, dPiece_eta, dPolicy_eta, dBucket_eta, dOut_eta, dPieces_eta, dEnd_eta, dKnown_eta, dWorld_eta] at *)
    all_goals grind [szS, szN, sq]
  conv => whnf
  have hn : ¬ (q - (a.length : Int) < 0) := by rw [hw0] at hn; simpa using hn
  have hz : szN a.length q = q - (a.length : Int) := by unfold szN; rw [if_neg hn]
  refine And.intro ⟨((0, q - (a.length : Int)) : Nat × Int), Ob.mk ?_, ?_⟩ (fun (i : Nat × Int) hi => ?_)
  · exact And.intro (Nat.zero_le _) (And.intro ⟨by show 0 ≤ q - (a.length : Int); omega, by show q - (a.length : Int) ≤ _; omega⟩ (by show _ = szS szPiece a q; rw [szS, sq_eq (by omega), hz]; rfl))
  · conv => whnf
    refine Ob.mk ?_
    all_goals (try simp only [allP, side, Ctr.reads, dTag_eta, dRoad_eta, dLetter_eta, dAddr_eta, dSub_eta, dHalf_eta, dPiece_eta, dPolicy_eta, dBucket_eta, dOut_eta, dPieces_eta, dEnd_eta, dKnown_eta, dWorld_eta]); all_goals repeat' (first | with_reducible exact rfl | exact trivial | with_reducible assumption | refine And.intro ?_ ?_ | exact (rfl : (_ : SV) = _) | exact (rfl : (_ : List SC) = _) | (show drawOk _ _ _ = true; exact rfl) | (show ((0 : Nat) : Int) = 0; exact rfl))
    all_goals exact hw0.symm
  obtain ⟨i, r⟩ := i
  obtain ⟨hi, ⟨hr, hr2⟩, hm⟩ := hi
  have hi : i ≤ a.length := hi
  have hr : 0 ≤ r := hr
  have hr2 : r ≤ 1048576 := hr2
  have hm : szL szPiece (a.drop i) r = szS szPiece a q := hm
  rcases Nat.lt_or_ge i a.length with hlt | hge
  · obtain ⟨x, hx, hxi, hd⟩ := at_step a i (ETy.piece.zero) hlt
    rw [hd, szL, sq] at hm
    have hw := w64_succ hlt (by omega : a.length ≤ 1073741824)
    have hxt : x.text.length ≤ 9223372036854775807 := ht x (List.mem_of_getElem? hxi)
    repeat' ((conv => whnf); first | refine toOb2 ?_ | refine And.intro (fun _ => ?_) (fun _ => ?_) | refine And.intro ?_ ?_ | refine toEx2 ?_ | refine toY ?_ | intro _)
    all_goals try (exfalso; exact Nat.lt_irrefl _ (Nat.lt_of_lt_of_le hlt (ge_of_dec (by assumption))))
    all_goals first | refine Ob2.mk ?_ | refine Ex2.of ((i + 1, szPiece x r)) ?_ ?_ | skip
    all_goals try ((conv => whnf); refine Ob.mk ?_)
    all_goals (try simp only [allP, side, Ctr.reads, dTag_eta, dRoad_eta, dLetter_eta, dAddr_eta, dSub_eta, dHalf_eta, dPiece_eta, dPolicy_eta, dBucket_eta, dOut_eta, dPieces_eta, dEnd_eta, dKnown_eta, dWorld_eta]); all_goals repeat' (first | with_reducible exact rfl | exact trivial | with_reducible assumption | refine And.intro ?_ ?_ | exact (rfl : (_ : SV) = _) | exact (rfl : (_ : List SC) = _) | (show drawOk _ _ _ = true; exact rfl) | (show ((0 : Nat) : Int) = 0; exact rfl))
    all_goals (try simp only [hx, Ctr.reads, dTag_eta, dRoad_eta, dLetter_eta, dAddr_eta, dSub_eta, dHalf_eta, dPiece_eta, dPolicy_eta, dBucket_eta, dOut_eta, dPieces_eta, dEnd_eta, dKnown_eta, dWorld_eta] at *)
    all_goals first | done | grind [szPiece, szN, QB]
  · have hl : i = a.length := by omega
    subst hl
    rw [List.drop_length, szL] at hm
    repeat' ((conv => whnf); first | refine toOb2 ?_ | refine And.intro (fun _ => ?_) (fun _ => ?_) | refine And.intro ?_ ?_ | refine toEx2 ?_ | refine toY ?_ | intro _)
    all_goals try (exfalso; exact Nat.lt_irrefl _ (Nat.lt_of_lt_of_le (lt_of_dec (by assumption)) hge))
    all_goals first | refine Ob2.mk ?_ | refine Ex2.of ((a.length, r)) ?_ ?_ | skip
    all_goals try ((conv => whnf); refine Ob.mk ?_)
    all_goals (try simp only [allP, side, Ctr.reads, dTag_eta, dRoad_eta, dLetter_eta, dAddr_eta, dSub_eta, dHalf_eta, dPiece_eta, dPolicy_eta, dBucket_eta, dOut_eta, dPieces_eta, dEnd_eta, dKnown_eta, dWorld_eta]); all_goals repeat' (first | with_reducible exact rfl | exact trivial | with_reducible assumption | refine And.intro ?_ ?_ | exact (rfl : (_ : SV) = _) | exact (rfl : (_ : List SC) = _) | (show drawOk _ _ _ = true; exact rfl) | (show ((0 : Nat) : Int) = 0; exact rfl))
    all_goals (try simp only [Ctr.reads, dTag_eta, dRoad_eta, dLetter_eta, dAddr_eta, dSub_eta, dHalf_eta, dPiece_eta, dPolicy_eta, dBucket_eta, dOut_eta, dPieces_eta, dEnd_eta, dKnown_eta, dWorld_eta] at *)
    all_goals first | done | grind
set_option maxHeartbeats 1000000 in
theorem h_laws_szPieces : Ctr.holds E 98 (.reads [aPieces, aInt] [aInt] (fun ((p : DPieces), (q : Int), _) => p.W ∧ QB q) fun ((p : DPieces), (q : Int), _) => (szPieces p q, ())) := by
  refine fn_ok (Γ := [(234, .reads [aRow .piece, aInt] [aInt] (fun ((a : List DPiece), (q : Int), _) => a.length ≤ 9223372036854775807 ∧ (∀ x ∈ a, x.text.length ≤ 9223372036854775807) ∧ QB q) fun ((a : List DPiece), (q : Int), _) => (szS szPiece a q, ()))]) prgOk (gcons h_laws_szPieceS gnil) Tryz.func98 rfl rfl rfl rfl ?_
  rintro ty ⟨(p : DPieces), (q : Int), _⟩ (hp : p.W ∧ QB q)
  obtain ⟨⟨hp1, hp2, hp3⟩, hq, hq2⟩ := hp
  have hw : w64 (q - (p.ready.length : Int)) = q - (p.ready.length : Int) := w64_id (by omega) (by omega)
  have hz : szN p.ready.length q = if q - (p.ready.length : Int) < 0 then -1 else q - (p.ready.length : Int) := rfl
  refine ⟨[], ?_⟩
  repeat' ((conv => whnf); first | refine toOb2 ?_ | refine And.intro (fun _ => ?_) (fun _ => ?_) | refine And.intro ?_ ?_ | refine toEx2 ?_ | refine toY ?_ | intro _)
  all_goals refine Ob2.mk ?_
  all_goals (try simp only [allP, side, Ctr.reads, dTag_eta, dRoad_eta, dLetter_eta, dAddr_eta, dSub_eta, dHalf_eta, dPiece_eta, dPolicy_eta, dBucket_eta, dOut_eta, dPieces_eta, dEnd_eta, dKnown_eta, dWorld_eta]); all_goals repeat' (first | with_reducible exact rfl | exact trivial | with_reducible assumption | refine And.intro ?_ ?_ | exact (rfl : (_ : SV) = _) | exact (rfl : (_ : List SC) = _) | (show drawOk _ _ _ = true; exact rfl) | (show ((0 : Nat) : Int) = 0; exact rfl))
  all_goals (try simp only [hw, Ctr.reads, dTag_eta, dRoad_eta, dLetter_eta, dAddr_eta, dSub_eta, dHalf_eta, dPiece_eta, dPolicy_eta, dBucket_eta, dOut_eta, dPieces_eta, dEnd_eta, dKnown_eta, dWorld_eta] at *)
  all_goals (try simp only [decide_eq_true_eq, decide_eq_false_iff_not] at *)
  all_goals try with_reducible (repeat (first | exact hq2 | apply szN_m | apply szOut_m | apply szPieces_m | apply szEnd_m | apply szKnown_m | apply szLs_m))
  all_goals try (exact Int.not_lt.1 (by with_reducible assumption))
  all_goals first | done | (simp only [szPieces, (by decide : (-1 : Int) < 0), sq_pos, sq_neg, if_true, if_false, not_false_eq_true, id, *]; done) | grind [szN, QB]
set_option maxHeartbeats 1000000 in
theorem h_laws_szIntS : Ctr.holds E 99 (.reads [aRow .int, aInt] [aInt] (fun ((a : List Int), (q : Int), _) => a.length ≤ 9223372036854775807 ∧ QB q) fun ((a : List Int), (q : Int), _) => (szN a.length q, ())) := by
  refine fn_ok (Γ := []) prgOk gnil Tryz.func99 rfl rfl rfl rfl ?_
  rintro ty ⟨(a : List Int), (q : Int), _⟩ (hp : a.length ≤ 9223372036854775807 ∧ QB q)
  obtain ⟨hp, hq, hq2⟩ := hp
  have hw : w64 (q - (a.length : Int)) = q - (a.length : Int) := w64_id (by omega) (by omega)
  refine ⟨[], ?_⟩
  repeat' ((conv => whnf); first | refine toOb2 ?_ | refine And.intro (fun _ => ?_) (fun _ => ?_) | refine And.intro ?_ ?_ | refine toEx2 ?_ | intro _)
  all_goals refine Ob2.mk ?_
  all_goals (try simp only [allP, side, Ctr.reads, dTag_eta, dRoad_eta, dLetter_eta, dAddr_eta, dSub_eta, dHalf_eta, dPiece_eta, dPolicy_eta, dBucket_eta, dOut_eta, dPieces_eta, dEnd_eta, dKnown_eta, dWorld_eta]); all_goals repeat' (first | with_reducible exact rfl | exact trivial | with_reducible assumption | refine And.intro ?_ ?_ | exact (rfl : (_ : SV) = _) | exact (rfl : (_ : List SC) = _) | (show drawOk _ _ _ = true; exact rfl) | (show ((0 : Nat) : Int) = 0; exact rfl))
  all_goals (try simp only [Ctr.reads, dTag_eta, dRoad_eta, dLetter_eta, dAddr_eta, dSub_eta, dHalf_eta, dPiece_eta, dPolicy_eta, dBucket_eta, dOut_eta, dPieces_eta, dEnd_eta, dKnown_eta, dWorld_eta] at *)
  all_goals first | done | trivial | grind [szN]
set_option maxHeartbeats 1000000 in
theorem h_laws_szEnd : Ctr.holds E 27 (.reads [aEnd, aInt] [aInt] (fun ((e : DEnd), (q : Int), _) => e.W ∧ QB q) fun ((e : DEnd), (q : Int), _) => (szEnd e q, ())) := by
  refine fn_ok (Γ := [(94, .reads [aRow .addr, aInt] [aInt] (fun ((a : List DAddr), (q : Int), _) => a.length ≤ 9223372036854775807 ∧ QB q) fun ((a : List DAddr), (q : Int), _) => (szN a.length q, ())), (95, .reads [aRow .sub, aInt] [aInt] (fun ((a : List DSub), (q : Int), _) => a.length ≤ 9223372036854775807 ∧ QB q) fun ((a : List DSub), (q : Int), _) => (szN a.length q, ())), (96, .reads [aRow .half, aInt] [aInt] (fun ((a : List DHalf), (q : Int), _) => a.length ≤ 9223372036854775807 ∧ QB q) fun ((a : List DHalf), (q : Int), _) => (szN a.length q, ())), (97, .reads [aOut, aInt] [aInt] (fun ((a : DOut), (q : Int), _) => a.text.length ≤ 9223372036854775807 ∧ QB q) fun ((a : DOut), (q : Int), _) => (szOut a q, ())), (98, .reads [aPieces, aInt] [aInt] (fun ((p : DPieces), (q : Int), _) => p.W ∧ QB q) fun ((p : DPieces), (q : Int), _) => (szPieces p q, ())), (99, .reads [aRow .int, aInt] [aInt] (fun ((a : List Int), (q : Int), _) => a.length ≤ 9223372036854775807 ∧ QB q) fun ((a : List Int), (q : Int), _) => (szN a.length q, ()))]) prgOk (gcons h_laws_szAddrS (gcons h_laws_szSubS (gcons h_laws_szHalfS (gcons h_laws_szOut (gcons h_laws_szPieces (gcons h_laws_szIntS gnil)))))) Tryz.func27 rfl rfl rfl rfl ?_
  rintro ty ⟨(e : DEnd), (q : Int), _⟩ (hp : e.W ∧ QB q)
  obtain ⟨⟨hp1, hp2, hp3, hp4, hp5, ⟨hp6, hp6b, hp6c⟩, hp7, hp8⟩, hq, hq2⟩ := hp
  refine ⟨[], ?_⟩
  repeat' ((conv => whnf); first | refine toOb2 ?_ | refine And.intro (fun _ => ?_) (fun _ => ?_) | refine And.intro ?_ ?_ | refine toEx2 ?_ | refine toY ?_ | intro _)
  all_goals refine Ob2.mk ?_
  all_goals (try simp only [allP, side, Ctr.reads, dTag_eta, dRoad_eta, dLetter_eta, dAddr_eta, dSub_eta, dHalf_eta, dPiece_eta, dPolicy_eta, dBucket_eta, dOut_eta, dPieces_eta, dEnd_eta, dKnown_eta, dWorld_eta]); all_goals repeat' (first | with_reducible exact rfl | exact trivial | with_reducible assumption | refine And.intro ?_ ?_ | exact (rfl : (_ : SV) = _) | exact (rfl : (_ : List SC) = _) | (show drawOk _ _ _ = true; exact rfl) | (show ((0 : Nat) : Int) = 0; exact rfl))
  all_goals (try simp only [Ctr.reads, dTag_eta, dRoad_eta, dLetter_eta, dAddr_eta, dSub_eta, dHalf_eta, dPiece_eta, dPolicy_eta, dBucket_eta, dOut_eta, dPieces_eta, dEnd_eta, dKnown_eta, dWorld_eta] at *)
  all_goals (try simp only [decide_eq_true_eq, decide_eq_false_iff_not] at *)
  all_goals try with_reducible (repeat (first | exact hq2 | apply szN_m | apply szOut_m | apply szPieces_m | apply szEnd_m | apply szKnown_m | apply szLs_m))
  all_goals try (exact Int.not_lt.1 (by with_reducible assumption))
  all_goals first | done | (simp only [szEnd, sq_pos, sq_neg, if_true, if_false, not_false_eq_true, id, *]; done) | grind [szN_up, szOut_up, szPieces_up]
set_option maxHeartbeats 1000000 in
theorem h_laws_szLetter : Ctr.holds E 28 (.reads [aLetter, aInt] [aInt] (fun ((a : DLetter), (q : Int), _) => a.text.length ≤ 9223372036854775807 ∧ QB q) fun ((a : DLetter), (q : Int), _) => (szLetter a q, ())) := by
  refine fn_ok (Γ := []) prgOk gnil Tryz.func28 rfl rfl rfl rfl ?_
  rintro ty ⟨(a : DLetter), (q : Int), _⟩ (hp : a.text.length ≤ 9223372036854775807 ∧ QB q)
  obtain ⟨hp, hq, hq2⟩ := hp
  have hw : w64 (q - (a.text.length : Int)) = q - (a.text.length : Int) := w64_id (by omega) (by omega)
  refine ⟨[], ?_⟩
  repeat' ((conv => whnf); first | refine toOb2 ?_ | refine And.intro (fun _ => ?_) (fun _ => ?_) | refine And.intro ?_ ?_ | refine toEx2 ?_ | intro _)
  all_goals refine Ob2.mk ?_
  all_goals (try simp only [allP, side, Ctr.reads, dTag_eta, dRoad_eta, dLetter_eta, dAddr_eta, dSub_eta, dHalf_eta, dPiece_eta, dPolicy_eta, dBucket_eta, dOut_eta, dPieces_eta, dEnd_eta, dKnown_eta, dWorld_eta]); all_goals repeat' (first | with_reducible exact rfl | exact trivial | with_reducible assumption | refine And.intro ?_ ?_ | exact (rfl : (_ : SV) = _) | exact (rfl : (_ : List SC) = _) | (show drawOk _ _ _ = true; exact rfl) | (show ((0 : Nat) : Int) = 0; exact rfl))
  all_goals (try simp only [Ctr.reads, dTag_eta, dRoad_eta, dLetter_eta, dAddr_eta, dSub_eta, dHalf_eta, dPiece_eta, dPolicy_eta, dBucket_eta, dOut_eta, dPieces_eta, dEnd_eta, dKnown_eta, dWorld_eta] at *)
  all_goals first | done | trivial | grind [szN, szLetter]
set_option maxHeartbeats 1000000 in
theorem h_laws_szLetterS : Ctr.holds E 85 (.reads [aRow .letter, aInt] [aInt] (fun ((a : List DLetter), (q : Int), _) => a.length ≤ 9223372036854775807 ∧ (∀ x ∈ a, x.text.length ≤ 9223372036854775807) ∧ QB q) fun ((a : List DLetter), (q : Int), _) => (szS szLetter a q, ())) := by
  refine fn_ok (Γ := [(28, .reads [aLetter, aInt] [aInt] (fun ((a : DLetter), (q : Int), _) => a.text.length ≤ 9223372036854775807 ∧ QB q) fun ((a : DLetter), (q : Int), _) => (szLetter a q, ()))]) prgOk (gcons h_laws_szLetter gnil) Tryz.func85 rfl rfl rfl rfl ?_
  rintro ty ⟨(a : List DLetter), (q : Int), _⟩ (hp : a.length ≤ 9223372036854775807 ∧ (∀ x ∈ a, x.text.length ≤ 9223372036854775807) ∧ QB q)
  obtain ⟨hp, ht, hq, hq2⟩ := hp
  have hw0 : w64 (q - (a.length : Int)) = q - (a.length : Int) := w64_id (by omega) (by omega)
  refine ⟨[(5, { X := Nat × Int, inv := fun x => x.1 ≤ a.length ∧ QB x.2 ∧ szL szLetter (a.drop x.1) x.2 = szS szLetter a q, mu := fun x => a.length - x.1, vk := [5, 1], ov := fun x => [.a (.c (.leaf (.int (x.1 : Int)))), .a (.c (.leaf (.int x.2)))], bk := [], ob := fun x => [], rk := [], orr := fun x => [] })], ?_⟩
  conv => whnf
  refine And.intro (fun hn => ?_) (fun hn => ?_)
  · repeat' ((conv => whnf); first | refine toOb2 ?_ | refine And.intro (fun _ => ?_) (fun _ => ?_) | refine And.intro ?_ ?_ | refine toEx2 ?_ | refine toY ?_ | intro _)
    all_goals refine Ob2.mk ?_
    all_goals (try simp only [Ctr.reads, dTag_eta, dRoad_eta, dLetter_eta, dAddr_eta, dSub_eta, dHalf_eta, dPiece_eta, dPolicy_eta, dBucket_eta, dOut_eta, dPieces_eta, dEnd_eta, dKnown_eta, dWorld_eta] at *)
    all_goals grind [szS, szN, sq]
  conv => whnf
  have hn : ¬ (q - (a.length : Int) < 0) := by rw [hw0] at hn; simpa using hn
  have hz : szN a.length q = q - (a.length : Int) := by unfold szN; rw [if_neg hn]
  refine And.intro ⟨((0, q - (a.length : Int)) : Nat × Int), Ob.mk ?_, ?_⟩ (fun (i : Nat × Int) hi => ?_)
  · exact And.intro (Nat.zero_le _) (And.intro ⟨by show 0 ≤ q - (a.length : Int); omega, by show q - (a.length : Int) ≤ _; omega⟩ (by show _ = szS szLetter a q; rw [szS, sq_eq (by omega), hz]; rfl))
  · conv => whnf
    refine Ob.mk ?_
    all_goals (try simp only [allP, side, Ctr.reads, dTag_eta, dRoad_eta, dLetter_eta, dAddr_eta, dSub_eta, dHalf_eta, dPiece_eta, dPolicy_eta, dBucket_eta, dOut_eta, dPieces_eta, dEnd_eta, dKnown_eta, dWorld_eta]); all_goals repeat' (first | with_reducible exact rfl | exact trivial | with_reducible assumption | refine And.intro ?_ ?_ | exact (rfl : (_ : SV) = _) | exact (rfl : (_ : List SC) = _) | (show drawOk _ _ _ = true; exact rfl) | (show ((0 : Nat) : Int) = 0; exact rfl))
    all_goals exact hw0.symm
  obtain ⟨i, r⟩ := i
  obtain ⟨hi, ⟨hr, hr2⟩, hm⟩ := hi
  have hi : i ≤ a.length := hi
  have hr : 0 ≤ r := hr
  have hr2 : r ≤ 1048576 := hr2
  have hm : szL szLetter (a.drop i) r = szS szLetter a q := hm
  rcases Nat.lt_or_ge i a.length with hlt | hge
  · obtain ⟨x, hx, hxi, hd⟩ := at_step a i (ETy.letter.zero) hlt
    rw [hd, szL, sq] at hm
    have hw := w64_succ hlt (by omega : a.length ≤ 1073741824)
    have hxt : x.text.length ≤ 9223372036854775807 := ht x (List.mem_of_getElem? hxi)
    repeat' ((conv => whnf); first | refine toOb2 ?_ | refine And.intro (fun _ => ?_) (fun _ => ?_) | refine And.intro ?_ ?_ | refine toEx2 ?_ | refine toY ?_ | intro _)
    all_goals try (exfalso; exact Nat.lt_irrefl _ (Nat.lt_of_lt_of_le hlt (ge_of_dec (by assumption))))
    all_goals first | refine Ob2.mk ?_ | refine Ex2.of ((i + 1, szLetter x r)) ?_ ?_ | skip
    all_goals try ((conv => whnf); refine Ob.mk ?_)
    all_goals (try simp only [allP, side, Ctr.reads, dTag_eta, dRoad_eta, dLetter_eta, dAddr_eta, dSub_eta, dHalf_eta, dPiece_eta, dPolicy_eta, dBucket_eta, dOut_eta, dPieces_eta, dEnd_eta, dKnown_eta, dWorld_eta]); all_goals repeat' (first | with_reducible exact rfl | exact trivial | with_reducible assumption | refine And.intro ?_ ?_ | exact (rfl : (_ : SV) = _) | exact (rfl : (_ : List SC) = _) | (show drawOk _ _ _ = true; exact rfl) | (show ((0 : Nat) : Int) = 0; exact rfl))
    all_goals (try simp only [hx, Ctr.reads, dTag_eta, dRoad_eta, dLetter_eta, dAddr_eta, dSub_eta, dHalf_eta, dPiece_eta, dPolicy_eta, dBucket_eta, dOut_eta, dPieces_eta, dEnd_eta, dKnown_eta, dWorld_eta] at *)
    all_goals first | done | grind [szLetter, szN, QB]
  · have hl : i = a.length := by omega
    subst hl
    rw [List.drop_length, szL] at hm
    repeat' ((conv => whnf); first | refine toOb2 ?_ | refine And.intro (fun _ => ?_) (fun _ => ?_) | refine And.intro ?_ ?_ | refine toEx2 ?_ | refine toY ?_ | intro _)
    all_goals try (exfalso; exact Nat.lt_irrefl _ (Nat.lt_of_lt_of_le (lt_of_dec (by assumption)) hge))
    all_goals first | refine Ob2.mk ?_ | refine Ex2.of ((a.length, r)) ?_ ?_ | skip
    all_goals try ((conv => whnf); refine Ob.mk ?_)
    all_goals (try simp only [allP, side, Ctr.reads, dTag_eta, dRoad_eta, dLetter_eta, dAddr_eta, dSub_eta, dHalf_eta, dPiece_eta, dPolicy_eta, dBucket_eta, dOut_eta, dPieces_eta, dEnd_eta, dKnown_eta, dWorld_eta]); all_goals repeat' (first | with_reducible exact rfl | exact trivial | with_reducible assumption | refine And.intro ?_ ?_ | exact (rfl : (_ : SV) = _) | exact (rfl : (_ : List SC) = _) | (show drawOk _ _ _ = true; exact rfl) | (show ((0 : Nat) : Int) = 0; exact rfl))
    all_goals (try simp only [Ctr.reads, dTag_eta, dRoad_eta, dLetter_eta, dAddr_eta, dSub_eta, dHalf_eta, dPiece_eta, dPolicy_eta, dBucket_eta, dOut_eta, dPieces_eta, dEnd_eta, dKnown_eta, dWorld_eta] at *)
    all_goals first | done | grind
set_option maxHeartbeats 1000000 in
theorem h_laws_szTagS : Ctr.holds E 279 (.reads [aRow .tag, aInt] [aInt] (fun ((a : List DTag), (q : Int), _) => a.length ≤ 9223372036854775807 ∧ QB q) fun ((a : List DTag), (q : Int), _) => (szN a.length q, ())) := by
  refine fn_ok (Γ := []) prgOk gnil Tryz.func279 rfl rfl rfl rfl ?_
  rintro ty ⟨(a : List DTag), (q : Int), _⟩ (hp : a.length ≤ 9223372036854775807 ∧ QB q)
  obtain ⟨hp, hq, hq2⟩ := hp
  have hw : w64 (q - (a.length : Int)) = q - (a.length : Int) := w64_id (by omega) (by omega)
  refine ⟨[], ?_⟩
  repeat' ((conv => whnf); first | refine toOb2 ?_ | refine And.intro (fun _ => ?_) (fun _ => ?_) | refine And.intro ?_ ?_ | refine toEx2 ?_ | intro _)
  all_goals refine Ob2.mk ?_
  all_goals (try simp only [allP, side, Ctr.reads, dTag_eta, dRoad_eta, dLetter_eta, dAddr_eta, dSub_eta, dHalf_eta, dPiece_eta, dPolicy_eta, dBucket_eta, dOut_eta, dPieces_eta, dEnd_eta, dKnown_eta, dWorld_eta]); all_goals repeat' (first | with_reducible exact rfl | exact trivial | with_reducible assumption | refine And.intro ?_ ?_ | exact (rfl : (_ : SV) = _) | exact (rfl : (_ : List SC) = _) | (show drawOk _ _ _ = true; exact rfl) | (show ((0 : Nat) : Int) = 0; exact rfl))
  all_goals (try simp only [Ctr.reads, dTag_eta, dRoad_eta, dLetter_eta, dAddr_eta, dSub_eta, dHalf_eta, dPiece_eta, dPolicy_eta, dBucket_eta, dOut_eta, dPieces_eta, dEnd_eta, dKnown_eta, dWorld_eta] at *)
  all_goals first | done | trivial | grind [szN]
set_option maxHeartbeats 1000000 in
theorem h_laws_szKnown : Ctr.holds E 212 (.reads [aKnown, aInt] [aInt] (fun ((k : DKnown), (q : Int), _) => (k.keys.length ≤ 9223372036854775807 ∧ k.tags.length ≤ 9223372036854775807) ∧ QB q) fun ((k : DKnown), (q : Int), _) => (szKnown k q, ())) := by
  refine fn_ok (Γ := [(99, .reads [aRow .int, aInt] [aInt] (fun ((a : List Int), (q : Int), _) => a.length ≤ 9223372036854775807 ∧ QB q) fun ((a : List Int), (q : Int), _) => (szN a.length q, ())), (279, .reads [aRow .tag, aInt] [aInt] (fun ((a : List DTag), (q : Int), _) => a.length ≤ 9223372036854775807 ∧ QB q) fun ((a : List DTag), (q : Int), _) => (szN a.length q, ()))]) prgOk (gcons h_laws_szIntS (gcons h_laws_szTagS gnil)) Tryz.func212 rfl rfl rfl rfl ?_
  rintro ty ⟨(k : DKnown), (q : Int), _⟩ (hp : (k.keys.length ≤ 9223372036854775807 ∧ k.tags.length ≤ 9223372036854775807) ∧ QB q)
  obtain ⟨⟨hp1, hp2⟩, hq, hq2⟩ := hp
  refine ⟨[], ?_⟩
  repeat' ((conv => whnf); first | refine toOb2 ?_ | refine And.intro (fun _ => ?_) (fun _ => ?_) | refine And.intro ?_ ?_ | refine toEx2 ?_ | refine toY ?_ | intro _)
  all_goals refine Ob2.mk ?_
  all_goals (try simp only [allP, side, Ctr.reads, dTag_eta, dRoad_eta, dLetter_eta, dAddr_eta, dSub_eta, dHalf_eta, dPiece_eta, dPolicy_eta, dBucket_eta, dOut_eta, dPieces_eta, dEnd_eta, dKnown_eta, dWorld_eta]); all_goals repeat' (first | with_reducible exact rfl | exact trivial | with_reducible assumption | refine And.intro ?_ ?_ | exact (rfl : (_ : SV) = _) | exact (rfl : (_ : List SC) = _) | (show drawOk _ _ _ = true; exact rfl) | (show ((0 : Nat) : Int) = 0; exact rfl))
  all_goals (try simp only [Ctr.reads, dTag_eta, dRoad_eta, dLetter_eta, dAddr_eta, dSub_eta, dHalf_eta, dPiece_eta, dPolicy_eta, dBucket_eta, dOut_eta, dPieces_eta, dEnd_eta, dKnown_eta, dWorld_eta] at *)
  all_goals (try simp only [decide_eq_true_eq, decide_eq_false_iff_not] at *)
  all_goals try with_reducible (repeat (first | exact hq2 | apply szN_m | apply szOut_m | apply szPieces_m | apply szEnd_m | apply szKnown_m | apply szLs_m))
  all_goals try (exact Int.not_lt.1 (by with_reducible assumption))
  all_goals first | done | (simp only [szKnown, sq_pos, sq_neg, if_true, if_false, not_false_eq_true, id, *]; done) | grind [szN, QB, szKnown, sq]
set_option maxHeartbeats 1000000 in
theorem h_laws_szWorld : Ctr.holds E 84 (.reads [aWorld, aInt] [aInt] (fun ((w : DWorld), (q : Int), _) => w.W ∧ QB q) fun ((w : DWorld), (q : Int), _) => (szWorld w q, ())) := by
  refine fn_ok (Γ := [(27, .reads [aEnd, aInt] [aInt] (fun ((e : DEnd), (q : Int), _) => e.W ∧ QB q) fun ((e : DEnd), (q : Int), _) => (szEnd e q, ())), (85, .reads [aRow .letter, aInt] [aInt] (fun ((a : List DLetter), (q : Int), _) => a.length ≤ 9223372036854775807 ∧ (∀ x ∈ a, x.text.length ≤ 9223372036854775807) ∧ QB q) fun ((a : List DLetter), (q : Int), _) => (szS szLetter a q, ())), (212, .reads [aKnown, aInt] [aInt] (fun ((k : DKnown), (q : Int), _) => (k.keys.length ≤ 9223372036854775807 ∧ k.tags.length ≤ 9223372036854775807) ∧ QB q) fun ((k : DKnown), (q : Int), _) => (szKnown k q, ())), (99, .reads [aRow .int, aInt] [aInt] (fun ((a : List Int), (q : Int), _) => a.length ≤ 9223372036854775807 ∧ QB q) fun ((a : List Int), (q : Int), _) => (szN a.length q, ()))]) prgOk (gcons h_laws_szEnd (gcons h_laws_szLetterS (gcons h_laws_szKnown (gcons h_laws_szIntS gnil)))) Tryz.func84 rfl rfl rfl rfl ?_
  rintro ty ⟨(w : DWorld), (q : Int), _⟩ (hp : w.W ∧ QB q)
  obtain ⟨⟨h1, h2, ⟨h3, h3'⟩, ⟨h4, h4'⟩, h5, h6, h7, h8, h9, h10, h11, h12, h13⟩, hq, hq2⟩ := hp
  have m1 := szEnd_m (n := w.a) hq2
  have m2 := szEnd_m (n := w.b) m1
  have m3 := szLs_m (n := w.bag) m2
  have m4 := szLs_m (n := w.past) m3
  refine ⟨[], ?_⟩
  repeat' ((conv => whnf); first | refine toOb2 ?_ | (refine And.intro (fun h => ?_) (fun h => ?_) <;> (try simp only [Ctr.reads, beq_self_eq_true, bne_self_eq_false, reduceCtorEq, decide_true, decide_false, Bool.not_true, Bool.and_true, Bool.or_false, Bool.cond_true_left, Bool.cond_false_right, hd_letters, mkL_length, sq_pos, Int.reduceLT, mkEnd_re, hd_mk1, lt0_1, lt0_2, lt0_3, ne_eq, bne_self_eq_false, or_false, false_or, allP, side, decide_eq_true_eq, decide_eq_false_iff_not, not_false_eq_true, not_true_eq_false, Bool.not_true, Bool.not_false, Bool.not_eq_true', Bool.not_eq_false', Bool.not_eq_eq_eq_not, dTag_eta, dRoad_eta, dLetter_eta, dAddr_eta, dSub_eta, dHalf_eta, dPiece_eta, dPolicy_eta, dBucket_eta, dOut_eta, dPieces_eta, dEnd_eta, dKnown_eta, dWorld_eta] at h) <;> (try with_reducible contradiction)) | refine And.intro ?_ ?_ | refine toEx2 ?_ | (refine fun y hy => ?_; (try simp only [Ctr.reads, beq_self_eq_true, bne_self_eq_false, reduceCtorEq, decide_true, decide_false, Bool.not_true, Bool.and_true, Bool.or_false, Bool.cond_true_left, Bool.cond_false_right, hd_letters, mkL_length, sq_pos, Int.reduceLT, mkEnd_re, hd_mk1, lt0_1, lt0_2, lt0_3, ne_eq, bne_self_eq_false, or_false, false_or, allP, side, decide_eq_true_eq, decide_eq_false_iff_not, not_false_eq_true, not_true_eq_false, Bool.not_true, Bool.not_false, Bool.not_eq_true', Bool.not_eq_false', Bool.not_eq_eq_eq_not, dTag_eta, dRoad_eta, dLetter_eta, dAddr_eta, dSub_eta, dHalf_eta, dPiece_eta, dPolicy_eta, dBucket_eta, dOut_eta, dPieces_eta, dEnd_eta, dKnown_eta, dWorld_eta] at hy); subst hy) | intro _)
  all_goals first | refine Ob2.mk ?_ | (show drawOk _ _ _ = true; exact rfl)
  all_goals (try simp only [allP, side, Ctr.reads, dTag_eta, dRoad_eta, dLetter_eta, dAddr_eta, dSub_eta, dHalf_eta, dPiece_eta, dPolicy_eta, dBucket_eta, dOut_eta, dPieces_eta, dEnd_eta, dKnown_eta, dWorld_eta])
  all_goals (try simp (disch := omega) only [w64_id] at *)
  all_goals (try simp (disch := omega) only [w64_id] at *)
  all_goals (try simp (disch := omega) only [w64_id] at *)
  all_goals (try simp (disch := omega) only [w64_id] at *)
  all_goals repeat' (first | with_reducible assumption | refine And.intro ?_ ?_)
  all_goals first | done | assumption | omega | (refine And.intro ?_ ?_ <;> first | omega | (unfold QB; omega)) | (unfold QB; omega) | ((repeat (first | with_reducible apply szKnown_m | with_reducible apply szN_m)); omega) | (simp only [szWorld, szN_pos, szN_neg, sq_pos, sq_neg, not_false_eq_true, id, if_true, if_false, (by decide : (-1 : Int) < 0), *]; done) | skip
set_option maxHeartbeats 1000000 in
theorem h_laws_toPolicy : Ctr.holds E 75 (.reads [aPolicy] [aPolicy] (fun _ => True) fun (a, _) => (a, ())) := by
  refine fn_ok (Γ := []) prgOk gnil Tryz.func75 rfl rfl rfl rfl ?_
  rintro ty ⟨a, _⟩ hp
  refine ⟨[], ?_⟩
  repeat' ((conv => whnf); first | refine toOb2 ?_ | refine And.intro (fun _ => ?_) (fun _ => ?_) | refine And.intro ?_ ?_ | refine toEx2 ?_ | intro _)
  all_goals first | exact Ob2.mk trivial | exact Ob2.mk rfl
set_option maxHeartbeats 1000000 in
theorem h_laws_toAddr : Ctr.holds E 244 (.reads [aAddr] [aAddr] (fun _ => True) fun (a, _) => (a, ())) := by
  refine fn_ok (Γ := []) prgOk gnil Tryz.func244 rfl rfl rfl rfl ?_
  rintro ty ⟨a, _⟩ hp
  refine ⟨[], ?_⟩
  repeat' ((conv => whnf); first | refine toOb2 ?_ | refine And.intro (fun _ => ?_) (fun _ => ?_) | refine And.intro ?_ ?_ | refine toEx2 ?_ | intro _)
  all_goals first | exact Ob2.mk trivial | exact Ob2.mk rfl
set_option maxHeartbeats 1000000 in
theorem h_laws_toAddrS : Ctr.holds E 104 (.reads [aRow .addr] [aRow .addr] (fun (a, _) => a.length ≤ 1073741824) fun (a, _) => (a, ())) := by
  refine fn_ok (Γ := [(244, .reads [aAddr] [aAddr] (fun _ => True) fun (a, _) => (a, ()))]) prgOk (gcons h_laws_toAddr gnil) Tryz.func104 rfl rfl rfl rfl ?_
  rintro ty ⟨(a : List DAddr), _⟩ (hp : a.length ≤ 1073741824)
  refine ⟨[(3, { X := Nat, inv := fun i => i ≤ a.length, mu := fun i => a.length - i, vk := [4], ov := fun i => [.a (.c (.leaf (.int (i : Int))))], bk := [], ob := fun i => [], rk := [448], orr := fun i => [⟨.addr, a.take i ++ List.replicate (a.length - i) (ETy.addr.zero), true, none⟩] })], ?_⟩
  conv => whnf
  refine And.intro (Ob.mk ?_) (And.intro ⟨(0 : Nat), Ob.mk ?_, ?_⟩ (fun (i : Nat) hi => ?_))
  · refine And.intro ?_ (And.intro ?_ rfl) <;> omega
  · exact Nat.zero_le _
  · conv => whnf
    refine Ob.mk ?_
    all_goals (try simp only [allP, side, Ctr.reads, dTag_eta, dRoad_eta, dLetter_eta, dAddr_eta, dSub_eta, dHalf_eta, dPiece_eta, dPolicy_eta, dBucket_eta, dOut_eta, dPieces_eta, dEnd_eta, dKnown_eta, dWorld_eta]); all_goals repeat' (first | with_reducible exact rfl | exact trivial | with_reducible assumption | refine And.intro ?_ ?_ | exact (rfl : (_ : SV) = _) | exact (rfl : (_ : List SC) = _) | (show drawOk _ _ _ = true; exact rfl) | (show ((0 : Nat) : Int) = 0; exact rfl))
    all_goals simp
  have hi : i ≤ a.length := hi
  rcases Nat.lt_or_ge i a.length with hlt | hge
  · obtain ⟨x, hx, hxi, hd⟩ := at_step a i (ETy.addr.zero) hlt
    have hw := w64_succ hlt hp
    have hf := fill_step a (ETy.addr.zero) i x hxi
    repeat' ((conv => whnf); first | refine toOb2 ?_ | refine And.intro (fun _ => ?_) (fun _ => ?_) | refine And.intro ?_ ?_ | refine toEx2 ?_ | refine toY ?_ | intro _)
    all_goals try (exfalso; exact Nat.lt_irrefl _ (Nat.lt_of_lt_of_le hlt (ge_of_dec (by assumption))))
    all_goals try subst_vars
    all_goals first | refine Ob2.mk ?_ | refine Ex2.of (i + 1) ?_ ?_ | skip
    all_goals try ((conv => whnf); refine Ob.mk ?_)
    all_goals (try simp only [allP, side, Ctr.reads, dTag_eta, dRoad_eta, dLetter_eta, dAddr_eta, dSub_eta, dHalf_eta, dPiece_eta, dPolicy_eta, dBucket_eta, dOut_eta, dPieces_eta, dEnd_eta, dKnown_eta, dWorld_eta]); all_goals repeat' (first | with_reducible exact rfl | exact trivial | with_reducible assumption | refine And.intro ?_ ?_ | exact (rfl : (_ : SV) = _) | exact (rfl : (_ : List SC) = _) | (show drawOk _ _ _ = true; exact rfl) | (show ((0 : Nat) : Int) = 0; exact rfl))
    all_goals (try simp only [Ctr.reads, dTag_eta, dRoad_eta, dLetter_eta, dAddr_eta, dSub_eta, dHalf_eta, dPiece_eta, dPolicy_eta, dBucket_eta, dOut_eta, dPieces_eta, dEnd_eta, dKnown_eta, dWorld_eta] at *)
    all_goals first | done | exact hf.symm | exact hf | (exact hw.symm) | (simp; omega) | omega
  · have hl : i = a.length := by omega
    subst hl
    repeat' ((conv => whnf); first | refine toOb2 ?_ | refine And.intro (fun _ => ?_) (fun _ => ?_) | refine And.intro ?_ ?_ | refine toEx2 ?_ | refine toY ?_ | intro _)
    all_goals try (exfalso; exact Nat.lt_irrefl _ (Nat.lt_of_lt_of_le (lt_of_dec (by assumption)) hge))
    all_goals first | refine Ob2.mk ?_ | refine Ex2.of (a.length) ?_ ?_ | skip
    all_goals try ((conv => whnf); refine Ob.mk ?_)
    all_goals (try simp only [allP, side, Ctr.reads, dTag_eta, dRoad_eta, dLetter_eta, dAddr_eta, dSub_eta, dHalf_eta, dPiece_eta, dPolicy_eta, dBucket_eta, dOut_eta, dPieces_eta, dEnd_eta, dKnown_eta, dWorld_eta]); all_goals repeat' (first | with_reducible exact rfl | exact trivial | with_reducible assumption | refine And.intro ?_ ?_ | exact (rfl : (_ : SV) = _) | exact (rfl : (_ : List SC) = _) | (show drawOk _ _ _ = true; exact rfl) | (show ((0 : Nat) : Int) = 0; exact rfl))
    all_goals (try simp only [Ctr.reads, dTag_eta, dRoad_eta, dLetter_eta, dAddr_eta, dSub_eta, dHalf_eta, dPiece_eta, dPolicy_eta, dBucket_eta, dOut_eta, dPieces_eta, dEnd_eta, dKnown_eta, dWorld_eta] at *)
    all_goals simp
set_option maxHeartbeats 1000000 in
theorem h_laws_toRoad : Ctr.holds E 54 (.reads [aRoad] [aRoad] (fun _ => True) fun (a, _) => (a, ())) := by
  refine fn_ok (Γ := []) prgOk gnil Tryz.func54 rfl rfl rfl rfl ?_
  rintro ty ⟨a, _⟩ hp
  refine ⟨[], ?_⟩
  repeat' ((conv => whnf); first | refine toOb2 ?_ | refine And.intro (fun _ => ?_) (fun _ => ?_) | refine And.intro ?_ ?_ | refine toEx2 ?_ | intro _)
  all_goals first | exact Ob2.mk trivial | exact Ob2.mk rfl
set_option maxHeartbeats 1000000 in
theorem h_laws_toSub : Ctr.holds E 245 (.reads [aSub] [aSub] (fun _ => True) fun (a, _) => (a, ())) := by
  refine fn_ok (Γ := [(54, .reads [aRoad] [aRoad] (fun _ => True) fun (a, _) => (a, ()))]) prgOk (gcons h_laws_toRoad gnil) Tryz.func245 rfl rfl rfl rfl ?_
  rintro ty ⟨a, _⟩ hp
  refine ⟨[], ?_⟩
  repeat' ((conv => whnf); first | refine toOb2 ?_ | refine And.intro (fun _ => ?_) (fun _ => ?_) | refine And.intro ?_ ?_ | refine toEx2 ?_ | refine toY ?_ | intro _)
  all_goals first | exact Ob2.mk trivial | exact Ob2.mk rfl
set_option maxHeartbeats 1000000 in
theorem h_laws_toSubS : Ctr.holds E 105 (.reads [aRow .sub] [aRow .sub] (fun (a, _) => a.length ≤ 1073741824) fun (a, _) => (a, ())) := by
  refine fn_ok (Γ := [(245, .reads [aSub] [aSub] (fun _ => True) fun (a, _) => (a, ()))]) prgOk (gcons h_laws_toSub gnil) Tryz.func105 rfl rfl rfl rfl ?_
  rintro ty ⟨(a : List DSub), _⟩ (hp : a.length ≤ 1073741824)
  refine ⟨[(3, { X := Nat, inv := fun i => i ≤ a.length, mu := fun i => a.length - i, vk := [4], ov := fun i => [.a (.c (.leaf (.int (i : Int))))], bk := [], ob := fun i => [], rk := [448], orr := fun i => [⟨.sub, a.take i ++ List.replicate (a.length - i) (ETy.sub.zero), true, none⟩] })], ?_⟩
  conv => whnf
  refine And.intro (Ob.mk ?_) (And.intro ⟨(0 : Nat), Ob.mk ?_, ?_⟩ (fun (i : Nat) hi => ?_))
  · refine And.intro ?_ (And.intro ?_ rfl) <;> omega
  · exact Nat.zero_le _
  · conv => whnf
    refine Ob.mk ?_
    all_goals (try simp only [allP, side, Ctr.reads, dTag_eta, dRoad_eta, dLetter_eta, dAddr_eta, dSub_eta, dHalf_eta, dPiece_eta, dPolicy_eta, dBucket_eta, dOut_eta, dPieces_eta, dEnd_eta, dKnown_eta, dWorld_eta]); all_goals repeat' (first | with_reducible exact rfl | exact trivial | with_reducible assumption | refine And.intro ?_ ?_ | exact (rfl : (_ : SV) = _) | exact (rfl : (_ : List SC) = _) | (show drawOk _ _ _ = true; exact rfl) | (show ((0 : Nat) : Int) = 0; exact rfl))
    all_goals simp
  have hi : i ≤ a.length := hi
  rcases Nat.lt_or_ge i a.length with hlt | hge
  · obtain ⟨x, hx, hxi, hd⟩ := at_step a i (ETy.sub.zero) hlt
    have hw := w64_succ hlt hp
    have hf := fill_step a (ETy.sub.zero) i x hxi
    repeat' ((conv => whnf); first | refine toOb2 ?_ | refine And.intro (fun _ => ?_) (fun _ => ?_) | refine And.intro ?_ ?_ | refine toEx2 ?_ | refine toY ?_ | intro _)
    all_goals try (exfalso; exact Nat.lt_irrefl _ (Nat.lt_of_lt_of_le hlt (ge_of_dec (by assumption))))
    all_goals try subst_vars
    all_goals first | refine Ob2.mk ?_ | refine Ex2.of (i + 1) ?_ ?_ | skip
    all_goals try ((conv => whnf); refine Ob.mk ?_)
    all_goals (try simp only [allP, side, Ctr.reads, dTag_eta, dRoad_eta, dLetter_eta, dAddr_eta, dSub_eta, dHalf_eta, dPiece_eta, dPolicy_eta, dBucket_eta, dOut_eta, dPieces_eta, dEnd_eta, dKnown_eta, dWorld_eta]); all_goals repeat' (first | with_reducible exact rfl | exact trivial | with_reducible assumption | refine And.intro ?_ ?_ | exact (rfl : (_ : SV) = _) | exact (rfl : (_ : List SC) = _) | (show drawOk _ _ _ = true; exact rfl) | (show ((0 : Nat) : Int) = 0; exact rfl))
    all_goals (try simp only [Ctr.reads, dTag_eta, dRoad_eta, dLetter_eta, dAddr_eta, dSub_eta, dHalf_eta, dPiece_eta, dPolicy_eta, dBucket_eta, dOut_eta, dPieces_eta, dEnd_eta, dKnown_eta, dWorld_eta] at *)
    all_goals first | done | exact hf.symm | exact hf | (exact hw.symm) | (simp; omega) | omega
  · have hl : i = a.length := by omega
    subst hl
    repeat' ((conv => whnf); first | refine toOb2 ?_ | refine And.intro (fun _ => ?_) (fun _ => ?_) | refine And.intro ?_ ?_ | refine toEx2 ?_ | refine toY ?_ | intro _)
    all_goals try (exfalso; exact Nat.lt_irrefl _ (Nat.lt_of_lt_of_le (lt_of_dec (by assumption)) hge))
    all_goals first | refine Ob2.mk ?_ | refine Ex2.of (a.length) ?_ ?_ | skip
    all_goals try ((conv => whnf); refine Ob.mk ?_)
    all_goals (try simp only [allP, side, Ctr.reads, dTag_eta, dRoad_eta, dLetter_eta, dAddr_eta, dSub_eta, dHalf_eta, dPiece_eta, dPolicy_eta, dBucket_eta, dOut_eta, dPieces_eta, dEnd_eta, dKnown_eta, dWorld_eta]); all_goals repeat' (first | with_reducible exact rfl | exact trivial | with_reducible assumption | refine And.intro ?_ ?_ | exact (rfl : (_ : SV) = _) | exact (rfl : (_ : List SC) = _) | (show drawOk _ _ _ = true; exact rfl) | (show ((0 : Nat) : Int) = 0; exact rfl))
    all_goals (try simp only [Ctr.reads, dTag_eta, dRoad_eta, dLetter_eta, dAddr_eta, dSub_eta, dHalf_eta, dPiece_eta, dPolicy_eta, dBucket_eta, dOut_eta, dPieces_eta, dEnd_eta, dKnown_eta, dWorld_eta] at *)
    all_goals simp
set_option maxHeartbeats 1000000 in
theorem h_laws_toHalf : Ctr.holds E 246 (.reads [aHalf] [aHalf] (fun _ => True) fun (a, _) => (a, ())) := by
  refine fn_ok (Γ := [(54, .reads [aRoad] [aRoad] (fun _ => True) fun (a, _) => (a, ()))]) prgOk (gcons h_laws_toRoad gnil) Tryz.func246 rfl rfl rfl rfl ?_
  rintro ty ⟨a, _⟩ hp
  refine ⟨[], ?_⟩
  repeat' ((conv => whnf); first | refine toOb2 ?_ | refine And.intro (fun _ => ?_) (fun _ => ?_) | refine And.intro ?_ ?_ | refine toEx2 ?_ | refine toY ?_ | intro _)
  all_goals first | exact Ob2.mk trivial | exact Ob2.mk rfl
set_option maxHeartbeats 1000000 in
theorem h_laws_toHalfS : Ctr.holds E 106 (.reads [aRow .half] [aRow .half] (fun (a, _) => a.length ≤ 1073741824) fun (a, _) => (a, ())) := by
  refine fn_ok (Γ := [(246, .reads [aHalf] [aHalf] (fun _ => True) fun (a, _) => (a, ()))]) prgOk (gcons h_laws_toHalf gnil) Tryz.func106 rfl rfl rfl rfl ?_
  rintro ty ⟨(a : List DHalf), _⟩ (hp : a.length ≤ 1073741824)
  refine ⟨[(3, { X := Nat, inv := fun i => i ≤ a.length, mu := fun i => a.length - i, vk := [4], ov := fun i => [.a (.c (.leaf (.int (i : Int))))], bk := [], ob := fun i => [], rk := [448], orr := fun i => [⟨.half, a.take i ++ List.replicate (a.length - i) (ETy.half.zero), true, none⟩] })], ?_⟩
  conv => whnf
  refine And.intro (Ob.mk ?_) (And.intro ⟨(0 : Nat), Ob.mk ?_, ?_⟩ (fun (i : Nat) hi => ?_))
  · refine And.intro ?_ (And.intro ?_ rfl) <;> omega
  · exact Nat.zero_le _
  · conv => whnf
    refine Ob.mk ?_
    all_goals (try simp only [allP, side, Ctr.reads, dTag_eta, dRoad_eta, dLetter_eta, dAddr_eta, dSub_eta, dHalf_eta, dPiece_eta, dPolicy_eta, dBucket_eta, dOut_eta, dPieces_eta, dEnd_eta, dKnown_eta, dWorld_eta]); all_goals repeat' (first | with_reducible exact rfl | exact trivial | with_reducible assumption | refine And.intro ?_ ?_ | exact (rfl : (_ : SV) = _) | exact (rfl : (_ : List SC) = _) | (show drawOk _ _ _ = true; exact rfl) | (show ((0 : Nat) : Int) = 0; exact rfl))
    all_goals simp
  have hi : i ≤ a.length := hi
  rcases Nat.lt_or_ge i a.length with hlt | hge
  · obtain ⟨x, hx, hxi, hd⟩ := at_step a i (ETy.half.zero) hlt
    have hw := w64_succ hlt hp
    have hf := fill_step a (ETy.half.zero) i x hxi
    repeat' ((conv => whnf); first | refine toOb2 ?_ | refine And.intro (fun _ => ?_) (fun _ => ?_) | refine And.intro ?_ ?_ | refine toEx2 ?_ | refine toY ?_ | intro _)
    all_goals try (exfalso; exact Nat.lt_irrefl _ (Nat.lt_of_lt_of_le hlt (ge_of_dec (by assumption))))
    all_goals try subst_vars
    all_goals first | refine Ob2.mk ?_ | refine Ex2.of (i + 1) ?_ ?_ | skip
    all_goals try ((conv => whnf); refine Ob.mk ?_)
    all_goals (try simp only [allP, side, Ctr.reads, dTag_eta, dRoad_eta, dLetter_eta, dAddr_eta, dSub_eta, dHalf_eta, dPiece_eta, dPolicy_eta, dBucket_eta, dOut_eta, dPieces_eta, dEnd_eta, dKnown_eta, dWorld_eta]); all_goals repeat' (first | with_reducible exact rfl | exact trivial | with_reducible assumption | refine And.intro ?_ ?_ | exact (rfl : (_ : SV) = _) | exact (rfl : (_ : List SC) = _) | (show drawOk _ _ _ = true; exact rfl) | (show ((0 : Nat) : Int) = 0; exact rfl))
    all_goals (try simp only [Ctr.reads, dTag_eta, dRoad_eta, dLetter_eta, dAddr_eta, dSub_eta, dHalf_eta, dPiece_eta, dPolicy_eta, dBucket_eta, dOut_eta, dPieces_eta, dEnd_eta, dKnown_eta, dWorld_eta] at *)
    all_goals first | done | exact hf.symm | exact hf | (exact hw.symm) | (simp; omega) | omega
  · have hl : i = a.length := by omega
    subst hl
    repeat' ((conv => whnf); first | refine toOb2 ?_ | refine And.intro (fun _ => ?_) (fun _ => ?_) | refine And.intro ?_ ?_ | refine toEx2 ?_ | refine toY ?_ | intro _)
    all_goals try (exfalso; exact Nat.lt_irrefl _ (Nat.lt_of_lt_of_le (lt_of_dec (by assumption)) hge))
    all_goals first | refine Ob2.mk ?_ | refine Ex2.of (a.length) ?_ ?_ | skip
    all_goals try ((conv => whnf); refine Ob.mk ?_)
    all_goals (try simp only [allP, side, Ctr.reads, dTag_eta, dRoad_eta, dLetter_eta, dAddr_eta, dSub_eta, dHalf_eta, dPiece_eta, dPolicy_eta, dBucket_eta, dOut_eta, dPieces_eta, dEnd_eta, dKnown_eta, dWorld_eta]); all_goals repeat' (first | with_reducible exact rfl | exact trivial | with_reducible assumption | refine And.intro ?_ ?_ | exact (rfl : (_ : SV) = _) | exact (rfl : (_ : List SC) = _) | (show drawOk _ _ _ = true; exact rfl) | (show ((0 : Nat) : Int) = 0; exact rfl))
    all_goals (try simp only [Ctr.reads, dTag_eta, dRoad_eta, dLetter_eta, dAddr_eta, dSub_eta, dHalf_eta, dPiece_eta, dPolicy_eta, dBucket_eta, dOut_eta, dPieces_eta, dEnd_eta, dKnown_eta, dWorld_eta] at *)
    all_goals simp
set_option maxHeartbeats 1000000 in
theorem h_laws_toBucket : Ctr.holds E 107 (.reads [aBucket] [aBucket] (fun _ => True) fun (a, _) => (a, ())) := by
  refine fn_ok (Γ := []) prgOk gnil Tryz.func107 rfl rfl rfl rfl ?_
  rintro ty ⟨a, _⟩ hp
  refine ⟨[], ?_⟩
  repeat' ((conv => whnf); first | refine toOb2 ?_ | refine And.intro (fun _ => ?_) (fun _ => ?_) | refine And.intro ?_ ?_ | refine toEx2 ?_ | intro _)
  all_goals first | exact Ob2.mk trivial | exact Ob2.mk rfl
set_option maxHeartbeats 1000000 in
theorem h_laws_toOut : Ctr.holds E 108 (.reads [aOut] [aOut] (fun _ => True) fun (a, _) => (a, ())) := by
  refine fn_ok (Γ := []) prgOk gnil Tryz.func108 rfl rfl rfl rfl ?_
  rintro ty ⟨a, _⟩ hp
  refine ⟨[], ?_⟩
  repeat' ((conv => whnf); first | refine toOb2 ?_ | refine And.intro (fun _ => ?_) (fun _ => ?_) | refine And.intro ?_ ?_ | refine toEx2 ?_ | intro _)
  all_goals first | exact Ob2.mk trivial | exact Ob2.mk rfl
set_option maxHeartbeats 1000000 in
theorem h_laws_toPiece : Ctr.holds E 293 (.reads [aPiece] [aPiece] (fun _ => True) fun (a, _) => (a, ())) := by
  refine fn_ok (Γ := []) prgOk gnil Tryz.func293 rfl rfl rfl rfl ?_
  rintro ty ⟨a, _⟩ hp
  refine ⟨[], ?_⟩
  repeat' ((conv => whnf); first | refine toOb2 ?_ | refine And.intro (fun _ => ?_) (fun _ => ?_) | refine And.intro ?_ ?_ | refine toEx2 ?_ | intro _)
  all_goals first | exact Ob2.mk trivial | exact Ob2.mk rfl
set_option maxHeartbeats 1000000 in
theorem h_laws_toPieceS : Ctr.holds E 247 (.reads [aRow .piece] [aRow .piece] (fun (a, _) => a.length ≤ 1073741824) fun (a, _) => (a, ())) := by
  refine fn_ok (Γ := [(293, .reads [aPiece] [aPiece] (fun _ => True) fun (a, _) => (a, ()))]) prgOk (gcons h_laws_toPiece gnil) Tryz.func247 rfl rfl rfl rfl ?_
  rintro ty ⟨(a : List DPiece), _⟩ (hp : a.length ≤ 1073741824)
  refine ⟨[(3, { X := Nat, inv := fun i => i ≤ a.length, mu := fun i => a.length - i, vk := [4], ov := fun i => [.a (.c (.leaf (.int (i : Int))))], bk := [], ob := fun i => [], rk := [448], orr := fun i => [⟨.piece, a.take i ++ List.replicate (a.length - i) (ETy.piece.zero), true, none⟩] })], ?_⟩
  conv => whnf
  refine And.intro (Ob.mk ?_) (And.intro ⟨(0 : Nat), Ob.mk ?_, ?_⟩ (fun (i : Nat) hi => ?_))
  · refine And.intro ?_ (And.intro ?_ rfl) <;> omega
  · exact Nat.zero_le _
  · conv => whnf
    refine Ob.mk ?_
    all_goals (try simp only [allP, side, Ctr.reads, dTag_eta, dRoad_eta, dLetter_eta, dAddr_eta, dSub_eta, dHalf_eta, dPiece_eta, dPolicy_eta, dBucket_eta, dOut_eta, dPieces_eta, dEnd_eta, dKnown_eta, dWorld_eta]); all_goals repeat' (first | with_reducible exact rfl | exact trivial | with_reducible assumption | refine And.intro ?_ ?_ | exact (rfl : (_ : SV) = _) | exact (rfl : (_ : List SC) = _) | (show drawOk _ _ _ = true; exact rfl) | (show ((0 : Nat) : Int) = 0; exact rfl))
    all_goals simp
  have hi : i ≤ a.length := hi
  rcases Nat.lt_or_ge i a.length with hlt | hge
  · obtain ⟨x, hx, hxi, hd⟩ := at_step a i (ETy.piece.zero) hlt
    have hw := w64_succ hlt hp
    have hf := fill_step a (ETy.piece.zero) i x hxi
    repeat' ((conv => whnf); first | refine toOb2 ?_ | refine And.intro (fun _ => ?_) (fun _ => ?_) | refine And.intro ?_ ?_ | refine toEx2 ?_ | refine toY ?_ | intro _)
    all_goals try (exfalso; exact Nat.lt_irrefl _ (Nat.lt_of_lt_of_le hlt (ge_of_dec (by assumption))))
    all_goals try subst_vars
    all_goals first | refine Ob2.mk ?_ | refine Ex2.of (i + 1) ?_ ?_ | skip
    all_goals try ((conv => whnf); refine Ob.mk ?_)
    all_goals (try simp only [allP, side, Ctr.reads, dTag_eta, dRoad_eta, dLetter_eta, dAddr_eta, dSub_eta, dHalf_eta, dPiece_eta, dPolicy_eta, dBucket_eta, dOut_eta, dPieces_eta, dEnd_eta, dKnown_eta, dWorld_eta]); all_goals repeat' (first | with_reducible exact rfl | exact trivial | with_reducible assumption | refine And.intro ?_ ?_ | exact (rfl : (_ : SV) = _) | exact (rfl : (_ : List SC) = _) | (show drawOk _ _ _ = true; exact rfl) | (show ((0 : Nat) : Int) = 0; exact rfl))
    all_goals (try simp only [Ctr.reads, dTag_eta, dRoad_eta, dLetter_eta, dAddr_eta, dSub_eta, dHalf_eta, dPiece_eta, dPolicy_eta, dBucket_eta, dOut_eta, dPieces_eta, dEnd_eta, dKnown_eta, dWorld_eta] at *)
    all_goals first | done | exact hf.symm | exact hf | (exact hw.symm) | (simp; omega) | omega
  · have hl : i = a.length := by omega
    subst hl
    repeat' ((conv => whnf); first | refine toOb2 ?_ | refine And.intro (fun _ => ?_) (fun _ => ?_) | refine And.intro ?_ ?_ | refine toEx2 ?_ | refine toY ?_ | intro _)
    all_goals try (exfalso; exact Nat.lt_irrefl _ (Nat.lt_of_lt_of_le (lt_of_dec (by assumption)) hge))
    all_goals first | refine Ob2.mk ?_ | refine Ex2.of (a.length) ?_ ?_ | skip
    all_goals try ((conv => whnf); refine Ob.mk ?_)
    all_goals (try simp only [allP, side, Ctr.reads, dTag_eta, dRoad_eta, dLetter_eta, dAddr_eta, dSub_eta, dHalf_eta, dPiece_eta, dPolicy_eta, dBucket_eta, dOut_eta, dPieces_eta, dEnd_eta, dKnown_eta, dWorld_eta]); all_goals repeat' (first | with_reducible exact rfl | exact trivial | with_reducible assumption | refine And.intro ?_ ?_ | exact (rfl : (_ : SV) = _) | exact (rfl : (_ : List SC) = _) | (show drawOk _ _ _ = true; exact rfl) | (show ((0 : Nat) : Int) = 0; exact rfl))
    all_goals (try simp only [Ctr.reads, dTag_eta, dRoad_eta, dLetter_eta, dAddr_eta, dSub_eta, dHalf_eta, dPiece_eta, dPolicy_eta, dBucket_eta, dOut_eta, dPieces_eta, dEnd_eta, dKnown_eta, dWorld_eta] at *)
    all_goals simp
set_option maxHeartbeats 1000000 in
theorem h_laws_toPieces : Ctr.holds E 109 (.reads [aPieces] [aPieces] (fun ((p : DPieces), _) => p.list.length ≤ 1073741824) fun (a, _) => (a, ())) := by
  refine fn_ok (Γ := [(247, .reads [aRow .piece] [aRow .piece] (fun (a, _) => a.length ≤ 1073741824) fun (a, _) => (a, ()))]) prgOk (gcons h_laws_toPieceS gnil) Tryz.func109 rfl rfl rfl rfl ?_
  rintro ty ⟨(p : DPieces), _⟩ (hp : p.list.length ≤ 1073741824)
  refine ⟨[], ?_⟩
  repeat' ((conv => whnf); first | refine toOb2 ?_ | refine And.intro (fun _ => ?_) (fun _ => ?_) | refine And.intro ?_ ?_ | refine toEx2 ?_ | refine toY ?_ | intro _)
  all_goals first | exact Ob2.mk trivial | exact Ob2.mk hp | exact Ob2.mk rfl
set_option maxHeartbeats 1000000 in
theorem h_laws_toIntS : Ctr.holds E 110 (.reads [aRow .int] [aRow .int] (fun (a, _) => a.length ≤ 1073741824) fun (a, _) => (a, ())) := by
  refine fn_ok (Γ := []) prgOk gnil Tryz.func110 rfl rfl rfl rfl ?_
  rintro ty ⟨(a : List Int), _⟩ (hp : a.length ≤ 1073741824)
  refine ⟨[(3, { X := Nat, inv := fun i => i ≤ a.length, mu := fun i => a.length - i, vk := [4], ov := fun i => [.a (.c (.leaf (.int (i : Int))))], bk := [], ob := fun i => [], rk := [448], orr := fun i => [⟨.int, a.take i ++ List.replicate (a.length - i) (ETy.int.zero), true, none⟩] })], ?_⟩
  conv => whnf
  refine And.intro (Ob.mk ?_) (And.intro ⟨(0 : Nat), Ob.mk ?_, ?_⟩ (fun (i : Nat) hi => ?_))
  · refine And.intro ?_ (And.intro ?_ rfl) <;> omega
  · exact Nat.zero_le _
  · conv => whnf
    refine Ob.mk ?_
    all_goals (try simp only [allP, side, Ctr.reads, dTag_eta, dRoad_eta, dLetter_eta, dAddr_eta, dSub_eta, dHalf_eta, dPiece_eta, dPolicy_eta, dBucket_eta, dOut_eta, dPieces_eta, dEnd_eta, dKnown_eta, dWorld_eta]); all_goals repeat' (first | with_reducible exact rfl | exact trivial | with_reducible assumption | refine And.intro ?_ ?_ | exact (rfl : (_ : SV) = _) | exact (rfl : (_ : List SC) = _) | (show drawOk _ _ _ = true; exact rfl) | (show ((0 : Nat) : Int) = 0; exact rfl))
    all_goals simp
  have hi : i ≤ a.length := hi
  rcases Nat.lt_or_ge i a.length with hlt | hge
  · obtain ⟨x, hx, hxi, hd⟩ := at_step a i (ETy.int.zero) hlt
    have hw := w64_succ hlt hp
    have hf := fill_step a (ETy.int.zero) i x hxi
    repeat' ((conv => whnf); first | refine toOb2 ?_ | refine And.intro (fun _ => ?_) (fun _ => ?_) | refine And.intro ?_ ?_ | refine toEx2 ?_ | intro _)
    all_goals try (exfalso; exact Nat.lt_irrefl _ (Nat.lt_of_lt_of_le hlt (ge_of_dec (by assumption))))
    all_goals try subst_vars
    all_goals first | refine Ob2.mk ?_ | refine Ex2.of (i + 1) ?_ ?_ | skip
    all_goals try ((conv => whnf); refine Ob.mk ?_)
    all_goals (try simp only [allP, side, Ctr.reads, dTag_eta, dRoad_eta, dLetter_eta, dAddr_eta, dSub_eta, dHalf_eta, dPiece_eta, dPolicy_eta, dBucket_eta, dOut_eta, dPieces_eta, dEnd_eta, dKnown_eta, dWorld_eta]); all_goals repeat' (first | with_reducible exact rfl | exact trivial | with_reducible assumption | refine And.intro ?_ ?_ | exact (rfl : (_ : SV) = _) | exact (rfl : (_ : List SC) = _) | (show drawOk _ _ _ = true; exact rfl) | (show ((0 : Nat) : Int) = 0; exact rfl))
    all_goals (try simp only [Ctr.reads, dTag_eta, dRoad_eta, dLetter_eta, dAddr_eta, dSub_eta, dHalf_eta, dPiece_eta, dPolicy_eta, dBucket_eta, dOut_eta, dPieces_eta, dEnd_eta, dKnown_eta, dWorld_eta] at *)
    all_goals first | done | exact hf.symm | exact hf | (exact hw.symm) | (simp; omega) | omega
  · have hl : i = a.length := by omega
    subst hl
    repeat' ((conv => whnf); first | refine toOb2 ?_ | refine And.intro (fun _ => ?_) (fun _ => ?_) | refine And.intro ?_ ?_ | refine toEx2 ?_ | intro _)
    all_goals try (exfalso; exact Nat.lt_irrefl _ (Nat.lt_of_lt_of_le (lt_of_dec (by assumption)) hge))
    all_goals first | refine Ob2.mk ?_ | refine Ex2.of (a.length) ?_ ?_ | skip
    all_goals try ((conv => whnf); refine Ob.mk ?_)
    all_goals (try simp only [allP, side, Ctr.reads, dTag_eta, dRoad_eta, dLetter_eta, dAddr_eta, dSub_eta, dHalf_eta, dPiece_eta, dPolicy_eta, dBucket_eta, dOut_eta, dPieces_eta, dEnd_eta, dKnown_eta, dWorld_eta]); all_goals repeat' (first | with_reducible exact rfl | exact trivial | with_reducible assumption | refine And.intro ?_ ?_ | exact (rfl : (_ : SV) = _) | exact (rfl : (_ : List SC) = _) | (show drawOk _ _ _ = true; exact rfl) | (show ((0 : Nat) : Int) = 0; exact rfl))
    all_goals (try simp only [Ctr.reads, dTag_eta, dRoad_eta, dLetter_eta, dAddr_eta, dSub_eta, dHalf_eta, dPiece_eta, dPolicy_eta, dBucket_eta, dOut_eta, dPieces_eta, dEnd_eta, dKnown_eta, dWorld_eta] at *)
    all_goals simp
set_option maxHeartbeats 1000000 in
theorem h_laws_toEnd : Ctr.holds E 30 (.reads [aEnd] [aEnd] (fun ((e : DEnd), _) => e.B) fun (a, _) => (a, ())) := by
  refine fn_ok (Γ := [(75, .reads [aPolicy] [aPolicy] (fun _ => True) fun (a, _) => (a, ())), (104, .reads [aRow .addr] [aRow .addr] (fun (a, _) => a.length ≤ 1073741824) fun (a, _) => (a, ())), (105, .reads [aRow .sub] [aRow .sub] (fun (a, _) => a.length ≤ 1073741824) fun (a, _) => (a, ())), (106, .reads [aRow .half] [aRow .half] (fun (a, _) => a.length ≤ 1073741824) fun (a, _) => (a, ())), (107, .reads [aBucket] [aBucket] (fun _ => True) fun (a, _) => (a, ())), (108, .reads [aOut] [aOut] (fun _ => True) fun (a, _) => (a, ())), (109, .reads [aPieces] [aPieces] (fun ((p : DPieces), _) => p.list.length ≤ 1073741824) fun (a, _) => (a, ())), (110, .reads [aRow .int] [aRow .int] (fun (a, _) => a.length ≤ 1073741824) fun (a, _) => (a, ()))]) prgOk (gcons h_laws_toPolicy (gcons h_laws_toAddrS (gcons h_laws_toSubS (gcons h_laws_toHalfS (gcons h_laws_toBucket (gcons h_laws_toOut (gcons h_laws_toPieces (gcons h_laws_toIntS gnil)))))))) Tryz.func30 rfl rfl rfl rfl ?_
  rintro ty ⟨(e : DEnd), _⟩ (hp : e.B)
  obtain ⟨hb1, hb2, hb3, hb4, hb5, hb6, hb7⟩ := hp
  refine ⟨[], ?_⟩
  repeat' ((conv => whnf); first | refine toOb2 ?_ | refine And.intro (fun _ => ?_) (fun _ => ?_) | refine And.intro ?_ ?_ | refine toEx2 ?_ | refine toY ?_ | intro _)
  all_goals refine Ob2.mk ?_
  all_goals first | exact trivial | assumption | exact rfl
set_option maxHeartbeats 1000000 in
theorem h_laws_toTag : Ctr.holds E 111 (.reads [aTag] [aTag] (fun _ => True) fun (a, _) => (a, ())) := by
  refine fn_ok (Γ := []) prgOk gnil Tryz.func111 rfl rfl rfl rfl ?_
  rintro ty ⟨a, _⟩ hp
  refine ⟨[], ?_⟩
  repeat' ((conv => whnf); first | refine toOb2 ?_ | refine And.intro (fun _ => ?_) (fun _ => ?_) | refine And.intro ?_ ?_ | refine toEx2 ?_ | intro _)
  all_goals first | exact Ob2.mk trivial | exact Ob2.mk rfl
set_option maxHeartbeats 1000000 in
theorem h_laws_toLetter : Ctr.holds E 31 (.reads [aLetter] [aLetter] (fun _ => True) fun (a, _) => (a, ())) := by
  refine fn_ok (Γ := [(111, .reads [aTag] [aTag] (fun _ => True) fun (a, _) => (a, ()))]) prgOk (gcons h_laws_toTag gnil) Tryz.func31 rfl rfl rfl rfl ?_
  rintro ty ⟨a, _⟩ hp
  refine ⟨[], ?_⟩
  repeat' ((conv => whnf); first | refine toOb2 ?_ | refine And.intro (fun _ => ?_) (fun _ => ?_) | refine And.intro ?_ ?_ | refine toEx2 ?_ | refine toY ?_ | intro _)
  all_goals first | exact Ob2.mk trivial | exact Ob2.mk rfl
set_option maxHeartbeats 1000000 in
theorem h_laws_toLetterS : Ctr.holds E 88 (.reads [aRow .letter] [aRow .letter] (fun (a, _) => a.length ≤ 1073741824) fun (a, _) => (a, ())) := by
  refine fn_ok (Γ := [(31, .reads [aLetter] [aLetter] (fun _ => True) fun (a, _) => (a, ()))]) prgOk (gcons h_laws_toLetter gnil) Tryz.func88 rfl rfl rfl rfl ?_
  rintro ty ⟨(a : List DLetter), _⟩ (hp : a.length ≤ 1073741824)
  refine ⟨[(3, { X := Nat, inv := fun i => i ≤ a.length, mu := fun i => a.length - i, vk := [4], ov := fun i => [.a (.c (.leaf (.int (i : Int))))], bk := [], ob := fun i => [], rk := [448], orr := fun i => [⟨.letter, a.take i ++ List.replicate (a.length - i) (ETy.letter.zero), true, none⟩] })], ?_⟩
  conv => whnf
  refine And.intro (Ob.mk ?_) (And.intro ⟨(0 : Nat), Ob.mk ?_, ?_⟩ (fun (i : Nat) hi => ?_))
  · refine And.intro ?_ (And.intro ?_ rfl) <;> omega
  · exact Nat.zero_le _
  · conv => whnf
    refine Ob.mk ?_
    all_goals (try simp only [allP, side, Ctr.reads, dTag_eta, dRoad_eta, dLetter_eta, dAddr_eta, dSub_eta, dHalf_eta, dPiece_eta, dPolicy_eta, dBucket_eta, dOut_eta, dPieces_eta, dEnd_eta, dKnown_eta, dWorld_eta]); all_goals repeat' (first | with_reducible exact rfl | exact trivial | with_reducible assumption | refine And.intro ?_ ?_ | exact (rfl : (_ : SV) = _) | exact (rfl : (_ : List SC) = _) | (show drawOk _ _ _ = true; exact rfl) | (show ((0 : Nat) : Int) = 0; exact rfl))
    all_goals simp
  have hi : i ≤ a.length := hi
  rcases Nat.lt_or_ge i a.length with hlt | hge
  · obtain ⟨x, hx, hxi, hd⟩ := at_step a i (ETy.letter.zero) hlt
    have hw := w64_succ hlt hp
    have hf := fill_step a (ETy.letter.zero) i x hxi
    repeat' ((conv => whnf); first | refine toOb2 ?_ | refine And.intro (fun _ => ?_) (fun _ => ?_) | refine And.intro ?_ ?_ | refine toEx2 ?_ | refine toY ?_ | intro _)
    all_goals try (exfalso; exact Nat.lt_irrefl _ (Nat.lt_of_lt_of_le hlt (ge_of_dec (by assumption))))
    all_goals try subst_vars
    all_goals first | refine Ob2.mk ?_ | refine Ex2.of (i + 1) ?_ ?_ | skip
    all_goals try ((conv => whnf); refine Ob.mk ?_)
    all_goals (try simp only [allP, side, Ctr.reads, dTag_eta, dRoad_eta, dLetter_eta, dAddr_eta, dSub_eta, dHalf_eta, dPiece_eta, dPolicy_eta, dBucket_eta, dOut_eta, dPieces_eta, dEnd_eta, dKnown_eta, dWorld_eta]); all_goals repeat' (first | with_reducible exact rfl | exact trivial | with_reducible assumption | refine And.intro ?_ ?_ | exact (rfl : (_ : SV) = _) | exact (rfl : (_ : List SC) = _) | (show drawOk _ _ _ = true; exact rfl) | (show ((0 : Nat) : Int) = 0; exact rfl))
    all_goals (try simp only [Ctr.reads, dTag_eta, dRoad_eta, dLetter_eta, dAddr_eta, dSub_eta, dHalf_eta, dPiece_eta, dPolicy_eta, dBucket_eta, dOut_eta, dPieces_eta, dEnd_eta, dKnown_eta, dWorld_eta] at *)
    all_goals first | done | exact hf.symm | exact hf | (exact hw.symm) | (simp; omega) | omega
  · have hl : i = a.length := by omega
    subst hl
    repeat' ((conv => whnf); first | refine toOb2 ?_ | refine And.intro (fun _ => ?_) (fun _ => ?_) | refine And.intro ?_ ?_ | refine toEx2 ?_ | refine toY ?_ | intro _)
    all_goals try (exfalso; exact Nat.lt_irrefl _ (Nat.lt_of_lt_of_le (lt_of_dec (by assumption)) hge))
    all_goals first | refine Ob2.mk ?_ | refine Ex2.of (a.length) ?_ ?_ | skip
    all_goals try ((conv => whnf); refine Ob.mk ?_)
    all_goals (try simp only [allP, side, Ctr.reads, dTag_eta, dRoad_eta, dLetter_eta, dAddr_eta, dSub_eta, dHalf_eta, dPiece_eta, dPolicy_eta, dBucket_eta, dOut_eta, dPieces_eta, dEnd_eta, dKnown_eta, dWorld_eta]); all_goals repeat' (first | with_reducible exact rfl | exact trivial | with_reducible assumption | refine And.intro ?_ ?_ | exact (rfl : (_ : SV) = _) | exact (rfl : (_ : List SC) = _) | (show drawOk _ _ _ = true; exact rfl) | (show ((0 : Nat) : Int) = 0; exact rfl))
    all_goals (try simp only [Ctr.reads, dTag_eta, dRoad_eta, dLetter_eta, dAddr_eta, dSub_eta, dHalf_eta, dPiece_eta, dPolicy_eta, dBucket_eta, dOut_eta, dPieces_eta, dEnd_eta, dKnown_eta, dWorld_eta] at *)
    all_goals simp
set_option maxHeartbeats 1000000 in
theorem h_laws_toTagS : Ctr.holds E 281 (.reads [aRow .tag] [aRow .tag] (fun (a, _) => a.length ≤ 1073741824) fun (a, _) => (a, ())) := by
  refine fn_ok (Γ := [(111, .reads [aTag] [aTag] (fun _ => True) fun (a, _) => (a, ()))]) prgOk (gcons h_laws_toTag gnil) Tryz.func281 rfl rfl rfl rfl ?_
  rintro ty ⟨(a : List DTag), _⟩ (hp : a.length ≤ 1073741824)
  refine ⟨[(3, { X := Nat, inv := fun i => i ≤ a.length, mu := fun i => a.length - i, vk := [4], ov := fun i => [.a (.c (.leaf (.int (i : Int))))], bk := [], ob := fun i => [], rk := [448], orr := fun i => [⟨.tag, a.take i ++ List.replicate (a.length - i) (ETy.tag.zero), true, none⟩] })], ?_⟩
  conv => whnf
  refine And.intro (Ob.mk ?_) (And.intro ⟨(0 : Nat), Ob.mk ?_, ?_⟩ (fun (i : Nat) hi => ?_))
  · refine And.intro ?_ (And.intro ?_ rfl) <;> omega
  · exact Nat.zero_le _
  · conv => whnf
    refine Ob.mk ?_
    all_goals (try simp only [allP, side, Ctr.reads, dTag_eta, dRoad_eta, dLetter_eta, dAddr_eta, dSub_eta, dHalf_eta, dPiece_eta, dPolicy_eta, dBucket_eta, dOut_eta, dPieces_eta, dEnd_eta, dKnown_eta, dWorld_eta]); all_goals repeat' (first | with_reducible exact rfl | exact trivial | with_reducible assumption | refine And.intro ?_ ?_ | exact (rfl : (_ : SV) = _) | exact (rfl : (_ : List SC) = _) | (show drawOk _ _ _ = true; exact rfl) | (show ((0 : Nat) : Int) = 0; exact rfl))
    all_goals simp
  have hi : i ≤ a.length := hi
  rcases Nat.lt_or_ge i a.length with hlt | hge
  · obtain ⟨x, hx, hxi, hd⟩ := at_step a i (ETy.tag.zero) hlt
    have hw := w64_succ hlt hp
    have hf := fill_step a (ETy.tag.zero) i x hxi
    repeat' ((conv => whnf); first | refine toOb2 ?_ | refine And.intro (fun _ => ?_) (fun _ => ?_) | refine And.intro ?_ ?_ | refine toEx2 ?_ | refine toY ?_ | intro _)
    all_goals try (exfalso; exact Nat.lt_irrefl _ (Nat.lt_of_lt_of_le hlt (ge_of_dec (by assumption))))
    all_goals try subst_vars
    all_goals first | refine Ob2.mk ?_ | refine Ex2.of (i + 1) ?_ ?_ | skip
    all_goals try ((conv => whnf); refine Ob.mk ?_)
    all_goals (try simp only [allP, side, Ctr.reads, dTag_eta, dRoad_eta, dLetter_eta, dAddr_eta, dSub_eta, dHalf_eta, dPiece_eta, dPolicy_eta, dBucket_eta, dOut_eta, dPieces_eta, dEnd_eta, dKnown_eta, dWorld_eta]); all_goals repeat' (first | with_reducible exact rfl | exact trivial | with_reducible assumption | refine And.intro ?_ ?_ | exact (rfl : (_ : SV) = _) | exact (rfl : (_ : List SC) = _) | (show drawOk _ _ _ = true; exact rfl) | (show ((0 : Nat) : Int) = 0; exact rfl))
    all_goals (try simp only [Ctr.reads, dTag_eta, dRoad_eta, dLetter_eta, dAddr_eta, dSub_eta, dHalf_eta, dPiece_eta, dPolicy_eta, dBucket_eta, dOut_eta, dPieces_eta, dEnd_eta, dKnown_eta, dWorld_eta] at *)
    all_goals first | done | exact hf.symm | exact hf | (exact hw.symm) | (simp; omega) | omega
  · have hl : i = a.length := by omega
    subst hl
    repeat' ((conv => whnf); first | refine toOb2 ?_ | refine And.intro (fun _ => ?_) (fun _ => ?_) | refine And.intro ?_ ?_ | refine toEx2 ?_ | refine toY ?_ | intro _)
    all_goals try (exfalso; exact Nat.lt_irrefl _ (Nat.lt_of_lt_of_le (lt_of_dec (by assumption)) hge))
    all_goals first | refine Ob2.mk ?_ | refine Ex2.of (a.length) ?_ ?_ | skip
    all_goals try ((conv => whnf); refine Ob.mk ?_)
    all_goals (try simp only [allP, side, Ctr.reads, dTag_eta, dRoad_eta, dLetter_eta, dAddr_eta, dSub_eta, dHalf_eta, dPiece_eta, dPolicy_eta, dBucket_eta, dOut_eta, dPieces_eta, dEnd_eta, dKnown_eta, dWorld_eta]); all_goals repeat' (first | with_reducible exact rfl | exact trivial | with_reducible assumption | refine And.intro ?_ ?_ | exact (rfl : (_ : SV) = _) | exact (rfl : (_ : List SC) = _) | (show drawOk _ _ _ = true; exact rfl) | (show ((0 : Nat) : Int) = 0; exact rfl))
    all_goals (try simp only [Ctr.reads, dTag_eta, dRoad_eta, dLetter_eta, dAddr_eta, dSub_eta, dHalf_eta, dPiece_eta, dPolicy_eta, dBucket_eta, dOut_eta, dPieces_eta, dEnd_eta, dKnown_eta, dWorld_eta] at *)
    all_goals simp
set_option maxHeartbeats 1000000 in
theorem h_laws_toKnown : Ctr.holds E 217 (.reads [aKnown] [aKnown] (fun ((x : DKnown), _) => x.B) fun (x, _) => (x, ())) := by
  refine fn_ok (Γ := [(110, .reads [aRow .int] [aRow .int] (fun (a, _) => a.length ≤ 1073741824) fun (a, _) => (a, ())), (281, .reads [aRow .tag] [aRow .tag] (fun (a, _) => a.length ≤ 1073741824) fun (a, _) => (a, ()))]) prgOk (gcons h_laws_toIntS (gcons h_laws_toTagS gnil)) Tryz.func217 rfl rfl rfl rfl ?_
  rintro ty ⟨(x : DKnown), _⟩ (hp : x.B)
  obtain ⟨h1, h2⟩ := id hp
  refine ⟨[], ?_⟩
  repeat' ((conv => whnf); first | refine toOb2 ?_ | refine And.intro (fun _ => ?_) (fun _ => ?_) | refine And.intro ?_ ?_ | refine toEx2 ?_ | refine toY ?_ | intro _)
  all_goals first | exact Ob2.mk trivial | exact Ob2.mk h1 | exact Ob2.mk h2 | exact Ob2.mk rfl
set_option maxHeartbeats 1000000 in
theorem h_laws_toWorld : Ctr.holds E 87 (.reads [aWorld] [aWorld] (fun ((w : DWorld), _) => w.B) fun (w, _) => (w, ())) := by
  refine fn_ok (Γ := [(30, .reads [aEnd] [aEnd] (fun ((e : DEnd), _) => e.B) fun (a, _) => (a, ())), (88, .reads [aRow .letter] [aRow .letter] (fun (a, _) => a.length ≤ 1073741824) fun (a, _) => (a, ())), (217, .reads [aKnown] [aKnown] (fun ((x : DKnown), _) => x.B) fun (x, _) => (x, ())), (110, .reads [aRow .int] [aRow .int] (fun (a, _) => a.length ≤ 1073741824) fun (a, _) => (a, ()))]) prgOk (gcons h_laws_toEnd (gcons h_laws_toLetterS (gcons h_laws_toKnown (gcons h_laws_toIntS gnil)))) Tryz.func87 rfl rfl rfl rfl ?_
  rintro ty ⟨(w : DWorld), _⟩ (hp : w.B)
  obtain ⟨h1, h2, h3, h4, h5, h6, h7, h8, h9⟩ := id hp
  have h56 : w.known.B := ⟨h5, h6⟩
  refine ⟨[], ?_⟩
  repeat' ((conv => whnf); first | refine toOb2 ?_ | (refine And.intro (fun h => ?_) (fun h => ?_) <;> (try simp only [Ctr.reads, beq_self_eq_true, bne_self_eq_false, reduceCtorEq, decide_true, decide_false, Bool.not_true, Bool.and_true, Bool.or_false, Bool.cond_true_left, Bool.cond_false_right, hd_letters, mkL_length, sq_pos, Int.reduceLT, mkEnd_re, hd_mk1, lt0_1, lt0_2, lt0_3, ne_eq, bne_self_eq_false, or_false, false_or, allP, side, decide_eq_true_eq, decide_eq_false_iff_not, not_false_eq_true, not_true_eq_false, Bool.not_true, Bool.not_false, Bool.not_eq_true', Bool.not_eq_false', Bool.not_eq_eq_eq_not, dTag_eta, dRoad_eta, dLetter_eta, dAddr_eta, dSub_eta, dHalf_eta, dPiece_eta, dPolicy_eta, dBucket_eta, dOut_eta, dPieces_eta, dEnd_eta, dKnown_eta, dWorld_eta] at h) <;> (try with_reducible contradiction)) | refine And.intro ?_ ?_ | refine toEx2 ?_ | (refine fun y hy => ?_; (try simp only [Ctr.reads, beq_self_eq_true, bne_self_eq_false, reduceCtorEq, decide_true, decide_false, Bool.not_true, Bool.and_true, Bool.or_false, Bool.cond_true_left, Bool.cond_false_right, hd_letters, mkL_length, sq_pos, Int.reduceLT, mkEnd_re, hd_mk1, lt0_1, lt0_2, lt0_3, ne_eq, bne_self_eq_false, or_false, false_or, allP, side, decide_eq_true_eq, decide_eq_false_iff_not, not_false_eq_true, not_true_eq_false, Bool.not_true, Bool.not_false, Bool.not_eq_true', Bool.not_eq_false', Bool.not_eq_eq_eq_not, dTag_eta, dRoad_eta, dLetter_eta, dAddr_eta, dSub_eta, dHalf_eta, dPiece_eta, dPolicy_eta, dBucket_eta, dOut_eta, dPieces_eta, dEnd_eta, dKnown_eta, dWorld_eta] at hy); subst hy) | intro _)
  all_goals first | refine Ob2.mk ?_ | (show drawOk _ _ _ = true; exact rfl)
  all_goals (try simp only [allP, side, Ctr.reads, dTag_eta, dRoad_eta, dLetter_eta, dAddr_eta, dSub_eta, dHalf_eta, dPiece_eta, dPolicy_eta, dBucket_eta, dOut_eta, dPieces_eta, dEnd_eta, dKnown_eta, dWorld_eta])
  all_goals first | done | assumption | trivial | (repeat (first | assumption | exact trivial | refine And.intro ?_ ?_)) | rfl
set_option maxHeartbeats 1000000 in
theorem h_laws_eqPolicy : Ctr.holds E 116 (.reads [aPolicy, aPolicy] [aBool] (fun _ => True) fun ((a : DPolicy), (b : DPolicy), _) => (decide (a = b), ())) := by
  refine fn_ok (Γ := []) prgOk gnil Tryz.func116 rfl rfl rfl rfl ?_
  rintro ty ⟨a, b, _⟩ hp
  refine ⟨[], ?_⟩
  repeat' ((conv => whnf); first | refine toOb2 ?_ | refine And.intro (fun _ => ?_) (fun _ => ?_) | refine And.intro ?_ ?_ | refine toEx2 ?_ | intro _)
  all_goals refine Ob2.mk ?_
  all_goals first | exact trivial | ((try simp only [Ctr.reads, dTag_eta, dRoad_eta, dLetter_eta, dAddr_eta, dSub_eta, dHalf_eta, dPiece_eta, dPolicy_eta, dBucket_eta, dOut_eta, dPieces_eta, dEnd_eta, dKnown_eta, dWorld_eta] at *); rcases a with ⟨⟩; rcases b with ⟨⟩; simp_all [Ctr.reads, aBool])
set_option maxHeartbeats 1000000 in
theorem h_laws_eqAddr : Ctr.holds E 260 (.reads [aAddr, aAddr] [aBool] (fun _ => True) fun ((a : DAddr), (b : DAddr), _) => (decide (a = b), ())) := by
  refine fn_ok (Γ := []) prgOk gnil Tryz.func260 rfl rfl rfl rfl ?_
  rintro ty ⟨a, b, _⟩ hp
  refine ⟨[], ?_⟩
  repeat' ((conv => whnf); first | refine toOb2 ?_ | refine And.intro (fun _ => ?_) (fun _ => ?_) | refine And.intro ?_ ?_ | refine toEx2 ?_ | intro _)
  all_goals refine Ob2.mk ?_
  all_goals first | exact trivial | ((try simp only [Ctr.reads, dTag_eta, dRoad_eta, dLetter_eta, dAddr_eta, dSub_eta, dHalf_eta, dPiece_eta, dPolicy_eta, dBucket_eta, dOut_eta, dPieces_eta, dEnd_eta, dKnown_eta, dWorld_eta] at *); rcases a with ⟨⟩; rcases b with ⟨⟩; simp_all [Ctr.reads, aBool])
set_option maxHeartbeats 1000000 in
theorem h_laws_eqAddrS : Ctr.holds E 117 (.reads [aRow .addr, aRow .addr] [aBool] (fun (a, _) => a.length ≤ 1073741824) fun ((a : List DAddr), (b : List DAddr), _) => (decide (a = b), ())) := by
  refine fn_ok (Γ := [(260, .reads [aAddr, aAddr] [aBool] (fun _ => True) fun ((a : DAddr), (b : DAddr), _) => (decide (a = b), ()))]) prgOk (gcons h_laws_eqAddr gnil) Tryz.func117 rfl rfl rfl rfl ?_
  rintro ty ⟨(a : List DAddr), (b : List DAddr), _⟩ (hp : a.length ≤ 1073741824)
  refine ⟨[(4, { X := Nat, inv := fun i => i ≤ a.length ∧ decide (a.drop i = b.drop i) = decide (a = b), mu := fun i => a.length - i, vk := [5], ov := fun i => [.a (.c (.leaf (.int (i : Int))))], bk := [], ob := fun i => [], rk := [], orr := fun i => [] })], ?_⟩
  conv => whnf
  refine And.intro (fun hn => ?_) (fun hn => ?_)
  · repeat' ((conv => whnf); first | refine toOb2 ?_ | refine And.intro (fun _ => ?_) (fun _ => ?_) | refine And.intro ?_ ?_ | refine toEx2 ?_ | refine toY ?_ | intro _)
    all_goals refine Ob2.mk ?_
    have hne : a ≠ b := fun h => by subst h; simp at hn
    show (_, ()) = (_, ())
    simp [hne, aBool]
  have hlen : a.length = b.length := by simp at hn; omega
  conv => whnf
  refine And.intro ⟨(0 : Nat), Ob.mk ?_, ?_⟩ (fun (i : Nat) hi => ?_)
  · exact And.intro (Nat.zero_le _) rfl
  · conv => whnf
    refine Ob.mk ?_
    all_goals (try simp only [allP, side, Ctr.reads, dTag_eta, dRoad_eta, dLetter_eta, dAddr_eta, dSub_eta, dHalf_eta, dPiece_eta, dPolicy_eta, dBucket_eta, dOut_eta, dPieces_eta, dEnd_eta, dKnown_eta, dWorld_eta]); all_goals repeat' (first | with_reducible exact rfl | exact trivial | with_reducible assumption | refine And.intro ?_ ?_ | exact (rfl : (_ : SV) = _) | exact (rfl : (_ : List SC) = _) | (show drawOk _ _ _ = true; exact rfl) | (show ((0 : Nat) : Int) = 0; exact rfl))
  obtain ⟨hi, hm⟩ := hi
  have hi : i ≤ a.length := hi
  have hm : decide (a.drop i = b.drop i) = decide (a = b) := hm
  rcases Nat.lt_or_ge i a.length with hlt | hge
  · obtain ⟨x, hx, hxi, hd⟩ := at_step a i (ETy.addr.zero) hlt
    obtain ⟨y, hy, hyi, hd'⟩ := at_step b i (ETy.addr.zero) (hlen ▸ hlt)
    rw [hd, hd'] at hm
    have hw := w64_succ hlt hp
    repeat' ((conv => whnf); first | refine toOb2 ?_ | refine And.intro (fun _ => ?_) (fun _ => ?_) | refine And.intro ?_ ?_ | refine toEx2 ?_ | refine toY ?_ | intro _)
    all_goals try (exfalso; exact Nat.lt_irrefl _ (Nat.lt_of_lt_of_le hlt (ge_of_dec (by assumption))))
    all_goals first | refine Ob2.mk ?_ | refine Ex2.of (i + 1) ?_ ?_ | skip
    all_goals try ((conv => whnf); refine Ob.mk ?_)
    all_goals (try simp only [allP, side, Ctr.reads, dTag_eta, dRoad_eta, dLetter_eta, dAddr_eta, dSub_eta, dHalf_eta, dPiece_eta, dPolicy_eta, dBucket_eta, dOut_eta, dPieces_eta, dEnd_eta, dKnown_eta, dWorld_eta]); all_goals repeat' (first | with_reducible exact rfl | exact trivial | with_reducible assumption | refine And.intro ?_ ?_ | exact (rfl : (_ : SV) = _) | exact (rfl : (_ : List SC) = _) | (show drawOk _ _ _ = true; exact rfl) | (show ((0 : Nat) : Int) = 0; exact rfl))
    all_goals (try simp only [hx, hy, Ctr.reads, dTag_eta, dRoad_eta, dLetter_eta, dAddr_eta, dSub_eta, dHalf_eta, dPiece_eta, dPolicy_eta, dBucket_eta, dOut_eta, dPieces_eta, dEnd_eta, dKnown_eta, dWorld_eta] at *)
    all_goals first | done | grind
  · have hl : i = a.length := by omega
    subst hl
    have : decide (a = b) = true := by rw [← hm, List.drop_length, hlen, List.drop_length]; rfl
    repeat' ((conv => whnf); first | refine toOb2 ?_ | refine And.intro (fun _ => ?_) (fun _ => ?_) | refine And.intro ?_ ?_ | refine toEx2 ?_ | refine toY ?_ | intro _)
    all_goals try (exfalso; exact Nat.lt_irrefl _ (Nat.lt_of_lt_of_le (lt_of_dec (by assumption)) hge))
    all_goals first | refine Ob2.mk ?_ | refine Ex2.of (a.length) ?_ ?_ | skip
    all_goals try ((conv => whnf); refine Ob.mk ?_)
    all_goals (try simp only [allP, side, Ctr.reads, dTag_eta, dRoad_eta, dLetter_eta, dAddr_eta, dSub_eta, dHalf_eta, dPiece_eta, dPolicy_eta, dBucket_eta, dOut_eta, dPieces_eta, dEnd_eta, dKnown_eta, dWorld_eta]); all_goals repeat' (first | with_reducible exact rfl | exact trivial | with_reducible assumption | refine And.intro ?_ ?_ | exact (rfl : (_ : SV) = _) | exact (rfl : (_ : List SC) = _) | (show drawOk _ _ _ = true; exact rfl) | (show ((0 : Nat) : Int) = 0; exact rfl))
    all_goals (try simp only [this, Ctr.reads, dTag_eta, dRoad_eta, dLetter_eta, dAddr_eta, dSub_eta, dHalf_eta, dPiece_eta, dPolicy_eta, dBucket_eta, dOut_eta, dPieces_eta, dEnd_eta, dKnown_eta, dWorld_eta] at *)
    all_goals first | done | rfl | grind
set_option maxHeartbeats 1000000 in
theorem h_laws_eqRoad : Ctr.holds E 296 (.reads [aRoad, aRoad] [aBool] (fun _ => True) fun ((a : DRoad), (b : DRoad), _) => (decide (a = b), ())) := by
  refine fn_ok (Γ := []) prgOk gnil Tryz.func296 rfl rfl rfl rfl ?_
  rintro ty ⟨a, b, _⟩ hp
  refine ⟨[], ?_⟩
  repeat' ((conv => whnf); first | refine toOb2 ?_ | refine And.intro (fun _ => ?_) (fun _ => ?_) | refine And.intro ?_ ?_ | refine toEx2 ?_ | intro _)
  all_goals refine Ob2.mk ?_
  all_goals first | exact trivial | ((try simp only [Ctr.reads, dTag_eta, dRoad_eta, dLetter_eta, dAddr_eta, dSub_eta, dHalf_eta, dPiece_eta, dPolicy_eta, dBucket_eta, dOut_eta, dPieces_eta, dEnd_eta, dKnown_eta, dWorld_eta] at *); rcases a with ⟨⟩; rcases b with ⟨⟩; simp_all [Ctr.reads, aBool])
set_option maxHeartbeats 1000000 in
theorem h_laws_eqSub : Ctr.holds E 261 (.reads [aSub, aSub] [aBool] (fun _ => True) fun ((a : DSub), (b : DSub), _) => (decide (a = b), ())) := by
  refine fn_ok (Γ := [(296, .reads [aRoad, aRoad] [aBool] (fun _ => True) fun ((a : DRoad), (b : DRoad), _) => (decide (a = b), ()))]) prgOk (gcons h_laws_eqRoad gnil) Tryz.func261 rfl rfl rfl rfl ?_
  rintro ty ⟨a, b, _⟩ hp
  refine ⟨[], ?_⟩
  repeat' ((conv => whnf); first | refine toOb2 ?_ | refine And.intro (fun _ => ?_) (fun _ => ?_) | refine And.intro ?_ ?_ | refine toEx2 ?_ | refine toY ?_ | intro _)
  all_goals refine Ob2.mk ?_
  all_goals first | exact trivial | ((try simp only [Ctr.reads, dTag_eta, dRoad_eta, dLetter_eta, dAddr_eta, dSub_eta, dHalf_eta, dPiece_eta, dPolicy_eta, dBucket_eta, dOut_eta, dPieces_eta, dEnd_eta, dKnown_eta, dWorld_eta] at *); rcases a with ⟨⟩; rcases b with ⟨⟩; simp_all [Ctr.reads, aBool])
set_option maxHeartbeats 1000000 in
theorem h_laws_eqSubS : Ctr.holds E 118 (.reads [aRow .sub, aRow .sub] [aBool] (fun (a, _) => a.length ≤ 1073741824) fun ((a : List DSub), (b : List DSub), _) => (decide (a = b), ())) := by
  refine fn_ok (Γ := [(261, .reads [aSub, aSub] [aBool] (fun _ => True) fun ((a : DSub), (b : DSub), _) => (decide (a = b), ()))]) prgOk (gcons h_laws_eqSub gnil) Tryz.func118 rfl rfl rfl rfl ?_
  rintro ty ⟨(a : List DSub), (b : List DSub), _⟩ (hp : a.length ≤ 1073741824)
  refine ⟨[(4, { X := Nat, inv := fun i => i ≤ a.length ∧ decide (a.drop i = b.drop i) = decide (a = b), mu := fun i => a.length - i, vk := [5], ov := fun i => [.a (.c (.leaf (.int (i : Int))))], bk := [], ob := fun i => [], rk := [], orr := fun i => [] })], ?_⟩
  conv => whnf
  refine And.intro (fun hn => ?_) (fun hn => ?_)
  · repeat' ((conv => whnf); first | refine toOb2 ?_ | refine And.intro (fun _ => ?_) (fun _ => ?_) | refine And.intro ?_ ?_ | refine toEx2 ?_ | refine toY ?_ | intro _)
    all_goals refine Ob2.mk ?_
    have hne : a ≠ b := fun h => by subst h; simp at hn
    show (_, ()) = (_, ())
    simp [hne, aBool]
  have hlen : a.length = b.length := by simp at hn; omega
  conv => whnf
  refine And.intro ⟨(0 : Nat), Ob.mk ?_, ?_⟩ (fun (i : Nat) hi => ?_)
  · exact And.intro (Nat.zero_le _) rfl
  · conv => whnf
    refine Ob.mk ?_
    all_goals (try simp only [allP, side, Ctr.reads, dTag_eta, dRoad_eta, dLetter_eta, dAddr_eta, dSub_eta, dHalf_eta, dPiece_eta, dPolicy_eta, dBucket_eta, dOut_eta, dPieces_eta, dEnd_eta, dKnown_eta, dWorld_eta]); all_goals repeat' (first | with_reducible exact rfl | exact trivial | with_reducible assumption | refine And.intro ?_ ?_ | exact (rfl : (_ : SV) = _) | exact (rfl : (_ : List SC) = _) | (show drawOk _ _ _ = true; exact rfl) | (show ((0 : Nat) : Int) = 0; exact rfl))
  obtain ⟨hi, hm⟩ := hi
  have hi : i ≤ a.length := hi
  have hm : decide (a.drop i = b.drop i) = decide (a = b) := hm
  rcases Nat.lt_or_ge i a.length with hlt | hge
  · obtain ⟨x, hx, hxi, hd⟩ := at_step a i (ETy.sub.zero) hlt
    obtain ⟨y, hy, hyi, hd'⟩ := at_step b i (ETy.sub.zero) (hlen ▸ hlt)
    rw [hd, hd'] at hm
    have hw := w64_succ hlt hp
    repeat' ((conv => whnf); first | refine toOb2 ?_ | refine And.intro (fun _ => ?_) (fun _ => ?_) | refine And.intro ?_ ?_ | refine toEx2 ?_ | refine toY ?_ | intro _)
    all_goals try (exfalso; exact Nat.lt_irrefl _ (Nat.lt_of_lt_of_le hlt (ge_of_dec (by assumption))))
    all_goals first | refine Ob2.mk ?_ | refine Ex2.of (i + 1) ?_ ?_ | skip
    all_goals try ((conv => whnf); refine Ob.mk ?_)
    all_goals (try simp only [allP, side, Ctr.reads, dTag_eta, dRoad_eta, dLetter_eta, dAddr_eta, dSub_eta, dHalf_eta, dPiece_eta, dPolicy_eta, dBucket_eta, dOut_eta, dPieces_eta, dEnd_eta, dKnown_eta, dWorld_eta]); all_goals repeat' (first | with_reducible exact rfl | exact trivial | with_reducible assumption | refine And.intro ?_ ?_ | exact (rfl : (_ : SV) = _) | exact (rfl : (_ : List SC) = _) | (show drawOk _ _ _ = true; exact rfl) | (show ((0 : Nat) : Int) = 0; exact rfl))
    all_goals (try simp only [hx, hy, Ctr.reads, dTag_eta, dRoad_eta, dLetter_eta, dAddr_eta, dSub_eta, dHalf_eta, dPiece_eta, dPolicy_eta, dBucket_eta, dOut_eta, dPieces_eta, dEnd_eta, dKnown_eta, dWorld_eta] at *)
    all_goals first | done | grind
  · have hl : i = a.length := by omega
    subst hl
    have : decide (a = b) = true := by rw [← hm, List.drop_length, hlen, List.drop_length]; rfl
    repeat' ((conv => whnf); first | refine toOb2 ?_ | refine And.intro (fun _ => ?_) (fun _ => ?_) | refine And.intro ?_ ?_ | refine toEx2 ?_ | refine toY ?_ | intro _)
    all_goals try (exfalso; exact Nat.lt_irrefl _ (Nat.lt_of_lt_of_le (lt_of_dec (by assumption)) hge))
    all_goals first | refine Ob2.mk ?_ | refine Ex2.of (a.length) ?_ ?_ | skip
    all_goals try ((conv => whnf); refine Ob.mk ?_)
    all_goals (try simp only [allP, side, Ctr.reads, dTag_eta, dRoad_eta, dLetter_eta, dAddr_eta, dSub_eta, dHalf_eta, dPiece_eta, dPolicy_eta, dBucket_eta, dOut_eta, dPieces_eta, dEnd_eta, dKnown_eta, dWorld_eta]); all_goals repeat' (first | with_reducible exact rfl | exact trivial | with_reducible assumption | refine And.intro ?_ ?_ | exact (rfl : (_ : SV) = _) | exact (rfl : (_ : List SC) = _) | (show drawOk _ _ _ = true; exact rfl) | (show ((0 : Nat) : Int) = 0; exact rfl))
    all_goals (try simp only [this, Ctr.reads, dTag_eta, dRoad_eta, dLetter_eta, dAddr_eta, dSub_eta, dHalf_eta, dPiece_eta, dPolicy_eta, dBucket_eta, dOut_eta, dPieces_eta, dEnd_eta, dKnown_eta, dWorld_eta] at *)
    all_goals first | done | rfl | grind
set_option maxHeartbeats 1000000 in
theorem h_laws_eqHalf : Ctr.holds E 262 (.reads [aHalf, aHalf] [aBool] (fun _ => True) fun ((a : DHalf), (b : DHalf), _) => (decide (a = b), ())) := by
  refine fn_ok (Γ := [(296, .reads [aRoad, aRoad] [aBool] (fun _ => True) fun ((a : DRoad), (b : DRoad), _) => (decide (a = b), ()))]) prgOk (gcons h_laws_eqRoad gnil) Tryz.func262 rfl rfl rfl rfl ?_
  rintro ty ⟨a, b, _⟩ hp
  refine ⟨[], ?_⟩
  repeat' ((conv => whnf); first | refine toOb2 ?_ | refine And.intro (fun _ => ?_) (fun _ => ?_) | refine And.intro ?_ ?_ | refine toEx2 ?_ | refine toY ?_ | intro _)
  all_goals refine Ob2.mk ?_
  all_goals first | exact trivial | ((try simp only [Ctr.reads, dTag_eta, dRoad_eta, dLetter_eta, dAddr_eta, dSub_eta, dHalf_eta, dPiece_eta, dPolicy_eta, dBucket_eta, dOut_eta, dPieces_eta, dEnd_eta, dKnown_eta, dWorld_eta] at *); rcases a with ⟨⟩; rcases b with ⟨⟩; simp_all [Ctr.reads, aBool])
set_option maxHeartbeats 1000000 in
theorem h_laws_eqHalfS : Ctr.holds E 119 (.reads [aRow .half, aRow .half] [aBool] (fun (a, _) => a.length ≤ 1073741824) fun ((a : List DHalf), (b : List DHalf), _) => (decide (a = b), ())) := by
  refine fn_ok (Γ := [(262, .reads [aHalf, aHalf] [aBool] (fun _ => True) fun ((a : DHalf), (b : DHalf), _) => (decide (a = b), ()))]) prgOk (gcons h_laws_eqHalf gnil) Tryz.func119 rfl rfl rfl rfl ?_
  rintro ty ⟨(a : List DHalf), (b : List DHalf), _⟩ (hp : a.length ≤ 1073741824)
  refine ⟨[(4, { X := Nat, inv := fun i => i ≤ a.length ∧ decide (a.drop i = b.drop i) = decide (a = b), mu := fun i => a.length - i, vk := [5], ov := fun i => [.a (.c (.leaf (.int (i : Int))))], bk := [], ob := fun i => [], rk := [], orr := fun i => [] })], ?_⟩
  conv => whnf
  refine And.intro (fun hn => ?_) (fun hn => ?_)
  · repeat' ((conv => whnf); first | refine toOb2 ?_ | refine And.intro (fun _ => ?_) (fun _ => ?_) | refine And.intro ?_ ?_ | refine toEx2 ?_ | refine toY ?_ | intro _)
    all_goals refine Ob2.mk ?_
    have hne : a ≠ b := fun h => by subst h; simp at hn
    show (_, ()) = (_, ())
    simp [hne, aBool]
  have hlen : a.length = b.length := by simp at hn; omega
  conv => whnf
  refine And.intro ⟨(0 : Nat), Ob.mk ?_, ?_⟩ (fun (i : Nat) hi => ?_)
  · exact And.intro (Nat.zero_le _) rfl
  · conv => whnf
    refine Ob.mk ?_
    all_goals (try simp only [allP, side, Ctr.reads, dTag_eta, dRoad_eta, dLetter_eta, dAddr_eta, dSub_eta, dHalf_eta, dPiece_eta, dPolicy_eta, dBucket_eta, dOut_eta, dPieces_eta, dEnd_eta, dKnown_eta, dWorld_eta]); all_goals repeat' (first | with_reducible exact rfl | exact trivial | with_reducible assumption | refine And.intro ?_ ?_ | exact (rfl : (_ : SV) = _) | exact (rfl : (_ : List SC) = _) | (show drawOk _ _ _ = true; exact rfl) | (show ((0 : Nat) : Int) = 0; exact rfl))
  obtain ⟨hi, hm⟩ := hi
  have hi : i ≤ a.length := hi
  have hm : decide (a.drop i = b.drop i) = decide (a = b) := hm
  rcases Nat.lt_or_ge i a.length with hlt | hge
  · obtain ⟨x, hx, hxi, hd⟩ := at_step a i (ETy.half.zero) hlt
    obtain ⟨y, hy, hyi, hd'⟩ := at_step b i (ETy.half.zero) (hlen ▸ hlt)
    rw [hd, hd'] at hm
    have hw := w64_succ hlt hp
    repeat' ((conv => whnf); first | refine toOb2 ?_ | refine And.intro (fun _ => ?_) (fun _ => ?_) | refine And.intro ?_ ?_ | refine toEx2 ?_ | refine toY ?_ | intro _)
    all_goals try (exfalso; exact Nat.lt_irrefl _ (Nat.lt_of_lt_of_le hlt (ge_of_dec (by assumption))))
    all_goals first | refine Ob2.mk ?_ | refine Ex2.of (i + 1) ?_ ?_ | skip
    all_goals try ((conv => whnf); refine Ob.mk ?_)
    all_goals (try simp only [allP, side, Ctr.reads, dTag_eta, dRoad_eta, dLetter_eta, dAddr_eta, dSub_eta, dHalf_eta, dPiece_eta, dPolicy_eta, dBucket_eta, dOut_eta, dPieces_eta, dEnd_eta, dKnown_eta, dWorld_eta]); all_goals repeat' (first | with_reducible exact rfl | exact trivial | with_reducible assumption | refine And.intro ?_ ?_ | exact (rfl : (_ : SV) = _) | exact (rfl : (_ : List SC) = _) | (show drawOk _ _ _ = true; exact rfl) | (show ((0 : Nat) : Int) = 0; exact rfl))
    all_goals (try simp only [hx, hy, Ctr.reads, dTag_eta, dRoad_eta, dLetter_eta, dAddr_eta, dSub_eta, dHalf_eta, dPiece_eta, dPolicy_eta, dBucket_eta, dOut_eta, dPieces_eta, dEnd_eta, dKnown_eta, dWorld_eta] at *)
    all_goals first | done | grind
  · have hl : i = a.length := by omega
    subst hl
    have : decide (a = b) = true := by rw [← hm, List.drop_length, hlen, List.drop_length]; rfl
    repeat' ((conv => whnf); first | refine toOb2 ?_ | refine And.intro (fun _ => ?_) (fun _ => ?_) | refine And.intro ?_ ?_ | refine toEx2 ?_ | refine toY ?_ | intro _)
    all_goals try (exfalso; exact Nat.lt_irrefl _ (Nat.lt_of_lt_of_le (lt_of_dec (by assumption)) hge))
    all_goals first | refine Ob2.mk ?_ | refine Ex2.of (a.length) ?_ ?_ | skip
    all_goals try ((conv => whnf); refine Ob.mk ?_)
    all_goals (try simp only [allP, side, Ctr.reads, dTag_eta, dRoad_eta, dLetter_eta, dAddr_eta, dSub_eta, dHalf_eta, dPiece_eta, dPolicy_eta, dBucket_eta, dOut_eta, dPieces_eta, dEnd_eta, dKnown_eta, dWorld_eta]); all_goals repeat' (first | with_reducible exact rfl | exact trivial | with_reducible assumption | refine And.intro ?_ ?_ | exact (rfl : (_ : SV) = _) | exact (rfl : (_ : List SC) = _) | (show drawOk _ _ _ = true; exact rfl) | (show ((0 : Nat) : Int) = 0; exact rfl))
    all_goals (try simp only [this, Ctr.reads, dTag_eta, dRoad_eta, dLetter_eta, dAddr_eta, dSub_eta, dHalf_eta, dPiece_eta, dPolicy_eta, dBucket_eta, dOut_eta, dPieces_eta, dEnd_eta, dKnown_eta, dWorld_eta] at *)
    all_goals first | done | rfl | grind
set_option maxHeartbeats 1000000 in
theorem h_laws_eqBucket : Ctr.holds E 120 (.reads [aBucket, aBucket] [aBool] (fun _ => True) fun ((a : DBucket), (b : DBucket), _) => (decide (a = b), ())) := by
  refine fn_ok (Γ := []) prgOk gnil Tryz.func120 rfl rfl rfl rfl ?_
  rintro ty ⟨a, b, _⟩ hp
  refine ⟨[], ?_⟩
  repeat' ((conv => whnf); first | refine toOb2 ?_ | refine And.intro (fun _ => ?_) (fun _ => ?_) | refine And.intro ?_ ?_ | refine toEx2 ?_ | intro _)
  all_goals refine Ob2.mk ?_
  all_goals first | exact trivial | ((try simp only [Ctr.reads, dTag_eta, dRoad_eta, dLetter_eta, dAddr_eta, dSub_eta, dHalf_eta, dPiece_eta, dPolicy_eta, dBucket_eta, dOut_eta, dPieces_eta, dEnd_eta, dKnown_eta, dWorld_eta] at *); rcases a with ⟨⟩; rcases b with ⟨⟩; simp_all [Ctr.reads, aBool])
set_option maxHeartbeats 1000000 in
theorem h_laws_eqOut : Ctr.holds E 121 (.reads [aOut, aOut] [aBool] (fun _ => True) fun ((a : DOut), (b : DOut), _) => (decide (a = b), ())) := by
  refine fn_ok (Γ := []) prgOk gnil Tryz.func121 rfl rfl rfl rfl ?_
  rintro ty ⟨a, b, _⟩ hp
  refine ⟨[], ?_⟩
  repeat' ((conv => whnf); first | refine toOb2 ?_ | refine And.intro (fun _ => ?_) (fun _ => ?_) | refine And.intro ?_ ?_ | refine toEx2 ?_ | intro _)
  all_goals refine Ob2.mk ?_
  all_goals first | exact trivial | ((try simp only [Ctr.reads, dTag_eta, dRoad_eta, dLetter_eta, dAddr_eta, dSub_eta, dHalf_eta, dPiece_eta, dPolicy_eta, dBucket_eta, dOut_eta, dPieces_eta, dEnd_eta, dKnown_eta, dWorld_eta] at *); rcases a with ⟨⟩; rcases b with ⟨⟩; simp_all [Ctr.reads, aBool])
set_option maxHeartbeats 1000000 in
theorem h_laws_eqPiece : Ctr.holds E 297 (.reads [aPiece, aPiece] [aBool] (fun _ => True) fun ((a : DPiece), (b : DPiece), _) => (decide (a = b), ())) := by
  refine fn_ok (Γ := []) prgOk gnil Tryz.func297 rfl rfl rfl rfl ?_
  rintro ty ⟨a, b, _⟩ hp
  refine ⟨[], ?_⟩
  repeat' ((conv => whnf); first | refine toOb2 ?_ | refine And.intro (fun _ => ?_) (fun _ => ?_) | refine And.intro ?_ ?_ | refine toEx2 ?_ | intro _)
  all_goals refine Ob2.mk ?_
  all_goals first | exact trivial | ((try simp only [Ctr.reads, dTag_eta, dRoad_eta, dLetter_eta, dAddr_eta, dSub_eta, dHalf_eta, dPiece_eta, dPolicy_eta, dBucket_eta, dOut_eta, dPieces_eta, dEnd_eta, dKnown_eta, dWorld_eta] at *); rcases a with ⟨⟩; rcases b with ⟨⟩; simp_all [Ctr.reads, aBool])
set_option maxHeartbeats 1000000 in
theorem h_laws_eqPieceS : Ctr.holds E 263 (.reads [aRow .piece, aRow .piece] [aBool] (fun (a, _) => a.length ≤ 1073741824) fun ((a : List DPiece), (b : List DPiece), _) => (decide (a = b), ())) := by
  refine fn_ok (Γ := [(297, .reads [aPiece, aPiece] [aBool] (fun _ => True) fun ((a : DPiece), (b : DPiece), _) => (decide (a = b), ()))]) prgOk (gcons h_laws_eqPiece gnil) Tryz.func263 rfl rfl rfl rfl ?_
  rintro ty ⟨(a : List DPiece), (b : List DPiece), _⟩ (hp : a.length ≤ 1073741824)
  refine ⟨[(4, { X := Nat, inv := fun i => i ≤ a.length ∧ decide (a.drop i = b.drop i) = decide (a = b), mu := fun i => a.length - i, vk := [5], ov := fun i => [.a (.c (.leaf (.int (i : Int))))], bk := [], ob := fun i => [], rk := [], orr := fun i => [] })], ?_⟩
  conv => whnf
  refine And.intro (fun hn => ?_) (fun hn => ?_)
  · repeat' ((conv => whnf); first | refine toOb2 ?_ | refine And.intro (fun _ => ?_) (fun _ => ?_) | refine And.intro ?_ ?_ | refine toEx2 ?_ | refine toY ?_ | intro _)
    all_goals refine Ob2.mk ?_
    have hne : a ≠ b := fun h => by subst h; simp at hn
    show (_, ()) = (_, ())
    simp [hne, aBool]
  have hlen : a.length = b.length := by simp at hn; omega
  conv => whnf
  refine And.intro ⟨(0 : Nat), Ob.mk ?_, ?_⟩ (fun (i : Nat) hi => ?_)
  · exact And.intro (Nat.zero_le _) rfl
  · conv => whnf
    refine Ob.mk ?_
    all_goals (try simp only [allP, side, Ctr.reads, dTag_eta, dRoad_eta, dLetter_eta, dAddr_eta, dSub_eta, dHalf_eta, dPiece_eta, dPolicy_eta, dBucket_eta, dOut_eta, dPieces_eta, dEnd_eta, dKnown_eta, dWorld_eta]); all_goals repeat' (first | with_reducible exact rfl | exact trivial | with_reducible assumption | refine And.intro ?_ ?_ | exact (rfl : (_ : SV) = _) | exact (rfl : (_ : List SC) = _) | (show drawOk _ _ _ = true; exact rfl) | (show ((0 : Nat) : Int) = 0; exact rfl))
  obtain ⟨hi, hm⟩ := hi
  have hi : i ≤ a.length := hi
  have hm : decide (a.drop i = b.drop i) = decide (a = b) := hm
  rcases Nat.lt_or_ge i a.length with hlt | hge
  · obtain ⟨x, hx, hxi, hd⟩ := at_step a i (ETy.piece.zero) hlt
    obtain ⟨y, hy, hyi, hd'⟩ := at_step b i (ETy.piece.zero) (hlen ▸ hlt)
    rw [hd, hd'] at hm
    have hw := w64_succ hlt hp
    repeat' ((conv => whnf); first | refine toOb2 ?_ | refine And.intro (fun _ => ?_) (fun _ => ?_) | refine And.intro ?_ ?_ | refine toEx2 ?_ | refine toY ?_ | intro _)
    all_goals try (exfalso; exact Nat.lt_irrefl _ (Nat.lt_of_lt_of_le hlt (ge_of_dec (by assumption))))
    all_goals first | refine Ob2.mk ?_ | refine Ex2.of (i + 1) ?_ ?_ | skip
    all_goals try ((conv => whnf); refine Ob.mk ?_)
    all_goals (try simp only [allP, side, Ctr.reads, dTag_eta, dRoad_eta, dLetter_eta, dAddr_eta, dSub_eta, dHalf_eta, dPiece_eta, dPolicy_eta, dBucket_eta, dOut_eta, dPieces_eta, dEnd_eta, dKnown_eta, dWorld_eta]); all_goals repeat' (first | with_reducible exact rfl | exact trivial | with_reducible assumption | refine And.intro ?_ ?_ | exact (rfl : (_ : SV) = _) | exact (rfl : (_ : List SC) = _) | (show drawOk _ _ _ = true; exact rfl) | (show ((0 : Nat) : Int) = 0; exact rfl))
    all_goals (try simp only [hx, hy, Ctr.reads, dTag_eta, dRoad_eta, dLetter_eta, dAddr_eta, dSub_eta, dHalf_eta, dPiece_eta, dPolicy_eta, dBucket_eta, dOut_eta, dPieces_eta, dEnd_eta, dKnown_eta, dWorld_eta] at *)
    all_goals first | done | grind
  · have hl : i = a.length := by omega
    subst hl
    have : decide (a = b) = true := by rw [← hm, List.drop_length, hlen, List.drop_length]; rfl
    repeat' ((conv => whnf); first | refine toOb2 ?_ | refine And.intro (fun _ => ?_) (fun _ => ?_) | refine And.intro ?_ ?_ | refine toEx2 ?_ | refine toY ?_ | intro _)
    all_goals try (exfalso; exact Nat.lt_irrefl _ (Nat.lt_of_lt_of_le (lt_of_dec (by assumption)) hge))
    all_goals first | refine Ob2.mk ?_ | refine Ex2.of (a.length) ?_ ?_ | skip
    all_goals try ((conv => whnf); refine Ob.mk ?_)
    all_goals (try simp only [allP, side, Ctr.reads, dTag_eta, dRoad_eta, dLetter_eta, dAddr_eta, dSub_eta, dHalf_eta, dPiece_eta, dPolicy_eta, dBucket_eta, dOut_eta, dPieces_eta, dEnd_eta, dKnown_eta, dWorld_eta]); all_goals repeat' (first | with_reducible exact rfl | exact trivial | with_reducible assumption | refine And.intro ?_ ?_ | exact (rfl : (_ : SV) = _) | exact (rfl : (_ : List SC) = _) | (show drawOk _ _ _ = true; exact rfl) | (show ((0 : Nat) : Int) = 0; exact rfl))
    all_goals (try simp only [this, Ctr.reads, dTag_eta, dRoad_eta, dLetter_eta, dAddr_eta, dSub_eta, dHalf_eta, dPiece_eta, dPolicy_eta, dBucket_eta, dOut_eta, dPieces_eta, dEnd_eta, dKnown_eta, dWorld_eta] at *)
    all_goals first | done | rfl | grind
set_option maxHeartbeats 1000000 in
theorem h_laws_eqPieces : Ctr.holds E 122 (.reads [aPieces, aPieces] [aBool] (fun ((p : DPieces), _) => p.list.length ≤ 1073741824) fun ((a : DPieces), (b : DPieces), _) => (decide (a = b), ())) := by
  refine fn_ok (Γ := [(263, .reads [aRow .piece, aRow .piece] [aBool] (fun (a, _) => a.length ≤ 1073741824) fun ((a : List DPiece), (b : List DPiece), _) => (decide (a = b), ()))]) prgOk (gcons h_laws_eqPieceS gnil) Tryz.func122 rfl rfl rfl rfl ?_
  rintro ty ⟨(a : DPieces), (b : DPieces), _⟩ (hp : a.list.length ≤ 1073741824)
  refine ⟨[], ?_⟩
  repeat' ((conv => whnf); first | refine toOb2 ?_ | refine And.intro (fun _ => ?_) (fun _ => ?_) | refine And.intro ?_ ?_ | refine toEx2 ?_ | refine toY ?_ | intro _)
  all_goals refine Ob2.mk ?_
  all_goals first | exact trivial | exact hp | ((try simp only [Ctr.reads, dTag_eta, dRoad_eta, dLetter_eta, dAddr_eta, dSub_eta, dHalf_eta, dPiece_eta, dPolicy_eta, dBucket_eta, dOut_eta, dPieces_eta, dEnd_eta, dKnown_eta, dWorld_eta] at *); rcases a with ⟨⟩; rcases b with ⟨⟩; simp_all [Ctr.reads, aBool])
set_option maxHeartbeats 1000000 in
theorem h_laws_eqIntS : Ctr.holds E 123 (.reads [aRow .int, aRow .int] [aBool] (fun (a, _) => a.length ≤ 1073741824) fun ((a : List Int), (b : List Int), _) => (decide (a = b), ())) := by
  refine fn_ok (Γ := []) prgOk gnil Tryz.func123 rfl rfl rfl rfl ?_
  rintro ty ⟨(a : List Int), (b : List Int), _⟩ (hp : a.length ≤ 1073741824)
  refine ⟨[(4, { X := Nat, inv := fun i => i ≤ a.length ∧ decide (a.drop i = b.drop i) = decide (a = b), mu := fun i => a.length - i, vk := [5], ov := fun i => [.a (.c (.leaf (.int (i : Int))))], bk := [], ob := fun i => [], rk := [], orr := fun i => [] })], ?_⟩
  conv => whnf
  refine And.intro (fun hn => ?_) (fun hn => ?_)
  · repeat' ((conv => whnf); first | refine toOb2 ?_ | refine And.intro (fun _ => ?_) (fun _ => ?_) | refine And.intro ?_ ?_ | refine toEx2 ?_ | intro _)
    all_goals refine Ob2.mk ?_
    have hne : a ≠ b := fun h => by subst h; simp at hn
    show (_, ()) = (_, ())
    simp [hne, aBool]
  have hlen : a.length = b.length := by simp at hn; omega
  conv => whnf
  refine And.intro ⟨(0 : Nat), Ob.mk ?_, ?_⟩ (fun (i : Nat) hi => ?_)
  · exact And.intro (Nat.zero_le _) rfl
  · conv => whnf
    refine Ob.mk ?_
    all_goals (try simp only [allP, side, Ctr.reads, dTag_eta, dRoad_eta, dLetter_eta, dAddr_eta, dSub_eta, dHalf_eta, dPiece_eta, dPolicy_eta, dBucket_eta, dOut_eta, dPieces_eta, dEnd_eta, dKnown_eta, dWorld_eta]); all_goals repeat' (first | with_reducible exact rfl | exact trivial | with_reducible assumption | refine And.intro ?_ ?_ | exact (rfl : (_ : SV) = _) | exact (rfl : (_ : List SC) = _) | (show drawOk _ _ _ = true; exact rfl) | (show ((0 : Nat) : Int) = 0; exact rfl))
  obtain ⟨hi, hm⟩ := hi
  have hi : i ≤ a.length := hi
  have hm : decide (a.drop i = b.drop i) = decide (a = b) := hm
  rcases Nat.lt_or_ge i a.length with hlt | hge
  · obtain ⟨x, hx, hxi, hd⟩ := at_step a i (ETy.int.zero) hlt
    obtain ⟨y, hy, hyi, hd'⟩ := at_step b i (ETy.int.zero) (hlen ▸ hlt)
    rw [hd, hd'] at hm
    have hw := w64_succ hlt hp
    repeat' ((conv => whnf); first | refine toOb2 ?_ | refine And.intro (fun _ => ?_) (fun _ => ?_) | refine And.intro ?_ ?_ | refine toEx2 ?_ | intro _)
    all_goals try (exfalso; exact Nat.lt_irrefl _ (Nat.lt_of_lt_of_le hlt (ge_of_dec (by assumption))))
    all_goals first | refine Ob2.mk ?_ | refine Ex2.of (i + 1) ?_ ?_ | skip
    all_goals try ((conv => whnf); refine Ob.mk ?_)
    all_goals (try simp only [allP, side, Ctr.reads, dTag_eta, dRoad_eta, dLetter_eta, dAddr_eta, dSub_eta, dHalf_eta, dPiece_eta, dPolicy_eta, dBucket_eta, dOut_eta, dPieces_eta, dEnd_eta, dKnown_eta, dWorld_eta]); all_goals repeat' (first | with_reducible exact rfl | exact trivial | with_reducible assumption | refine And.intro ?_ ?_ | exact (rfl : (_ : SV) = _) | exact (rfl : (_ : List SC) = _) | (show drawOk _ _ _ = true; exact rfl) | (show ((0 : Nat) : Int) = 0; exact rfl))
    all_goals (try simp only [hx, hy, Ctr.reads, dTag_eta, dRoad_eta, dLetter_eta, dAddr_eta, dSub_eta, dHalf_eta, dPiece_eta, dPolicy_eta, dBucket_eta, dOut_eta, dPieces_eta, dEnd_eta, dKnown_eta, dWorld_eta] at *)
    all_goals first | done | grind
  · have hl : i = a.length := by omega
    subst hl
    have : decide (a = b) = true := by rw [← hm, List.drop_length, hlen, List.drop_length]; rfl
    repeat' ((conv => whnf); first | refine toOb2 ?_ | refine And.intro (fun _ => ?_) (fun _ => ?_) | refine And.intro ?_ ?_ | refine toEx2 ?_ | intro _)
    all_goals try (exfalso; exact Nat.lt_irrefl _ (Nat.lt_of_lt_of_le (lt_of_dec (by assumption)) hge))
    all_goals first | refine Ob2.mk ?_ | refine Ex2.of (a.length) ?_ ?_ | skip
    all_goals try ((conv => whnf); refine Ob.mk ?_)
    all_goals (try simp only [allP, side, Ctr.reads, dTag_eta, dRoad_eta, dLetter_eta, dAddr_eta, dSub_eta, dHalf_eta, dPiece_eta, dPolicy_eta, dBucket_eta, dOut_eta, dPieces_eta, dEnd_eta, dKnown_eta, dWorld_eta]); all_goals repeat' (first | with_reducible exact rfl | exact trivial | with_reducible assumption | refine And.intro ?_ ?_ | exact (rfl : (_ : SV) = _) | exact (rfl : (_ : List SC) = _) | (show drawOk _ _ _ = true; exact rfl) | (show ((0 : Nat) : Int) = 0; exact rfl))
    all_goals (try simp only [this, Ctr.reads, dTag_eta, dRoad_eta, dLetter_eta, dAddr_eta, dSub_eta, dHalf_eta, dPiece_eta, dPolicy_eta, dBucket_eta, dOut_eta, dPieces_eta, dEnd_eta, dKnown_eta, dWorld_eta] at *)
    all_goals first | done | rfl | grind
set_option maxHeartbeats 1000000 in
theorem h_laws_eqEnd : Ctr.holds E 33 (.reads [aEnd, aEnd] [aBool] (fun ((e : DEnd), _) => e.B) fun ((a : DEnd), (b : DEnd), _) => (decide (a = b), ())) := by
  refine fn_ok (Γ := [(116, .reads [aPolicy, aPolicy] [aBool] (fun _ => True) fun ((a : DPolicy), (b : DPolicy), _) => (decide (a = b), ())), (117, .reads [aRow .addr, aRow .addr] [aBool] (fun (a, _) => a.length ≤ 1073741824) fun ((a : List DAddr), (b : List DAddr), _) => (decide (a = b), ())), (118, .reads [aRow .sub, aRow .sub] [aBool] (fun (a, _) => a.length ≤ 1073741824) fun ((a : List DSub), (b : List DSub), _) => (decide (a = b), ())), (119, .reads [aRow .half, aRow .half] [aBool] (fun (a, _) => a.length ≤ 1073741824) fun ((a : List DHalf), (b : List DHalf), _) => (decide (a = b), ())), (120, .reads [aBucket, aBucket] [aBool] (fun _ => True) fun ((a : DBucket), (b : DBucket), _) => (decide (a = b), ())), (121, .reads [aOut, aOut] [aBool] (fun _ => True) fun ((a : DOut), (b : DOut), _) => (decide (a = b), ())), (122, .reads [aPieces, aPieces] [aBool] (fun ((p : DPieces), _) => p.list.length ≤ 1073741824) fun ((a : DPieces), (b : DPieces), _) => (decide (a = b), ())), (123, .reads [aRow .int, aRow .int] [aBool] (fun (a, _) => a.length ≤ 1073741824) fun ((a : List Int), (b : List Int), _) => (decide (a = b), ()))]) prgOk (gcons h_laws_eqPolicy (gcons h_laws_eqAddrS (gcons h_laws_eqSubS (gcons h_laws_eqHalfS (gcons h_laws_eqBucket (gcons h_laws_eqOut (gcons h_laws_eqPieces (gcons h_laws_eqIntS gnil)))))))) Tryz.func33 rfl rfl rfl rfl ?_
  rintro ty ⟨(a : DEnd), (b : DEnd), _⟩ (hp : a.B)
  obtain ⟨hb1, hb2, hb3, hb4, hb5, hb6, hb7⟩ := hp
  refine ⟨[], ?_⟩
  repeat' ((conv => whnf); first | refine toOb2 ?_ | refine And.intro (fun _ => ?_) (fun _ => ?_) | refine And.intro ?_ ?_ | refine toEx2 ?_ | refine toY ?_ | intro _)
  all_goals refine Ob2.mk ?_
  all_goals first | exact trivial | assumption | skip
  all_goals (try simp only [Ctr.reads, dTag_eta, dRoad_eta, dLetter_eta, dAddr_eta, dSub_eta, dHalf_eta, dPiece_eta, dPolicy_eta, dBucket_eta, dOut_eta, dPieces_eta, dEnd_eta, dKnown_eta, dWorld_eta] at *)
  all_goals (show (_, ()) = (_, ()); simp only [Prod.mk.injEq, and_true]; have hx := dEnd_iff a b; simp_all)
set_option maxHeartbeats 1000000 in
theorem h_laws_eqTag : Ctr.holds E 264 (.reads [aTag, aTag] [aBool] (fun _ => True) fun ((a : DTag), (b : DTag), _) => (decide (a = b), ())) := by
  refine fn_ok (Γ := []) prgOk gnil Tryz.func264 rfl rfl rfl rfl ?_
  rintro ty ⟨a, b, _⟩ hp
  refine ⟨[], ?_⟩
  repeat' ((conv => whnf); first | refine toOb2 ?_ | refine And.intro (fun _ => ?_) (fun _ => ?_) | refine And.intro ?_ ?_ | refine toEx2 ?_ | intro _)
  all_goals refine Ob2.mk ?_
  all_goals first | exact trivial | ((try simp only [Ctr.reads, dTag_eta, dRoad_eta, dLetter_eta, dAddr_eta, dSub_eta, dHalf_eta, dPiece_eta, dPolicy_eta, dBucket_eta, dOut_eta, dPieces_eta, dEnd_eta, dKnown_eta, dWorld_eta] at *); rcases a with ⟨⟩; rcases b with ⟨⟩; simp_all [Ctr.reads, aBool])
set_option maxHeartbeats 1000000 in
theorem h_laws_eqLetter : Ctr.holds E 124 (.reads [aLetter, aLetter] [aBool] (fun _ => True) fun ((a : DLetter), (b : DLetter), _) => (decide (a = b), ())) := by
  refine fn_ok (Γ := [(264, .reads [aTag, aTag] [aBool] (fun _ => True) fun ((a : DTag), (b : DTag), _) => (decide (a = b), ()))]) prgOk (gcons h_laws_eqTag gnil) Tryz.func124 rfl rfl rfl rfl ?_
  rintro ty ⟨a, b, _⟩ hp
  refine ⟨[], ?_⟩
  repeat' ((conv => whnf); first | refine toOb2 ?_ | refine And.intro (fun _ => ?_) (fun _ => ?_) | refine And.intro ?_ ?_ | refine toEx2 ?_ | refine toY ?_ | intro _)
  all_goals refine Ob2.mk ?_
  all_goals first | exact trivial | ((try simp only [Ctr.reads, dTag_eta, dRoad_eta, dLetter_eta, dAddr_eta, dSub_eta, dHalf_eta, dPiece_eta, dPolicy_eta, dBucket_eta, dOut_eta, dPieces_eta, dEnd_eta, dKnown_eta, dWorld_eta] at *); rcases a with ⟨⟩; rcases b with ⟨⟩; simp_all [Ctr.reads, aBool])
set_option maxHeartbeats 1000000 in
theorem h_laws_eqLetterS : Ctr.holds E 34 (.reads [aRow .letter, aRow .letter] [aBool] (fun (a, _) => a.length ≤ 1073741824) fun ((a : List DLetter), (b : List DLetter), _) => (decide (a = b), ())) := by
  refine fn_ok (Γ := [(124, .reads [aLetter, aLetter] [aBool] (fun _ => True) fun ((a : DLetter), (b : DLetter), _) => (decide (a = b), ()))]) prgOk (gcons h_laws_eqLetter gnil) Tryz.func34 rfl rfl rfl rfl ?_
  rintro ty ⟨(a : List DLetter), (b : List DLetter), _⟩ (hp : a.length ≤ 1073741824)
  refine ⟨[(4, { X := Nat, inv := fun i => i ≤ a.length ∧ decide (a.drop i = b.drop i) = decide (a = b), mu := fun i => a.length - i, vk := [5], ov := fun i => [.a (.c (.leaf (.int (i : Int))))], bk := [], ob := fun i => [], rk := [], orr := fun i => [] })], ?_⟩
  conv => whnf
  refine And.intro (fun hn => ?_) (fun hn => ?_)
  · repeat' ((conv => whnf); first | refine toOb2 ?_ | refine And.intro (fun _ => ?_) (fun _ => ?_) | refine And.intro ?_ ?_ | refine toEx2 ?_ | refine toY ?_ | intro _)
    all_goals refine Ob2.mk ?_
    have hne : a ≠ b := fun h => by subst h; simp at hn
    show (_, ()) = (_, ())
    simp [hne, aBool]
  have hlen : a.length = b.length := by simp at hn; omega
  conv => whnf
  refine And.intro ⟨(0 : Nat), Ob.mk ?_, ?_⟩ (fun (i : Nat) hi => ?_)
  · exact And.intro (Nat.zero_le _) rfl
  · conv => whnf
    refine Ob.mk ?_
    all_goals (try simp only [allP, side, Ctr.reads, dTag_eta, dRoad_eta, dLetter_eta, dAddr_eta, dSub_eta, dHalf_eta, dPiece_eta, dPolicy_eta, dBucket_eta, dOut_eta, dPieces_eta, dEnd_eta, dKnown_eta, dWorld_eta]); all_goals repeat' (first | with_reducible exact rfl | exact trivial | with_reducible assumption | refine And.intro ?_ ?_ | exact (rfl : (_ : SV) = _) | exact (rfl : (_ : List SC) = _) | (show drawOk _ _ _ = true; exact rfl) | (show ((0 : Nat) : Int) = 0; exact rfl))
  obtain ⟨hi, hm⟩ := hi
  have hi : i ≤ a.length := hi
  have hm : decide (a.drop i = b.drop i) = decide (a = b) := hm
  rcases Nat.lt_or_ge i a.length with hlt | hge
  · obtain ⟨x, hx, hxi, hd⟩ := at_step a i (ETy.letter.zero) hlt
    obtain ⟨y, hy, hyi, hd'⟩ := at_step b i (ETy.letter.zero) (hlen ▸ hlt)
    rw [hd, hd'] at hm
    have hw := w64_succ hlt hp
    repeat' ((conv => whnf); first | refine toOb2 ?_ | refine And.intro (fun _ => ?_) (fun _ => ?_) | refine And.intro ?_ ?_ | refine toEx2 ?_ | refine toY ?_ | intro _)
    all_goals try (exfalso; exact Nat.lt_irrefl _ (Nat.lt_of_lt_of_le hlt (ge_of_dec (by assumption))))
    all_goals first | refine Ob2.mk ?_ | refine Ex2.of (i + 1) ?_ ?_ | skip
    all_goals try ((conv => whnf); refine Ob.mk ?_)
    all_goals (try simp only [allP, side, Ctr.reads, dTag_eta, dRoad_eta, dLetter_eta, dAddr_eta, dSub_eta, dHalf_eta, dPiece_eta, dPolicy_eta, dBucket_eta, dOut_eta, dPieces_eta, dEnd_eta, dKnown_eta, dWorld_eta]); all_goals repeat' (first | with_reducible exact rfl | exact trivial | with_reducible assumption | refine And.intro ?_ ?_ | exact (rfl : (_ : SV) = _) | exact (rfl : (_ : List SC) = _) | (show drawOk _ _ _ = true; exact rfl) | (show ((0 : Nat) : Int) = 0; exact rfl))
    all_goals (try simp only [hx, hy, Ctr.reads, dTag_eta, dRoad_eta, dLetter_eta, dAddr_eta, dSub_eta, dHalf_eta, dPiece_eta, dPolicy_eta, dBucket_eta, dOut_eta, dPieces_eta, dEnd_eta, dKnown_eta, dWorld_eta] at *)
    all_goals first | done | grind
  · have hl : i = a.length := by omega
    subst hl
    have : decide (a = b) = true := by rw [← hm, List.drop_length, hlen, List.drop_length]; rfl
    repeat' ((conv => whnf); first | refine toOb2 ?_ | refine And.intro (fun _ => ?_) (fun _ => ?_) | refine And.intro ?_ ?_ | refine toEx2 ?_ | refine toY ?_ | intro _)
    all_goals try (exfalso; exact Nat.lt_irrefl _ (Nat.lt_of_lt_of_le (lt_of_dec (by assumption)) hge))
    all_goals first | refine Ob2.mk ?_ | refine Ex2.of (a.length) ?_ ?_ | skip
    all_goals try ((conv => whnf); refine Ob.mk ?_)
    all_goals (try simp only [allP, side, Ctr.reads, dTag_eta, dRoad_eta, dLetter_eta, dAddr_eta, dSub_eta, dHalf_eta, dPiece_eta, dPolicy_eta, dBucket_eta, dOut_eta, dPieces_eta, dEnd_eta, dKnown_eta, dWorld_eta]); all_goals repeat' (first | with_reducible exact rfl | exact trivial | with_reducible assumption | refine And.intro ?_ ?_ | exact (rfl : (_ : SV) = _) | exact (rfl : (_ : List SC) = _) | (show drawOk _ _ _ = true; exact rfl) | (show ((0 : Nat) : Int) = 0; exact rfl))
    all_goals (try simp only [this, Ctr.reads, dTag_eta, dRoad_eta, dLetter_eta, dAddr_eta, dSub_eta, dHalf_eta, dPiece_eta, dPolicy_eta, dBucket_eta, dOut_eta, dPieces_eta, dEnd_eta, dKnown_eta, dWorld_eta] at *)
    all_goals first | done | rfl | grind
set_option maxHeartbeats 1000000 in
theorem h_laws_eqTagS : Ctr.holds E 274 (.reads [aRow .tag, aRow .tag] [aBool] (fun (a, _) => a.length ≤ 1073741824) fun ((a : List DTag), (b : List DTag), _) => (decide (a = b), ())) := by
  refine fn_ok (Γ := [(264, .reads [aTag, aTag] [aBool] (fun _ => True) fun ((a : DTag), (b : DTag), _) => (decide (a = b), ()))]) prgOk (gcons h_laws_eqTag gnil) Tryz.func274 rfl rfl rfl rfl ?_
  rintro ty ⟨(a : List DTag), (b : List DTag), _⟩ (hp : a.length ≤ 1073741824)
  refine ⟨[(4, { X := Nat, inv := fun i => i ≤ a.length ∧ decide (a.drop i = b.drop i) = decide (a = b), mu := fun i => a.length - i, vk := [5], ov := fun i => [.a (.c (.leaf (.int (i : Int))))], bk := [], ob := fun i => [], rk := [], orr := fun i => [] })], ?_⟩
  conv => whnf
  refine And.intro (fun hn => ?_) (fun hn => ?_)
  · repeat' ((conv => whnf); first | refine toOb2 ?_ | refine And.intro (fun _ => ?_) (fun _ => ?_) | refine And.intro ?_ ?_ | refine toEx2 ?_ | refine toY ?_ | intro _)
    all_goals refine Ob2.mk ?_
    have hne : a ≠ b := fun h => by subst h; simp at hn
    show (_, ()) = (_, ())
    simp [hne, aBool]
  have hlen : a.length = b.length := by simp at hn; omega
  conv => whnf
  refine And.intro ⟨(0 : Nat), Ob.mk ?_, ?_⟩ (fun (i : Nat) hi => ?_)
  · exact And.intro (Nat.zero_le _) rfl
  · conv => whnf
    refine Ob.mk ?_
    all_goals (try simp only [allP, side, Ctr.reads, dTag_eta, dRoad_eta, dLetter_eta, dAddr_eta, dSub_eta, dHalf_eta, dPiece_eta, dPolicy_eta, dBucket_eta, dOut_eta, dPieces_eta, dEnd_eta, dKnown_eta, dWorld_eta]); all_goals repeat' (first | with_reducible exact rfl | exact trivial | with_reducible assumption | refine And.intro ?_ ?_ | exact (rfl : (_ : SV) = _) | exact (rfl : (_ : List SC) = _) | (show drawOk _ _ _ = true; exact rfl) | (show ((0 : Nat) : Int) = 0; exact rfl))
  obtain ⟨hi, hm⟩ := hi
  have hi : i ≤ a.length := hi
  have hm : decide (a.drop i = b.drop i) = decide (a = b) := hm
  rcases Nat.lt_or_ge i a.length with hlt | hge
  · obtain ⟨x, hx, hxi, hd⟩ := at_step a i (ETy.tag.zero) hlt
    obtain ⟨y, hy, hyi, hd'⟩ := at_step b i (ETy.tag.zero) (hlen ▸ hlt)
    rw [hd, hd'] at hm
    have hw := w64_succ hlt hp
    repeat' ((conv => whnf); first | refine toOb2 ?_ | refine And.intro (fun _ => ?_) (fun _ => ?_) | refine And.intro ?_ ?_ | refine toEx2 ?_ | refine toY ?_ | intro _)
    all_goals try (exfalso; exact Nat.lt_irrefl _ (Nat.lt_of_lt_of_le hlt (ge_of_dec (by assumption))))
    all_goals first | refine Ob2.mk ?_ | refine Ex2.of (i + 1) ?_ ?_ | skip
    all_goals try ((conv => whnf); refine Ob.mk ?_)
    all_goals (try simp only [allP, side, Ctr.reads, dTag_eta, dRoad_eta, dLetter_eta, dAddr_eta, dSub_eta, dHalf_eta, dPiece_eta, dPolicy_eta, dBucket_eta, dOut_eta, dPieces_eta, dEnd_eta, dKnown_eta, dWorld_eta]); all_goals repeat' (first | with_reducible exact rfl | exact trivial | with_reducible assumption | refine And.intro ?_ ?_ | exact (rfl : (_ : SV) = _) | exact (rfl : (_ : List SC) = _) | (show drawOk _ _ _ = true; exact rfl) | (show ((0 : Nat) : Int) = 0; exact rfl))
    all_goals (try simp only [hx, hy, Ctr.reads, dTag_eta, dRoad_eta, dLetter_eta, dAddr_eta, dSub_eta, dHalf_eta, dPiece_eta, dPolicy_eta, dBucket_eta, dOut_eta, dPieces_eta, dEnd_eta, dKnown_eta, dWorld_eta] at *)
    all_goals first | done | grind
  · have hl : i = a.length := by omega
    subst hl
    have : decide (a = b) = true := by rw [← hm, List.drop_length, hlen, List.drop_length]; rfl
    repeat' ((conv => whnf); first | refine toOb2 ?_ | refine And.intro (fun _ => ?_) (fun _ => ?_) | refine And.intro ?_ ?_ | refine toEx2 ?_ | refine toY ?_ | intro _)
    all_goals try (exfalso; exact Nat.lt_irrefl _ (Nat.lt_of_lt_of_le (lt_of_dec (by assumption)) hge))
    all_goals first | refine Ob2.mk ?_ | refine Ex2.of (a.length) ?_ ?_ | skip
    all_goals try ((conv => whnf); refine Ob.mk ?_)
    all_goals (try simp only [allP, side, Ctr.reads, dTag_eta, dRoad_eta, dLetter_eta, dAddr_eta, dSub_eta, dHalf_eta, dPiece_eta, dPolicy_eta, dBucket_eta, dOut_eta, dPieces_eta, dEnd_eta, dKnown_eta, dWorld_eta]); all_goals repeat' (first | with_reducible exact rfl | exact trivial | with_reducible assumption | refine And.intro ?_ ?_ | exact (rfl : (_ : SV) = _) | exact (rfl : (_ : List SC) = _) | (show drawOk _ _ _ = true; exact rfl) | (show ((0 : Nat) : Int) = 0; exact rfl))
    all_goals (try simp only [this, Ctr.reads, dTag_eta, dRoad_eta, dLetter_eta, dAddr_eta, dSub_eta, dHalf_eta, dPiece_eta, dPolicy_eta, dBucket_eta, dOut_eta, dPieces_eta, dEnd_eta, dKnown_eta, dWorld_eta] at *)
    all_goals first | done | rfl | grind
set_option maxHeartbeats 1000000 in
theorem h_laws_eqKnown : Ctr.holds E 199 (.reads [aKnown, aKnown] [aBool] (fun ((x : DKnown), _) => x.B) fun ((x : DKnown), (y : DKnown), _) => (decide (x = y), ())) := by
  refine fn_ok (Γ := [(123, .reads [aRow .int, aRow .int] [aBool] (fun (a, _) => a.length ≤ 1073741824) fun ((a : List Int), (b : List Int), _) => (decide (a = b), ())), (274, .reads [aRow .tag, aRow .tag] [aBool] (fun (a, _) => a.length ≤ 1073741824) fun ((a : List DTag), (b : List DTag), _) => (decide (a = b), ()))]) prgOk (gcons h_laws_eqIntS (gcons h_laws_eqTagS gnil)) Tryz.func199 rfl rfl rfl rfl ?_
  rintro ty ⟨(x : DKnown), (y : DKnown), _⟩ (hp : x.B)
  obtain ⟨h1, h2⟩ := id hp
  have hx := dKnown_iff x y
  refine ⟨[], ?_⟩
  repeat' ((conv => whnf); first | refine toOb2 ?_ | (refine And.intro (fun h => ?_) (fun h => ?_) <;> (try simp only [Ctr.reads, beq_self_eq_true, bne_self_eq_false, reduceCtorEq, decide_true, decide_false, Bool.not_true, Bool.and_true, Bool.or_false, Bool.cond_true_left, Bool.cond_false_right, hd_letters, mkL_length, sq_pos, Int.reduceLT, mkEnd_re, hd_mk1, lt0_1, lt0_2, lt0_3, ne_eq, bne_self_eq_false, or_false, false_or, allP, side, decide_eq_true_eq, decide_eq_false_iff_not, not_false_eq_true, not_true_eq_false, Bool.not_true, Bool.not_false, Bool.not_eq_true', Bool.not_eq_false', Bool.not_eq_eq_eq_not, dTag_eta, dRoad_eta, dLetter_eta, dAddr_eta, dSub_eta, dHalf_eta, dPiece_eta, dPolicy_eta, dBucket_eta, dOut_eta, dPieces_eta, dEnd_eta, dKnown_eta, dWorld_eta] at h) <;> (try with_reducible contradiction)) | refine And.intro ?_ ?_ | refine toEx2 ?_ | (refine fun y hy => ?_; (try simp only [Ctr.reads, beq_self_eq_true, bne_self_eq_false, reduceCtorEq, decide_true, decide_false, Bool.not_true, Bool.and_true, Bool.or_false, Bool.cond_true_left, Bool.cond_false_right, hd_letters, mkL_length, sq_pos, Int.reduceLT, mkEnd_re, hd_mk1, lt0_1, lt0_2, lt0_3, ne_eq, bne_self_eq_false, or_false, false_or, allP, side, decide_eq_true_eq, decide_eq_false_iff_not, not_false_eq_true, not_true_eq_false, Bool.not_true, Bool.not_false, Bool.not_eq_true', Bool.not_eq_false', Bool.not_eq_eq_eq_not, dTag_eta, dRoad_eta, dLetter_eta, dAddr_eta, dSub_eta, dHalf_eta, dPiece_eta, dPolicy_eta, dBucket_eta, dOut_eta, dPieces_eta, dEnd_eta, dKnown_eta, dWorld_eta] at hy); subst hy) | intro _)
  all_goals first | refine Ob2.mk ?_ | (show drawOk _ _ _ = true; exact rfl)
  all_goals (try simp only [allP, side, Ctr.reads, dTag_eta, dRoad_eta, dLetter_eta, dAddr_eta, dSub_eta, dHalf_eta, dPiece_eta, dPolicy_eta, dBucket_eta, dOut_eta, dPieces_eta, dEnd_eta, dKnown_eta, dWorld_eta])
  all_goals first | done | assumption | grind
set_option maxHeartbeats 1000000 in
theorem h_laws_eqWorld : Ctr.holds E 77 (.reads [aWorld, aWorld] [aBool] (fun ((w : DWorld), _) => w.B) fun ((w : DWorld), (v : DWorld), _) => (decide (w = v), ())) := by
  refine fn_ok (Γ := [(33, .reads [aEnd, aEnd] [aBool] (fun ((e : DEnd), _) => e.B) fun ((a : DEnd), (b : DEnd), _) => (decide (a = b), ())), (34, .reads [aRow .letter, aRow .letter] [aBool] (fun (a, _) => a.length ≤ 1073741824) fun ((a : List DLetter), (b : List DLetter), _) => (decide (a = b), ())), (199, .reads [aKnown, aKnown] [aBool] (fun ((x : DKnown), _) => x.B) fun ((x : DKnown), (y : DKnown), _) => (decide (x = y), ())), (123, .reads [aRow .int, aRow .int] [aBool] (fun (a, _) => a.length ≤ 1073741824) fun ((a : List Int), (b : List Int), _) => (decide (a = b), ()))]) prgOk (gcons h_laws_eqEnd (gcons h_laws_eqLetterS (gcons h_laws_eqKnown (gcons h_laws_eqIntS gnil)))) Tryz.func77 rfl rfl rfl rfl ?_
  rintro ty ⟨(w : DWorld), (v : DWorld), _⟩ (hp : w.B)
  obtain ⟨h1, h2, h3, h4, h5, h6, h7, h8, h9⟩ := id hp
  have h56 : w.known.B := ⟨h5, h6⟩
  refine ⟨[], ?_⟩
  repeat' ((conv => whnf); first | refine toOb2 ?_ | (refine And.intro (fun h => ?_) (fun h => ?_) <;> (try simp only [Ctr.reads, beq_self_eq_true, bne_self_eq_false, reduceCtorEq, decide_true, decide_false, Bool.not_true, Bool.and_true, Bool.or_false, Bool.cond_true_left, Bool.cond_false_right, hd_letters, mkL_length, sq_pos, Int.reduceLT, mkEnd_re, hd_mk1, lt0_1, lt0_2, lt0_3, ne_eq, bne_self_eq_false, or_false, false_or, allP, side, decide_eq_true_eq, decide_eq_false_iff_not, not_false_eq_true, not_true_eq_false, Bool.not_true, Bool.not_false, Bool.not_eq_true', Bool.not_eq_false', Bool.not_eq_eq_eq_not, dTag_eta, dRoad_eta, dLetter_eta, dAddr_eta, dSub_eta, dHalf_eta, dPiece_eta, dPolicy_eta, dBucket_eta, dOut_eta, dPieces_eta, dEnd_eta, dKnown_eta, dWorld_eta] at h) <;> (try with_reducible contradiction)) | refine And.intro ?_ ?_ | refine toEx2 ?_ | (refine fun y hy => ?_; (try simp only [Ctr.reads, beq_self_eq_true, bne_self_eq_false, reduceCtorEq, decide_true, decide_false, Bool.not_true, Bool.and_true, Bool.or_false, Bool.cond_true_left, Bool.cond_false_right, hd_letters, mkL_length, sq_pos, Int.reduceLT, mkEnd_re, hd_mk1, lt0_1, lt0_2, lt0_3, ne_eq, bne_self_eq_false, or_false, false_or, allP, side, decide_eq_true_eq, decide_eq_false_iff_not, not_false_eq_true, not_true_eq_false, Bool.not_true, Bool.not_false, Bool.not_eq_true', Bool.not_eq_false', Bool.not_eq_eq_eq_not, dTag_eta, dRoad_eta, dLetter_eta, dAddr_eta, dSub_eta, dHalf_eta, dPiece_eta, dPolicy_eta, dBucket_eta, dOut_eta, dPieces_eta, dEnd_eta, dKnown_eta, dWorld_eta] at hy); subst hy) | intro _)
  all_goals first | refine Ob2.mk ?_ | (show drawOk _ _ _ = true; exact rfl)
  all_goals (try simp only [allP, side, Ctr.reads, dTag_eta, dRoad_eta, dLetter_eta, dAddr_eta, dSub_eta, dHalf_eta, dPiece_eta, dPolicy_eta, dBucket_eta, dOut_eta, dPieces_eta, dEnd_eta, dKnown_eta, dWorld_eta])
  all_goals first | done | assumption | (show (_, ()) = (_, ()); simp only [Prod.mk.injEq, and_true]; have hx := dWorld_iff w v; simp_all)
set_option maxHeartbeats 1000000 in
theorem h_laws_markAddrS : Ctr.holds E 125 (⟨[aRow .addr, aInt], [.mut, .ro], [aInt], fun ((a : List DAddr), (k : Int), _) => a.length ≤ 1073741824 ∧ KB k (4 * a.length), fun ((a : List DAddr), (k : Int), _) => ((k + 4 * (a.length : Int) : Int), ()), fun ((a : List DAddr), (k : Int), _) => (mkL mkAddr 4 a k, k, ()), false, .ret⟩) := by
  refine fn_okw (Γ := []) prgOk gnil Tryz.func125 rfl rfl rfl (fun ⟨a, k, _⟩ _ => ⟨⟨(mkL_length _ _ _ _).symm, trivial⟩, trivial, trivial⟩) ?_
  rintro ty ⟨(a : List DAddr), (k : Int), _⟩ (hp : a.length ≤ 1073741824 ∧ KB k (4 * a.length))
  obtain ⟨hp, hk, hk2⟩ := hp
  refine ⟨[(2, { X := Nat × Int × List DAddr, inv := fun x => x.1 ≤ a.length ∧ x.2.1 = k + 4 * (x.1 : Int) ∧ x.2.2 = mkL mkAddr 4 (a.take x.1) k ++ a.drop x.1, mu := fun x => a.length - x.1, vk := [5, 1], ov := fun x => [.a (.c (.leaf (.int (x.1 : Int)))), .a (.c (.leaf (.int x.2.1)))], bk := [], ob := fun x => [], rk := [0], orr := fun x => [⟨.addr, x.2.2, true, none⟩] })], ?_⟩
  conv => whnf
  refine And.intro ⟨((0, k, a) : Nat × Int × List DAddr), Ob.mk ?_, ?_⟩ (fun (x : Nat × Int × List DAddr) hx => ?_)
  · exact And.intro (Nat.zero_le _) (And.intro (by simp) (by simp [mkL]))
  · conv => whnf
    refine Ob.mk ?_
    all_goals (try simp only [allP, side, Ctr.reads, dTag_eta, dRoad_eta, dLetter_eta, dAddr_eta, dSub_eta, dHalf_eta, dPiece_eta, dPolicy_eta, dBucket_eta, dOut_eta, dPieces_eta, dEnd_eta, dKnown_eta, dWorld_eta]); all_goals repeat' (first | with_reducible exact rfl | exact trivial | with_reducible assumption | refine And.intro ?_ ?_ | exact (rfl : (_ : SV) = _) | exact (rfl : (_ : List SC) = _) | (show drawOk _ _ _ = true; exact rfl) | (show ((0 : Nat) : Int) = 0; exact rfl))
  obtain ⟨i, K, R⟩ := x
  obtain ⟨hi, hKe, hR⟩ := hx
  have hi : i ≤ a.length := hi
  have hKe : K = k + 4 * (i : Int) := hKe
  have hR : R = mkL mkAddr 4 (a.take i) k ++ a.drop i := hR
  have hml : R.length = a.length := by rw [hR]; exact mk_len mkAddr 4 a k i hi
  rcases Nat.lt_or_ge i a.length with hlt | hge
  · obtain ⟨x, _, hxi, hd⟩ := at_step a i (ETy.addr.zero) hlt
    have hw := w64_succ hlt hp
    have hs : R.set (i : Int).toNat (mkAddr K) = mkL mkAddr 4 (a.take (i + 1)) k ++ a.drop (i + 1) := by rw [hR, hKe]; exact mk_step mkAddr 4 a k i hlt
    have hK1 : 0 ≤ K := by omega
    have hK2 : K + 4 ≤ 1152921504606846976 := by omega
    have hL : (i : Int).toNat < R.length := by rw [hml]; simpa using hlt
    clear hR
    repeat' ((conv => whnf); first | refine toOb2 ?_ | refine And.intro (fun _ => ?_) (fun _ => ?_) | refine And.intro ?_ ?_ | refine toEx2 ?_ | (refine fun Q hQ => ?_; try simp (disch := first | assumption | omega | (simp only [List.length_set]; assumption)) only [set_get, List.length_set, List.set_set, w64_id, Int.add_assoc, Int.reduceAdd] at hQ; subst hQ) | intro _)
    all_goals try (exfalso; have h9 := ge_of_dec (n := R.length) (by assumption); omega)
    all_goals clear hKe
    all_goals first | refine Ob2.mk ?_ | refine Ex2.of ((i + 1, K + 4, R.set (i : Int).toNat (mkAddr K))) ?_ ?_ | skip
    all_goals try ((conv => whnf); refine Ob.mk ?_)
    all_goals (try simp only [allP, side, Ctr.reads, dTag_eta, dRoad_eta, dLetter_eta, dAddr_eta, dSub_eta, dHalf_eta, dPiece_eta, dPolicy_eta, dBucket_eta, dOut_eta, dPieces_eta, dEnd_eta, dKnown_eta, dWorld_eta]); all_goals repeat' (first | with_reducible exact rfl | exact trivial | with_reducible assumption | refine And.intro ?_ ?_ | exact (rfl : (_ : SV) = _) | exact (rfl : (_ : List SC) = _) | (show drawOk _ _ _ = true; exact rfl) | (show ((0 : Nat) : Int) = 0; exact rfl))
    all_goals (try simp only [List.length_set, List.set_set, Ctr.reads, dTag_eta, dRoad_eta, dLetter_eta, dAddr_eta, dSub_eta, dHalf_eta, dPiece_eta, dPolicy_eta, dBucket_eta, dOut_eta, dPieces_eta, dEnd_eta, dKnown_eta, dWorld_eta] at *)
    all_goals (try simp (disch := first | assumption | omega | (simp only [List.length_set]; assumption)) only [set_get, List.length_set, List.set_set, w64_id, Int.add_assoc, Int.reduceAdd])
    all_goals first | done | omega | exact hs | exact hw.symm | (show R.set _ _ = R.set _ _; simp [mkAddr, m3, mkInt, Int.add_assoc]) | (show (_ : Int) = _; omega)
  · have hl : i = a.length := by omega
    subst hl
    have hR : R = mkL mkAddr 4 a k := by rw [hR]; simp
    repeat' ((conv => whnf); first | refine toOb2 ?_ | refine And.intro (fun _ => ?_) (fun _ => ?_) | refine And.intro ?_ ?_ | refine toEx2 ?_ | intro _)
    all_goals try (exfalso; have h9 := lt_of_dec (n := R.length) (by assumption); omega)
    all_goals first | refine Ob2.mk ?_ | refine Ex2.of ((a.length, K, R)) ?_ ?_ | skip
    all_goals try ((conv => whnf); refine Ob.mk ?_)
    all_goals (try simp only [allP, side, Ctr.reads, dTag_eta, dRoad_eta, dLetter_eta, dAddr_eta, dSub_eta, dHalf_eta, dPiece_eta, dPolicy_eta, dBucket_eta, dOut_eta, dPieces_eta, dEnd_eta, dKnown_eta, dWorld_eta]); all_goals repeat' (first | with_reducible exact rfl | exact trivial | with_reducible assumption | refine And.intro ?_ ?_ | exact (rfl : (_ : SV) = _) | exact (rfl : (_ : List SC) = _) | (show drawOk _ _ _ = true; exact rfl) | (show ((0 : Nat) : Int) = 0; exact rfl))
    all_goals (try simp only [Ctr.reads, dTag_eta, dRoad_eta, dLetter_eta, dAddr_eta, dSub_eta, dHalf_eta, dPiece_eta, dPolicy_eta, dBucket_eta, dOut_eta, dPieces_eta, dEnd_eta, dKnown_eta, dWorld_eta] at *)
    all_goals first | done | (rw [hKe]; done) | (rw [hR]; done) | exact hR
set_option maxHeartbeats 1000000 in
theorem h_laws_markSubS : Ctr.holds E 126 (⟨[aRow .sub, aInt], [.mut, .ro], [aInt], fun ((a : List DSub), (k : Int), _) => a.length ≤ 1073741824 ∧ KB k (10 * a.length), fun ((a : List DSub), (k : Int), _) => ((k + 10 * (a.length : Int) : Int), ()), fun ((a : List DSub), (k : Int), _) => (mkL mkSub 10 a k, k, ()), false, .ret⟩) := by
  refine fn_okw (Γ := []) prgOk gnil Tryz.func126 rfl rfl rfl (fun ⟨a, k, _⟩ _ => ⟨⟨(mkL_length _ _ _ _).symm, trivial⟩, trivial, trivial⟩) ?_
  rintro ty ⟨(a : List DSub), (k : Int), _⟩ (hp : a.length ≤ 1073741824 ∧ KB k (10 * a.length))
  obtain ⟨hp, hk, hk2⟩ := hp
  refine ⟨[(2, { X := Nat × Int × List DSub, inv := fun x => x.1 ≤ a.length ∧ x.2.1 = k + 10 * (x.1 : Int) ∧ x.2.2 = mkL mkSub 10 (a.take x.1) k ++ a.drop x.1, mu := fun x => a.length - x.1, vk := [5, 1], ov := fun x => [.a (.c (.leaf (.int (x.1 : Int)))), .a (.c (.leaf (.int x.2.1)))], bk := [], ob := fun x => [], rk := [0], orr := fun x => [⟨.sub, x.2.2, true, none⟩] })], ?_⟩
  conv => whnf
  refine And.intro ⟨((0, k, a) : Nat × Int × List DSub), Ob.mk ?_, ?_⟩ (fun (x : Nat × Int × List DSub) hx => ?_)
  · exact And.intro (Nat.zero_le _) (And.intro (by simp) (by simp [mkL]))
  · conv => whnf
    refine Ob.mk ?_
    all_goals (try simp only [allP, side, Ctr.reads, dTag_eta, dRoad_eta, dLetter_eta, dAddr_eta, dSub_eta, dHalf_eta, dPiece_eta, dPolicy_eta, dBucket_eta, dOut_eta, dPieces_eta, dEnd_eta, dKnown_eta, dWorld_eta]); all_goals repeat' (first | with_reducible exact rfl | exact trivial | with_reducible assumption | refine And.intro ?_ ?_ | exact (rfl : (_ : SV) = _) | exact (rfl : (_ : List SC) = _) | (show drawOk _ _ _ = true; exact rfl) | (show ((0 : Nat) : Int) = 0; exact rfl))
  obtain ⟨i, K, R⟩ := x
  obtain ⟨hi, hKe, hR⟩ := hx
  have hi : i ≤ a.length := hi
  have hKe : K = k + 10 * (i : Int) := hKe
  have hR : R = mkL mkSub 10 (a.take i) k ++ a.drop i := hR
  have hml : R.length = a.length := by rw [hR]; exact mk_len mkSub 10 a k i hi
  rcases Nat.lt_or_ge i a.length with hlt | hge
  · obtain ⟨x, _, hxi, hd⟩ := at_step a i (ETy.sub.zero) hlt
    have hw := w64_succ hlt hp
    have hs : R.set (i : Int).toNat (mkSub K) = mkL mkSub 10 (a.take (i + 1)) k ++ a.drop (i + 1) := by rw [hR, hKe]; exact mk_step mkSub 10 a k i hlt
    have hK1 : 0 ≤ K := by omega
    have hK2 : K + 10 ≤ 1152921504606846976 := by omega
    have hL : (i : Int).toNat < R.length := by rw [hml]; simpa using hlt
    clear hR
    repeat' ((conv => whnf); first | refine toOb2 ?_ | refine And.intro (fun _ => ?_) (fun _ => ?_) | refine And.intro ?_ ?_ | refine toEx2 ?_ | (refine fun Q hQ => ?_; try simp (disch := first | assumption | omega | (simp only [List.length_set]; assumption)) only [set_get, List.length_set, List.set_set, w64_id, Int.add_assoc, Int.reduceAdd] at hQ; subst hQ) | intro _)
    all_goals try (exfalso; have h9 := ge_of_dec (n := R.length) (by assumption); omega)
    all_goals clear hKe
    all_goals first | refine Ob2.mk ?_ | refine Ex2.of ((i + 1, K + 10, R.set (i : Int).toNat (mkSub K))) ?_ ?_ | skip
    all_goals try ((conv => whnf); refine Ob.mk ?_)
    all_goals (try simp only [allP, side, Ctr.reads, dTag_eta, dRoad_eta, dLetter_eta, dAddr_eta, dSub_eta, dHalf_eta, dPiece_eta, dPolicy_eta, dBucket_eta, dOut_eta, dPieces_eta, dEnd_eta, dKnown_eta, dWorld_eta]); all_goals repeat' (first | with_reducible exact rfl | exact trivial | with_reducible assumption | refine And.intro ?_ ?_ | exact (rfl : (_ : SV) = _) | exact (rfl : (_ : List SC) = _) | (show drawOk _ _ _ = true; exact rfl) | (show ((0 : Nat) : Int) = 0; exact rfl))
    all_goals (try simp only [List.length_set, List.set_set, Ctr.reads, dTag_eta, dRoad_eta, dLetter_eta, dAddr_eta, dSub_eta, dHalf_eta, dPiece_eta, dPolicy_eta, dBucket_eta, dOut_eta, dPieces_eta, dEnd_eta, dKnown_eta, dWorld_eta] at *)
    all_goals (try simp (disch := first | assumption | omega | (simp only [List.length_set]; assumption)) only [set_get, List.length_set, List.set_set, w64_id, Int.add_assoc, Int.reduceAdd])
    all_goals first | done | omega | exact hs | exact hw.symm | (show R.set _ _ = R.set _ _; simp [mkSub, m3, mkInt, Int.add_assoc]) | (show (_ : Int) = _; omega)
  · have hl : i = a.length := by omega
    subst hl
    have hR : R = mkL mkSub 10 a k := by rw [hR]; simp
    repeat' ((conv => whnf); first | refine toOb2 ?_ | refine And.intro (fun _ => ?_) (fun _ => ?_) | refine And.intro ?_ ?_ | refine toEx2 ?_ | intro _)
    all_goals try (exfalso; have h9 := lt_of_dec (n := R.length) (by assumption); omega)
    all_goals first | refine Ob2.mk ?_ | refine Ex2.of ((a.length, K, R)) ?_ ?_ | skip
    all_goals try ((conv => whnf); refine Ob.mk ?_)
    all_goals (try simp only [allP, side, Ctr.reads, dTag_eta, dRoad_eta, dLetter_eta, dAddr_eta, dSub_eta, dHalf_eta, dPiece_eta, dPolicy_eta, dBucket_eta, dOut_eta, dPieces_eta, dEnd_eta, dKnown_eta, dWorld_eta]); all_goals repeat' (first | with_reducible exact rfl | exact trivial | with_reducible assumption | refine And.intro ?_ ?_ | exact (rfl : (_ : SV) = _) | exact (rfl : (_ : List SC) = _) | (show drawOk _ _ _ = true; exact rfl) | (show ((0 : Nat) : Int) = 0; exact rfl))
    all_goals (try simp only [Ctr.reads, dTag_eta, dRoad_eta, dLetter_eta, dAddr_eta, dSub_eta, dHalf_eta, dPiece_eta, dPolicy_eta, dBucket_eta, dOut_eta, dPieces_eta, dEnd_eta, dKnown_eta, dWorld_eta] at *)
    all_goals first | done | (rw [hKe]; done) | (rw [hR]; done) | exact hR
set_option maxHeartbeats 1000000 in
theorem h_laws_markHalfS : Ctr.holds E 127 (⟨[aRow .half, aInt], [.mut, .ro], [aInt], fun ((a : List DHalf), (k : Int), _) => a.length ≤ 1073741824 ∧ KB k (8 * a.length), fun ((a : List DHalf), (k : Int), _) => ((k + 8 * (a.length : Int) : Int), ()), fun ((a : List DHalf), (k : Int), _) => (mkL mkHalf 8 a k, k, ()), false, .ret⟩) := by
  refine fn_okw (Γ := []) prgOk gnil Tryz.func127 rfl rfl rfl (fun ⟨a, k, _⟩ _ => ⟨⟨(mkL_length _ _ _ _).symm, trivial⟩, trivial, trivial⟩) ?_
  rintro ty ⟨(a : List DHalf), (k : Int), _⟩ (hp : a.length ≤ 1073741824 ∧ KB k (8 * a.length))
  obtain ⟨hp, hk, hk2⟩ := hp
  refine ⟨[(2, { X := Nat × Int × List DHalf, inv := fun x => x.1 ≤ a.length ∧ x.2.1 = k + 8 * (x.1 : Int) ∧ x.2.2 = mkL mkHalf 8 (a.take x.1) k ++ a.drop x.1, mu := fun x => a.length - x.1, vk := [5, 1], ov := fun x => [.a (.c (.leaf (.int (x.1 : Int)))), .a (.c (.leaf (.int x.2.1)))], bk := [], ob := fun x => [], rk := [0], orr := fun x => [⟨.half, x.2.2, true, none⟩] })], ?_⟩
  conv => whnf
  refine And.intro ⟨((0, k, a) : Nat × Int × List DHalf), Ob.mk ?_, ?_⟩ (fun (x : Nat × Int × List DHalf) hx => ?_)
  · exact And.intro (Nat.zero_le _) (And.intro (by simp) (by simp [mkL]))
  · conv => whnf
    refine Ob.mk ?_
    all_goals (try simp only [allP, side, Ctr.reads, dTag_eta, dRoad_eta, dLetter_eta, dAddr_eta, dSub_eta, dHalf_eta, dPiece_eta, dPolicy_eta, dBucket_eta, dOut_eta, dPieces_eta, dEnd_eta, dKnown_eta, dWorld_eta]); all_goals repeat' (first | with_reducible exact rfl | exact trivial | with_reducible assumption | refine And.intro ?_ ?_ | exact (rfl : (_ : SV) = _) | exact (rfl : (_ : List SC) = _) | (show drawOk _ _ _ = true; exact rfl) | (show ((0 : Nat) : Int) = 0; exact rfl))
  obtain ⟨i, K, R⟩ := x
  obtain ⟨hi, hKe, hR⟩ := hx
  have hi : i ≤ a.length := hi
  have hKe : K = k + 8 * (i : Int) := hKe
  have hR : R = mkL mkHalf 8 (a.take i) k ++ a.drop i := hR
  have hml : R.length = a.length := by rw [hR]; exact mk_len mkHalf 8 a k i hi
  rcases Nat.lt_or_ge i a.length with hlt | hge
  · obtain ⟨x, _, hxi, hd⟩ := at_step a i (ETy.half.zero) hlt
    have hw := w64_succ hlt hp
    have hs : R.set (i : Int).toNat (mkHalf K) = mkL mkHalf 8 (a.take (i + 1)) k ++ a.drop (i + 1) := by rw [hR, hKe]; exact mk_step mkHalf 8 a k i hlt
    have hK1 : 0 ≤ K := by omega
    have hK2 : K + 8 ≤ 1152921504606846976 := by omega
    have hL : (i : Int).toNat < R.length := by rw [hml]; simpa using hlt
    clear hR
    repeat' ((conv => whnf); first | refine toOb2 ?_ | refine And.intro (fun _ => ?_) (fun _ => ?_) | refine And.intro ?_ ?_ | refine toEx2 ?_ | (refine fun Q hQ => ?_; try simp (disch := first | assumption | omega | (simp only [List.length_set]; assumption)) only [set_get, List.length_set, List.set_set, w64_id, Int.add_assoc, Int.reduceAdd] at hQ; subst hQ) | intro _)
    all_goals try (exfalso; have h9 := ge_of_dec (n := R.length) (by assumption); omega)
    all_goals clear hKe
    all_goals first | refine Ob2.mk ?_ | refine Ex2.of ((i + 1, K + 8, R.set (i : Int).toNat (mkHalf K))) ?_ ?_ | skip
    all_goals try ((conv => whnf); refine Ob.mk ?_)
    all_goals (try simp only [allP, side, Ctr.reads, dTag_eta, dRoad_eta, dLetter_eta, dAddr_eta, dSub_eta, dHalf_eta, dPiece_eta, dPolicy_eta, dBucket_eta, dOut_eta, dPieces_eta, dEnd_eta, dKnown_eta, dWorld_eta]); all_goals repeat' (first | with_reducible exact rfl | exact trivial | with_reducible assumption | refine And.intro ?_ ?_ | exact (rfl : (_ : SV) = _) | exact (rfl : (_ : List SC) = _) | (show drawOk _ _ _ = true; exact rfl) | (show ((0 : Nat) : Int) = 0; exact rfl))
    all_goals (try simp only [List.length_set, List.set_set, Ctr.reads, dTag_eta, dRoad_eta, dLetter_eta, dAddr_eta, dSub_eta, dHalf_eta, dPiece_eta, dPolicy_eta, dBucket_eta, dOut_eta, dPieces_eta, dEnd_eta, dKnown_eta, dWorld_eta] at *)
    all_goals (try simp (disch := first | assumption | omega | (simp only [List.length_set]; assumption)) only [set_get, List.length_set, List.set_set, w64_id, Int.add_assoc, Int.reduceAdd])
    all_goals first | done | omega | exact hs | exact hw.symm | (show R.set _ _ = R.set _ _; simp [mkHalf, m3, mkInt, Int.add_assoc]) | (show (_ : Int) = _; omega)
  · have hl : i = a.length := by omega
    subst hl
    have hR : R = mkL mkHalf 8 a k := by rw [hR]; simp
    repeat' ((conv => whnf); first | refine toOb2 ?_ | refine And.intro (fun _ => ?_) (fun _ => ?_) | refine And.intro ?_ ?_ | refine toEx2 ?_ | intro _)
    all_goals try (exfalso; have h9 := lt_of_dec (n := R.length) (by assumption); omega)
    all_goals first | refine Ob2.mk ?_ | refine Ex2.of ((a.length, K, R)) ?_ ?_ | skip
    all_goals try ((conv => whnf); refine Ob.mk ?_)
    all_goals (try simp only [allP, side, Ctr.reads, dTag_eta, dRoad_eta, dLetter_eta, dAddr_eta, dSub_eta, dHalf_eta, dPiece_eta, dPolicy_eta, dBucket_eta, dOut_eta, dPieces_eta, dEnd_eta, dKnown_eta, dWorld_eta]); all_goals repeat' (first | with_reducible exact rfl | exact trivial | with_reducible assumption | refine And.intro ?_ ?_ | exact (rfl : (_ : SV) = _) | exact (rfl : (_ : List SC) = _) | (show drawOk _ _ _ = true; exact rfl) | (show ((0 : Nat) : Int) = 0; exact rfl))
    all_goals (try simp only [Ctr.reads, dTag_eta, dRoad_eta, dLetter_eta, dAddr_eta, dSub_eta, dHalf_eta, dPiece_eta, dPolicy_eta, dBucket_eta, dOut_eta, dPieces_eta, dEnd_eta, dKnown_eta, dWorld_eta] at *)
    all_goals first | done | (rw [hKe]; done) | (rw [hR]; done) | exact hR
set_option maxHeartbeats 1000000 in
theorem h_laws_markText : Ctr.holds E 130 (.reads [aInt] [aStr] (fun ((k : Int), _) => 0 ≤ k ∧ k ≤ 1152921504606846976) fun ((k : Int), _) => (mText k, ())) := by
  refine fn_ok (Γ := []) prgOk gnil Tryz.func130 rfl rfl rfl rfl ?_
  rintro ty ⟨(k : Int), _⟩ (hp : 0 ≤ k ∧ k ≤ 1152921504606846976)
  obtain ⟨hp, hp2⟩ := hp
  refine ⟨[(4, { X := Nat × List UInt8, inv := fun x => x.2.length + x.1 ≤ k.toNat ∧ mDig x.1 x.2 = mDig k.toNat [], mu := fun x => x.1, vk := [0, 3], ov := fun x => [.a (.c (.leaf (.int (x.1 : Int)))), .a (.c (.leaf (.str x.2)))], bk := [], ob := fun x => [], rk := [], orr := fun x => [] })], ?_⟩
  conv => whnf
  refine And.intro (fun hn => ?_) (fun hn => ?_)
  · repeat' ((conv => whnf); first | refine toOb2 ?_ | refine And.intro (fun _ => ?_) (fun _ => ?_) | refine And.intro ?_ ?_ | refine toEx2 ?_ | intro _)
    all_goals refine Ob2.mk ?_
    have hk : k ≤ 0 := by simpa using hn
    show (_, ()) = (_, ())
    simp [mText, hk]
  have hk : ¬ k ≤ 0 := by simpa using hn
  conv => whnf
  refine And.intro ⟨((k.toNat, []) : Nat × List UInt8), Ob.mk ?_, ?_⟩ (fun (i : Nat × List UInt8) hi => ?_)
  · exact And.intro (by simp) rfl
  · conv => whnf
    refine Ob.mk ?_
    all_goals (try simp only [allP, side, Ctr.reads, dTag_eta, dRoad_eta, dLetter_eta, dAddr_eta, dSub_eta, dHalf_eta, dPiece_eta, dPolicy_eta, dBucket_eta, dOut_eta, dPieces_eta, dEnd_eta, dKnown_eta, dWorld_eta]); all_goals repeat' (first | with_reducible exact rfl | exact trivial | with_reducible assumption | refine And.intro ?_ ?_ | exact (rfl : (_ : SV) = _) | exact (rfl : (_ : List SC) = _) | (show drawOk _ _ _ = true; exact rfl) | (show ((0 : Nat) : Int) = 0; exact rfl))
    all_goals (simp; omega)
  obtain ⟨j, o⟩ := i
  obtain ⟨hl, hm⟩ := hi
  have hl : o.length + j ≤ k.toNat := hl
  have hm : mDig j o = mDig k.toNat [] := hm
  rcases Nat.eq_zero_or_pos j with hj | hj
  · subst hj
    repeat' ((conv => whnf); first | refine toOb2 ?_ | refine And.intro (fun _ => ?_) (fun _ => ?_) | refine And.intro ?_ ?_ | refine toEx2 ?_ | intro _)
    all_goals try (exfalso; revert ‹decide _ = true›; simp; done)
    all_goals refine Ob2.mk ?_
    all_goals (try simp only [allP, side, Ctr.reads, dTag_eta, dRoad_eta, dLetter_eta, dAddr_eta, dSub_eta, dHalf_eta, dPiece_eta, dPolicy_eta, dBucket_eta, dOut_eta, dPieces_eta, dEnd_eta, dKnown_eta, dWorld_eta]); all_goals repeat' (first | with_reducible exact rfl | exact trivial | with_reducible assumption | refine And.intro ?_ ?_ | exact (rfl : (_ : SV) = _) | exact (rfl : (_ : List SC) = _) | (show drawOk _ _ _ = true; exact rfl) | (show ((0 : Nat) : Int) = 0; exact rfl))
    all_goals (try simp only [Ctr.reads, dTag_eta, dRoad_eta, dLetter_eta, dAddr_eta, dSub_eta, dHalf_eta, dPiece_eta, dPolicy_eta, dBucket_eta, dOut_eta, dPieces_eta, dEnd_eta, dKnown_eta, dWorld_eta] at *)
    all_goals first | done | (simp; omega) | simp [mText, hk, ← hm, mDig]
  · rw [mDig, dif_neg (by omega)] at hm
    repeat' ((conv => whnf); first | refine toOb2 ?_ | refine And.intro (fun _ => ?_) (fun _ => ?_) | refine And.intro ?_ ?_ | refine toEx2 ?_ | intro _)
    all_goals try (exfalso; revert ‹decide _ = false›; simp; omega)
    all_goals first | refine Ob2.mk ?_ | refine Ex2.of ((j / 10, UInt8.ofNat (IntKind.u8.wrap (w64 (48 + (j : Int).tmod 10))).toNat :: o)) ?_ ?_ | skip
    all_goals try ((conv => whnf); refine Ob.mk ?_)
    all_goals (try simp only [allP, side, Ctr.reads, dTag_eta, dRoad_eta, dLetter_eta, dAddr_eta, dSub_eta, dHalf_eta, dPiece_eta, dPolicy_eta, dBucket_eta, dOut_eta, dPieces_eta, dEnd_eta, dKnown_eta, dWorld_eta]); all_goals repeat' (first | with_reducible exact rfl | exact trivial | with_reducible assumption | refine And.intro ?_ ?_ | exact (rfl : (_ : SV) = _) | exact (rfl : (_ : List SC) = _) | (show drawOk _ _ _ = true; exact rfl) | (show ((0 : Nat) : Int) = 0; exact rfl))
    all_goals (try simp only [Ctr.reads, dTag_eta, dRoad_eta, dLetter_eta, dAddr_eta, dSub_eta, dHalf_eta, dPiece_eta, dPolicy_eta, dBucket_eta, dOut_eta, dPieces_eta, dEnd_eta, dKnown_eta, dWorld_eta] at *)
    all_goals first | done | exact hm | decide | (simp; omega) | (intro n hn; simp at hn; subst hn; exact u8_bd _) | omega | rfl | exact (w64_div10 (j := j) (by omega)).symm
set_option maxHeartbeats 1000000 in
theorem h_laws_markPieceS : Ctr.holds E 265 (⟨[aRow .piece, aInt], [.mut, .ro], [aInt], fun ((a : List DPiece), (k : Int), _) => a.length ≤ 1073741824 ∧ KB k (2 * a.length), fun ((a : List DPiece), (k : Int), _) => ((k + 2 * (a.length : Int) : Int), ()), fun ((a : List DPiece), (k : Int), _) => (mkL mkPiece 2 a k, k, ()), false, .ret⟩) := by
  refine fn_okw (Γ := [(130, .reads [aInt] [aStr] (fun ((k : Int), _) => 0 ≤ k ∧ k ≤ 1152921504606846976) fun ((k : Int), _) => (mText k, ()))]) prgOk (gcons h_laws_markText gnil) Tryz.func265 rfl rfl rfl (fun ⟨a, k, _⟩ _ => ⟨⟨(mkL_length _ _ _ _).symm, trivial⟩, trivial, trivial⟩) ?_
  rintro ty ⟨(a : List DPiece), (k : Int), _⟩ (hp : a.length ≤ 1073741824 ∧ KB k (2 * a.length))
  obtain ⟨hp, hk, hk2⟩ := hp
  refine ⟨[(2, { X := Nat × Int × List DPiece, inv := fun x => x.1 ≤ a.length ∧ x.2.1 = k + 2 * (x.1 : Int) ∧ x.2.2 = mkL mkPiece 2 (a.take x.1) k ++ a.drop x.1, mu := fun x => a.length - x.1, vk := [5, 1], ov := fun x => [.a (.c (.leaf (.int (x.1 : Int)))), .a (.c (.leaf (.int x.2.1)))], bk := [], ob := fun x => [], rk := [0], orr := fun x => [⟨.piece, x.2.2, true, none⟩] })], ?_⟩
  conv => whnf
  refine And.intro ⟨((0, k, a) : Nat × Int × List DPiece), Ob.mk ?_, ?_⟩ (fun (x : Nat × Int × List DPiece) hx => ?_)
  · exact And.intro (Nat.zero_le _) (And.intro (by simp) (by simp [mkL]))
  · conv => whnf
    refine Ob.mk ?_
    all_goals (try simp only [allP, side, Ctr.reads, dTag_eta, dRoad_eta, dLetter_eta, dAddr_eta, dSub_eta, dHalf_eta, dPiece_eta, dPolicy_eta, dBucket_eta, dOut_eta, dPieces_eta, dEnd_eta, dKnown_eta, dWorld_eta]); all_goals repeat' (first | with_reducible exact rfl | exact trivial | with_reducible assumption | refine And.intro ?_ ?_ | exact (rfl : (_ : SV) = _) | exact (rfl : (_ : List SC) = _) | (show drawOk _ _ _ = true; exact rfl) | (show ((0 : Nat) : Int) = 0; exact rfl))
  obtain ⟨i, K, R⟩ := x
  obtain ⟨hi, hKe, hR⟩ := hx
  have hi : i ≤ a.length := hi
  have hKe : K = k + 2 * (i : Int) := hKe
  have hR : R = mkL mkPiece 2 (a.take i) k ++ a.drop i := hR
  have hml : R.length = a.length := by rw [hR]; exact mk_len mkPiece 2 a k i hi
  rcases Nat.lt_or_ge i a.length with hlt | hge
  · obtain ⟨x, _, hxi, hd⟩ := at_step a i (ETy.piece.zero) hlt
    have hw := w64_succ hlt hp
    have hs : R.set (i : Int).toNat (mkPiece K) = mkL mkPiece 2 (a.take (i + 1)) k ++ a.drop (i + 1) := by rw [hR, hKe]; exact mk_step mkPiece 2 a k i hlt
    have hK1 : 0 ≤ K := by omega
    have hK2 : K + 2 ≤ 1152921504606846976 := by omega
    have hL : (i : Int).toNat < R.length := by rw [hml]; simpa using hlt
    clear hR
    repeat' ((conv => whnf); first | refine toOb2 ?_ | refine And.intro (fun _ => ?_) (fun _ => ?_) | refine And.intro ?_ ?_ | refine toEx2 ?_ | (refine fun Q hQ => ?_; try simp (disch := first | assumption | omega | (simp only [List.length_set]; assumption)) only [set_get, List.length_set, List.set_set, w64_id, Int.add_assoc, Int.reduceAdd] at hQ; subst hQ) | intro _)
    all_goals try (exfalso; have h9 := ge_of_dec (n := R.length) (by assumption); omega)
    all_goals clear hKe
    all_goals first | refine Ob2.mk ?_ | refine Ex2.of ((i + 1, K + 2, R.set (i : Int).toNat (mkPiece K))) ?_ ?_ | skip
    all_goals try ((conv => whnf); refine Ob.mk ?_)
    all_goals (try simp only [allP, side, Ctr.reads, dTag_eta, dRoad_eta, dLetter_eta, dAddr_eta, dSub_eta, dHalf_eta, dPiece_eta, dPolicy_eta, dBucket_eta, dOut_eta, dPieces_eta, dEnd_eta, dKnown_eta, dWorld_eta]); all_goals repeat' (first | with_reducible exact rfl | exact trivial | with_reducible assumption | refine And.intro ?_ ?_ | exact (rfl : (_ : SV) = _) | exact (rfl : (_ : List SC) = _) | (show drawOk _ _ _ = true; exact rfl) | (show ((0 : Nat) : Int) = 0; exact rfl))
    all_goals (try simp only [List.length_set, List.set_set, Ctr.reads, dTag_eta, dRoad_eta, dLetter_eta, dAddr_eta, dSub_eta, dHalf_eta, dPiece_eta, dPolicy_eta, dBucket_eta, dOut_eta, dPieces_eta, dEnd_eta, dKnown_eta, dWorld_eta] at *)
    all_goals (try simp (disch := first | assumption | omega | (simp only [List.length_set]; assumption)) only [set_get, List.length_set, List.set_set, w64_id, Int.add_assoc, Int.reduceAdd])
    all_goals first | done | omega | exact hs | exact hw.symm | (show R.set _ _ = R.set _ _; simp [mkPiece, m3, mkInt, Int.add_assoc]) | (show (_ : Int) = _; omega)
  · have hl : i = a.length := by omega
    subst hl
    have hR : R = mkL mkPiece 2 a k := by rw [hR]; simp
    repeat' ((conv => whnf); first | refine toOb2 ?_ | refine And.intro (fun _ => ?_) (fun _ => ?_) | refine And.intro ?_ ?_ | refine toEx2 ?_ | refine toY ?_ | intro _)
    all_goals try (exfalso; have h9 := lt_of_dec (n := R.length) (by assumption); omega)
    all_goals first | refine Ob2.mk ?_ | refine Ex2.of ((a.length, K, R)) ?_ ?_ | skip
    all_goals try ((conv => whnf); refine Ob.mk ?_)
    all_goals (try simp only [allP, side, Ctr.reads, dTag_eta, dRoad_eta, dLetter_eta, dAddr_eta, dSub_eta, dHalf_eta, dPiece_eta, dPolicy_eta, dBucket_eta, dOut_eta, dPieces_eta, dEnd_eta, dKnown_eta, dWorld_eta]); all_goals repeat' (first | with_reducible exact rfl | exact trivial | with_reducible assumption | refine And.intro ?_ ?_ | exact (rfl : (_ : SV) = _) | exact (rfl : (_ : List SC) = _) | (show drawOk _ _ _ = true; exact rfl) | (show ((0 : Nat) : Int) = 0; exact rfl))
    all_goals (try simp only [Ctr.reads, dTag_eta, dRoad_eta, dLetter_eta, dAddr_eta, dSub_eta, dHalf_eta, dPiece_eta, dPolicy_eta, dBucket_eta, dOut_eta, dPieces_eta, dEnd_eta, dKnown_eta, dWorld_eta] at *)
    all_goals first | done | (rw [hKe]; done) | (rw [hR]; done) | exact hR
set_option maxHeartbeats 1000000 in
theorem h_laws_markPieces : Ctr.holds E 128 (⟨[aPieces, aInt], [.mut, .ro], [aInt], fun ((p : DPieces), (k : Int), _) => p.list.length ≤ 1073741824 ∧ KB k (2 * p.list.length), fun ((p : DPieces), (k : Int), _) => ((k + 2 * (p.list.length : Int) : Int), ()), fun ((p : DPieces), (k : Int), _) => ({ p with list := mkL mkPiece 2 p.list k }, k, ()), false, .ret⟩) := by
  refine fn_okw (Γ := [(265, ⟨[aRow .piece, aInt], [.mut, .ro], [aInt], fun ((a : List DPiece), (k : Int), _) => a.length ≤ 1073741824 ∧ KB k (2 * a.length), fun ((a : List DPiece), (k : Int), _) => ((k + 2 * (a.length : Int) : Int), ()), fun ((a : List DPiece), (k : Int), _) => (mkL mkPiece 2 a k, k, ()), false, .ret⟩)]) prgOk (gcons h_laws_markPieceS gnil) Tryz.func128 rfl rfl rfl (fun ⟨a, k, _⟩ _ => ⟨⟨(mkL_length _ _ _ _).symm, trivial⟩, trivial, trivial⟩) ?_
  rintro ty ⟨(p : DPieces), (k : Int), _⟩ (hp : p.list.length ≤ 1073741824 ∧ KB k (2 * p.list.length))
  refine ⟨[], ?_⟩
  repeat' ((conv => whnf); first | refine toOb2 ?_ | refine And.intro (fun _ => ?_) (fun _ => ?_) | refine And.intro ?_ ?_ | refine toEx2 ?_ | refine toY ?_ | intro _)
  all_goals refine Ob2.mk ?_
  all_goals first | exact trivial | exact hp | exact And.intro rfl rfl
set_option maxHeartbeats 1000000 in
theorem h_laws_markIntS : Ctr.holds E 129 (⟨[aRow .int, aInt], [.mut, .ro], [aInt], fun ((a : List Int), (k : Int), _) => a.length ≤ 1073741824 ∧ KB k (1 * a.length), fun ((a : List Int), (k : Int), _) => ((k + 1 * (a.length : Int) : Int), ()), fun ((a : List Int), (k : Int), _) => (mkL mkInt 1 a k, k, ()), false, .ret⟩) := by
  refine fn_okw (Γ := []) prgOk gnil Tryz.func129 rfl rfl rfl (fun ⟨a, k, _⟩ _ => ⟨⟨(mkL_length _ _ _ _).symm, trivial⟩, trivial, trivial⟩) ?_
  rintro ty ⟨(a : List Int), (k : Int), _⟩ (hp : a.length ≤ 1073741824 ∧ KB k (1 * a.length))
  obtain ⟨hp, hk, hk2⟩ := hp
  refine ⟨[(2, { X := Nat × Int × List Int, inv := fun x => x.1 ≤ a.length ∧ x.2.1 = k + 1 * (x.1 : Int) ∧ x.2.2 = mkL mkInt 1 (a.take x.1) k ++ a.drop x.1, mu := fun x => a.length - x.1, vk := [5, 1], ov := fun x => [.a (.c (.leaf (.int (x.1 : Int)))), .a (.c (.leaf (.int x.2.1)))], bk := [], ob := fun x => [], rk := [0], orr := fun x => [⟨.int, x.2.2, true, none⟩] })], ?_⟩
  conv => whnf
  refine And.intro ⟨((0, k, a) : Nat × Int × List Int), Ob.mk ?_, ?_⟩ (fun (x : Nat × Int × List Int) hx => ?_)
  · exact And.intro (Nat.zero_le _) (And.intro (by simp) (by simp [mkL]))
  · conv => whnf
    refine Ob.mk ?_
    all_goals (try simp only [allP, side, Ctr.reads, dTag_eta, dRoad_eta, dLetter_eta, dAddr_eta, dSub_eta, dHalf_eta, dPiece_eta, dPolicy_eta, dBucket_eta, dOut_eta, dPieces_eta, dEnd_eta, dKnown_eta, dWorld_eta]); all_goals repeat' (first | with_reducible exact rfl | exact trivial | with_reducible assumption | refine And.intro ?_ ?_ | exact (rfl : (_ : SV) = _) | exact (rfl : (_ : List SC) = _) | (show drawOk _ _ _ = true; exact rfl) | (show ((0 : Nat) : Int) = 0; exact rfl))
  obtain ⟨i, K, R⟩ := x
  obtain ⟨hi, hKe, hR⟩ := hx
  have hi : i ≤ a.length := hi
  have hKe : K = k + 1 * (i : Int) := hKe
  have hR : R = mkL mkInt 1 (a.take i) k ++ a.drop i := hR
  have hml : R.length = a.length := by rw [hR]; exact mk_len mkInt 1 a k i hi
  rcases Nat.lt_or_ge i a.length with hlt | hge
  · obtain ⟨x, _, hxi, hd⟩ := at_step a i (ETy.int.zero) hlt
    have hw := w64_succ hlt hp
    have hs : R.set (i : Int).toNat (mkInt K) = mkL mkInt 1 (a.take (i + 1)) k ++ a.drop (i + 1) := by rw [hR, hKe]; exact mk_step mkInt 1 a k i hlt
    have hK1 : 0 ≤ K := by omega
    have hK2 : K + 1 ≤ 1152921504606846976 := by omega
    have hL : (i : Int).toNat < R.length := by rw [hml]; simpa using hlt
    clear hR
    repeat' ((conv => whnf); first | refine toOb2 ?_ | refine And.intro (fun _ => ?_) (fun _ => ?_) | refine And.intro ?_ ?_ | refine toEx2 ?_ | (refine fun Q hQ => ?_; try simp (disch := first | assumption | omega | (simp only [List.length_set]; assumption)) only [set_get, List.length_set, List.set_set, w64_id, Int.add_assoc, Int.reduceAdd] at hQ; subst hQ) | intro _)
    all_goals try (exfalso; have h9 := ge_of_dec (n := R.length) (by assumption); omega)
    all_goals clear hKe
    all_goals first | refine Ob2.mk ?_ | refine Ex2.of ((i + 1, K + 1, R.set (i : Int).toNat (mkInt K))) ?_ ?_ | skip
    all_goals try ((conv => whnf); refine Ob.mk ?_)
    all_goals (try simp only [allP, side, Ctr.reads, dTag_eta, dRoad_eta, dLetter_eta, dAddr_eta, dSub_eta, dHalf_eta, dPiece_eta, dPolicy_eta, dBucket_eta, dOut_eta, dPieces_eta, dEnd_eta, dKnown_eta, dWorld_eta]); all_goals repeat' (first | with_reducible exact rfl | exact trivial | with_reducible assumption | refine And.intro ?_ ?_ | exact (rfl : (_ : SV) = _) | exact (rfl : (_ : List SC) = _) | (show drawOk _ _ _ = true; exact rfl) | (show ((0 : Nat) : Int) = 0; exact rfl))
    all_goals (try simp only [List.length_set, List.set_set, Ctr.reads, dTag_eta, dRoad_eta, dLetter_eta, dAddr_eta, dSub_eta, dHalf_eta, dPiece_eta, dPolicy_eta, dBucket_eta, dOut_eta, dPieces_eta, dEnd_eta, dKnown_eta, dWorld_eta] at *)
    all_goals (try simp (disch := first | assumption | omega | (simp only [List.length_set]; assumption)) only [set_get, List.length_set, List.set_set, w64_id, Int.add_assoc, Int.reduceAdd])
    all_goals first | done | omega | exact hs | exact hw.symm | (show R.set _ _ = R.set _ _; simp [mkInt, m3, mkInt, Int.add_assoc]) | (show (_ : Int) = _; omega)
  · have hl : i = a.length := by omega
    subst hl
    have hR : R = mkL mkInt 1 a k := by rw [hR]; simp
    repeat' ((conv => whnf); first | refine toOb2 ?_ | refine And.intro (fun _ => ?_) (fun _ => ?_) | refine And.intro ?_ ?_ | refine toEx2 ?_ | intro _)
    all_goals try (exfalso; have h9 := lt_of_dec (n := R.length) (by assumption); omega)
    all_goals first | refine Ob2.mk ?_ | refine Ex2.of ((a.length, K, R)) ?_ ?_ | skip
    all_goals try ((conv => whnf); refine Ob.mk ?_)
    all_goals (try simp only [allP, side, Ctr.reads, dTag_eta, dRoad_eta, dLetter_eta, dAddr_eta, dSub_eta, dHalf_eta, dPiece_eta, dPolicy_eta, dBucket_eta, dOut_eta, dPieces_eta, dEnd_eta, dKnown_eta, dWorld_eta]); all_goals repeat' (first | with_reducible exact rfl | exact trivial | with_reducible assumption | refine And.intro ?_ ?_ | exact (rfl : (_ : SV) = _) | exact (rfl : (_ : List SC) = _) | (show drawOk _ _ _ = true; exact rfl) | (show ((0 : Nat) : Int) = 0; exact rfl))
    all_goals (try simp only [Ctr.reads, dTag_eta, dRoad_eta, dLetter_eta, dAddr_eta, dSub_eta, dHalf_eta, dPiece_eta, dPolicy_eta, dBucket_eta, dOut_eta, dPieces_eta, dEnd_eta, dKnown_eta, dWorld_eta] at *)
    all_goals first | done | (rw [hKe]; done) | (rw [hR]; done) | exact hR
set_option maxHeartbeats 1000000 in
theorem h_laws_markEnd : Ctr.holds E 35 (⟨[aEnd, aInt], [.mut, .ro], [aInt], fun ((e : DEnd), (k : Int), _) => e.B ∧ KB k (nEnd e), fun ((e : DEnd), (k : Int), _) => ((k + (nEnd e : Int) : Int), ()), fun ((e : DEnd), (k : Int), _) => (mkEnd e k, k, ()), false, .ret⟩) := by
  refine fn_okw (Γ := [(125, ⟨[aRow .addr, aInt], [.mut, .ro], [aInt], fun ((a : List DAddr), (k : Int), _) => a.length ≤ 1073741824 ∧ KB k (4 * a.length), fun ((a : List DAddr), (k : Int), _) => ((k + 4 * (a.length : Int) : Int), ()), fun ((a : List DAddr), (k : Int), _) => (mkL mkAddr 4 a k, k, ()), false, .ret⟩), (126, ⟨[aRow .sub, aInt], [.mut, .ro], [aInt], fun ((a : List DSub), (k : Int), _) => a.length ≤ 1073741824 ∧ KB k (10 * a.length), fun ((a : List DSub), (k : Int), _) => ((k + 10 * (a.length : Int) : Int), ()), fun ((a : List DSub), (k : Int), _) => (mkL mkSub 10 a k, k, ()), false, .ret⟩), (127, ⟨[aRow .half, aInt], [.mut, .ro], [aInt], fun ((a : List DHalf), (k : Int), _) => a.length ≤ 1073741824 ∧ KB k (8 * a.length), fun ((a : List DHalf), (k : Int), _) => ((k + 8 * (a.length : Int) : Int), ()), fun ((a : List DHalf), (k : Int), _) => (mkL mkHalf 8 a k, k, ()), false, .ret⟩), (128, ⟨[aPieces, aInt], [.mut, .ro], [aInt], fun ((p : DPieces), (k : Int), _) => p.list.length ≤ 1073741824 ∧ KB k (2 * p.list.length), fun ((p : DPieces), (k : Int), _) => ((k + 2 * (p.list.length : Int) : Int), ()), fun ((p : DPieces), (k : Int), _) => ({ p with list := mkL mkPiece 2 p.list k }, k, ()), false, .ret⟩), (129, ⟨[aRow .int, aInt], [.mut, .ro], [aInt], fun ((a : List Int), (k : Int), _) => a.length ≤ 1073741824 ∧ KB k (1 * a.length), fun ((a : List Int), (k : Int), _) => ((k + 1 * (a.length : Int) : Int), ()), fun ((a : List Int), (k : Int), _) => (mkL mkInt 1 a k, k, ()), false, .ret⟩)]) prgOk (gcons h_laws_markAddrS (gcons h_laws_markSubS (gcons h_laws_markHalfS (gcons h_laws_markPieces (gcons h_laws_markIntS gnil))))) Tryz.func35 rfl rfl rfl (fun ⟨a, k, _⟩ _ => by refine ⟨?_, trivial, trivial⟩; simp [LenC, mkEnd, mkL_length]) ?_
  rintro ty ⟨(e : DEnd), (k : Int), _⟩ (hp : e.B ∧ KB k (nEnd e))
  obtain ⟨⟨h1, h2, h3, h4, h5, h6, h7⟩, hk, hk2⟩ := hp
  unfold nEnd at hk2
  refine ⟨[], ?_⟩
  repeat' ((conv => whnf); first | refine toOb2 ?_ | refine And.intro (fun _ => ?_) (fun _ => ?_) | refine And.intro ?_ ?_ | refine toEx2 ?_ | refine toY ?_ | intro _)
  all_goals refine Ob2.mk ?_
  all_goals (try simp only [allP, side, Ctr.reads, dTag_eta, dRoad_eta, dLetter_eta, dAddr_eta, dSub_eta, dHalf_eta, dPiece_eta, dPolicy_eta, dBucket_eta, dOut_eta, dPieces_eta, dEnd_eta, dKnown_eta, dWorld_eta]); all_goals repeat' (first | with_reducible exact rfl | exact trivial | with_reducible assumption | refine And.intro ?_ ?_ | exact (rfl : (_ : SV) = _) | exact (rfl : (_ : List SC) = _) | (show drawOk _ _ _ = true; exact rfl) | (show ((0 : Nat) : Int) = 0; exact rfl))
  all_goals first | done | assumption | omega | (show (_, ()) = (_, ()); simp only [nEnd]; congr 1; omega) | (unfold mkEnd; rfl)
set_option maxHeartbeats 1000000 in
theorem h_laws_markLetterS : Ctr.holds E 36 (⟨[aRow .letter, aInt], [.mut, .ro], [aInt], fun ((a : List DLetter), (k : Int), _) => a.length ≤ 1073741824 ∧ KB k (19 * a.length), fun ((a : List DLetter), (k : Int), _) => ((k + 19 * (a.length : Int) : Int), ()), fun ((a : List DLetter), (k : Int), _) => (mkL mkLetter 19 a k, k, ()), false, .ret⟩) := by
  refine fn_okw (Γ := [(130, .reads [aInt] [aStr] (fun ((k : Int), _) => 0 ≤ k ∧ k ≤ 1152921504606846976) fun ((k : Int), _) => (mText k, ()))]) prgOk (gcons h_laws_markText gnil) Tryz.func36 rfl rfl rfl (fun ⟨a, k, _⟩ _ => ⟨⟨(mkL_length _ _ _ _).symm, trivial⟩, trivial, trivial⟩) ?_
  rintro ty ⟨(a : List DLetter), (k : Int), _⟩ (hp : a.length ≤ 1073741824 ∧ KB k (19 * a.length))
  obtain ⟨hp, hk, hk2⟩ := hp
  refine ⟨[(2, { X := Nat × Int × List DLetter, inv := fun x => x.1 ≤ a.length ∧ x.2.1 = k + 19 * (x.1 : Int) ∧ x.2.2 = mkL mkLetter 19 (a.take x.1) k ++ a.drop x.1, mu := fun x => a.length - x.1, vk := [5, 1], ov := fun x => [.a (.c (.leaf (.int (x.1 : Int)))), .a (.c (.leaf (.int x.2.1)))], bk := [], ob := fun x => [], rk := [0], orr := fun x => [⟨.letter, x.2.2, true, none⟩] })], ?_⟩
  conv => whnf
  refine And.intro ⟨((0, k, a) : Nat × Int × List DLetter), Ob.mk ?_, ?_⟩ (fun (x : Nat × Int × List DLetter) hx => ?_)
  · exact And.intro (Nat.zero_le _) (And.intro (by simp) (by simp [mkL]))
  · conv => whnf
    refine Ob.mk ?_
    all_goals (try simp only [allP, side, Ctr.reads, dTag_eta, dRoad_eta, dLetter_eta, dAddr_eta, dSub_eta, dHalf_eta, dPiece_eta, dPolicy_eta, dBucket_eta, dOut_eta, dPieces_eta, dEnd_eta, dKnown_eta, dWorld_eta]); all_goals repeat' (first | with_reducible exact rfl | exact trivial | with_reducible assumption | refine And.intro ?_ ?_ | exact (rfl : (_ : SV) = _) | exact (rfl : (_ : List SC) = _) | (show drawOk _ _ _ = true; exact rfl) | (show ((0 : Nat) : Int) = 0; exact rfl))
  obtain ⟨i, K, R⟩ := x
  obtain ⟨hi, hKe, hR⟩ := hx
  have hi : i ≤ a.length := hi
  have hKe : K = k + 19 * (i : Int) := hKe
  have hR : R = mkL mkLetter 19 (a.take i) k ++ a.drop i := hR
  have hml : R.length = a.length := by rw [hR]; exact mk_len mkLetter 19 a k i hi
  rcases Nat.lt_or_ge i a.length with hlt | hge
  · obtain ⟨x, _, hxi, hd⟩ := at_step a i (ETy.letter.zero) hlt
    have hw := w64_succ hlt hp
    have hs : R.set (i : Int).toNat (mkLetter K) = mkL mkLetter 19 (a.take (i + 1)) k ++ a.drop (i + 1) := by rw [hR, hKe]; exact mk_step mkLetter 19 a k i hlt
    have hK1 : 0 ≤ K := by omega
    have hK2 : K + 19 ≤ 1152921504606846976 := by omega
    have hL : (i : Int).toNat < R.length := by rw [hml]; simpa using hlt
    clear hR
    repeat' ((conv => whnf); first | refine toOb2 ?_ | refine And.intro (fun _ => ?_) (fun _ => ?_) | refine And.intro ?_ ?_ | refine toEx2 ?_ | (refine fun Q hQ => ?_; try simp (disch := first | assumption | omega | (simp only [List.length_set]; assumption)) only [set_get, List.length_set, List.set_set, w64_id, Int.add_assoc, Int.reduceAdd] at hQ; subst hQ) | intro _)
    all_goals try (exfalso; have h9 := ge_of_dec (n := R.length) (by assumption); omega)
    all_goals clear hKe
    all_goals first | refine Ob2.mk ?_ | refine Ex2.of ((i + 1, K + 19, R.set (i : Int).toNat (mkLetter K))) ?_ ?_ | skip
    all_goals try ((conv => whnf); refine Ob.mk ?_)
    all_goals (try simp only [allP, side, Ctr.reads, dTag_eta, dRoad_eta, dLetter_eta, dAddr_eta, dSub_eta, dHalf_eta, dPiece_eta, dPolicy_eta, dBucket_eta, dOut_eta, dPieces_eta, dEnd_eta, dKnown_eta, dWorld_eta]); all_goals repeat' (first | with_reducible exact rfl | exact trivial | with_reducible assumption | refine And.intro ?_ ?_ | exact (rfl : (_ : SV) = _) | exact (rfl : (_ : List SC) = _) | (show drawOk _ _ _ = true; exact rfl) | (show ((0 : Nat) : Int) = 0; exact rfl))
    all_goals (try simp only [List.length_set, List.set_set, Ctr.reads, dTag_eta, dRoad_eta, dLetter_eta, dAddr_eta, dSub_eta, dHalf_eta, dPiece_eta, dPolicy_eta, dBucket_eta, dOut_eta, dPieces_eta, dEnd_eta, dKnown_eta, dWorld_eta] at *)
    all_goals (try simp (disch := first | assumption | omega | (simp only [List.length_set]; assumption)) only [set_get, List.length_set, List.set_set, w64_id, Int.add_assoc, Int.reduceAdd])
    all_goals first | done | omega | exact hs | exact hw.symm | (show R.set _ _ = R.set _ _; simp [mkLetter, m3, mkInt, Int.add_assoc]) | (show (_ : Int) = _; omega)
  · have hl : i = a.length := by omega
    subst hl
    have hR : R = mkL mkLetter 19 a k := by rw [hR]; simp
    repeat' ((conv => whnf); first | refine toOb2 ?_ | refine And.intro (fun _ => ?_) (fun _ => ?_) | refine And.intro ?_ ?_ | refine toEx2 ?_ | refine toY ?_ | intro _)
    all_goals try (exfalso; have h9 := lt_of_dec (n := R.length) (by assumption); omega)
    all_goals first | refine Ob2.mk ?_ | refine Ex2.of ((a.length, K, R)) ?_ ?_ | skip
    all_goals try ((conv => whnf); refine Ob.mk ?_)
    all_goals (try simp only [allP, side, Ctr.reads, dTag_eta, dRoad_eta, dLetter_eta, dAddr_eta, dSub_eta, dHalf_eta, dPiece_eta, dPolicy_eta, dBucket_eta, dOut_eta, dPieces_eta, dEnd_eta, dKnown_eta, dWorld_eta]); all_goals repeat' (first | with_reducible exact rfl | exact trivial | with_reducible assumption | refine And.intro ?_ ?_ | exact (rfl : (_ : SV) = _) | exact (rfl : (_ : List SC) = _) | (show drawOk _ _ _ = true; exact rfl) | (show ((0 : Nat) : Int) = 0; exact rfl))
    all_goals (try simp only [Ctr.reads, dTag_eta, dRoad_eta, dLetter_eta, dAddr_eta, dSub_eta, dHalf_eta, dPiece_eta, dPolicy_eta, dBucket_eta, dOut_eta, dPieces_eta, dEnd_eta, dKnown_eta, dWorld_eta] at *)
    all_goals first | done | (rw [hKe]; done) | (rw [hR]; done) | exact hR
set_option maxHeartbeats 1000000 in
theorem h_laws_markTagS : Ctr.holds E 275 (⟨[aRow .tag, aInt], [.mut, .ro], [aInt], fun ((a : List DTag), (k : Int), _) => a.length ≤ 1073741824 ∧ KB k (5 * a.length), fun ((a : List DTag), (k : Int), _) => ((k + 5 * (a.length : Int) : Int), ()), fun ((a : List DTag), (k : Int), _) => (mkL mkTag 5 a k, k, ()), false, .ret⟩) := by
  refine fn_okw (Γ := []) prgOk gnil Tryz.func275 rfl rfl rfl (fun ⟨a, k, _⟩ _ => ⟨⟨(mkL_length _ _ _ _).symm, trivial⟩, trivial, trivial⟩) ?_
  rintro ty ⟨(a : List DTag), (k : Int), _⟩ (hp : a.length ≤ 1073741824 ∧ KB k (5 * a.length))
  obtain ⟨hp, hk, hk2⟩ := hp
  refine ⟨[(2, { X := Nat × Int × List DTag, inv := fun x => x.1 ≤ a.length ∧ x.2.1 = k + 5 * (x.1 : Int) ∧ x.2.2 = mkL mkTag 5 (a.take x.1) k ++ a.drop x.1, mu := fun x => a.length - x.1, vk := [5, 1], ov := fun x => [.a (.c (.leaf (.int (x.1 : Int)))), .a (.c (.leaf (.int x.2.1)))], bk := [], ob := fun x => [], rk := [0], orr := fun x => [⟨.tag, x.2.2, true, none⟩] })], ?_⟩
  conv => whnf
  refine And.intro ⟨((0, k, a) : Nat × Int × List DTag), Ob.mk ?_, ?_⟩ (fun (x : Nat × Int × List DTag) hx => ?_)
  · exact And.intro (Nat.zero_le _) (And.intro (by simp) (by simp [mkL]))
  · conv => whnf
    refine Ob.mk ?_
    all_goals (try simp only [allP, side, Ctr.reads, dTag_eta, dRoad_eta, dLetter_eta, dAddr_eta, dSub_eta, dHalf_eta, dPiece_eta, dPolicy_eta, dBucket_eta, dOut_eta, dPieces_eta, dEnd_eta, dKnown_eta, dWorld_eta]); all_goals repeat' (first | with_reducible exact rfl | exact trivial | with_reducible assumption | refine And.intro ?_ ?_ | exact (rfl : (_ : SV) = _) | exact (rfl : (_ : List SC) = _) | (show drawOk _ _ _ = true; exact rfl) | (show ((0 : Nat) : Int) = 0; exact rfl))
  obtain ⟨i, K, R⟩ := x
  obtain ⟨hi, hKe, hR⟩ := hx
  have hi : i ≤ a.length := hi
  have hKe : K = k + 5 * (i : Int) := hKe
  have hR : R = mkL mkTag 5 (a.take i) k ++ a.drop i := hR
  have hml : R.length = a.length := by rw [hR]; exact mk_len mkTag 5 a k i hi
  rcases Nat.lt_or_ge i a.length with hlt | hge
  · obtain ⟨x, _, hxi, hd⟩ := at_step a i (ETy.tag.zero) hlt
    have hw := w64_succ hlt hp
    have hs : R.set (i : Int).toNat (mkTag K) = mkL mkTag 5 (a.take (i + 1)) k ++ a.drop (i + 1) := by rw [hR, hKe]; exact mk_step mkTag 5 a k i hlt
    have hK1 : 0 ≤ K := by omega
    have hK2 : K + 5 ≤ 1152921504606846976 := by omega
    have hL : (i : Int).toNat < R.length := by rw [hml]; simpa using hlt
    clear hR
    repeat' ((conv => whnf); first | refine toOb2 ?_ | refine And.intro (fun _ => ?_) (fun _ => ?_) | refine And.intro ?_ ?_ | refine toEx2 ?_ | (refine fun Q hQ => ?_; try simp (disch := first | assumption | omega | (simp only [List.length_set]; assumption)) only [set_get, List.length_set, List.set_set, w64_id, Int.add_assoc, Int.reduceAdd] at hQ; subst hQ) | intro _)
    all_goals try (exfalso; have h9 := ge_of_dec (n := R.length) (by assumption); omega)
    all_goals clear hKe
    all_goals first | refine Ob2.mk ?_ | refine Ex2.of ((i + 1, K + 5, R.set (i : Int).toNat (mkTag K))) ?_ ?_ | skip
    all_goals try ((conv => whnf); refine Ob.mk ?_)
    all_goals (try simp only [allP, side, Ctr.reads, dTag_eta, dRoad_eta, dLetter_eta, dAddr_eta, dSub_eta, dHalf_eta, dPiece_eta, dPolicy_eta, dBucket_eta, dOut_eta, dPieces_eta, dEnd_eta, dKnown_eta, dWorld_eta]); all_goals repeat' (first | with_reducible exact rfl | exact trivial | with_reducible assumption | refine And.intro ?_ ?_ | exact (rfl : (_ : SV) = _) | exact (rfl : (_ : List SC) = _) | (show drawOk _ _ _ = true; exact rfl) | (show ((0 : Nat) : Int) = 0; exact rfl))
    all_goals (try simp only [List.length_set, List.set_set, Ctr.reads, dTag_eta, dRoad_eta, dLetter_eta, dAddr_eta, dSub_eta, dHalf_eta, dPiece_eta, dPolicy_eta, dBucket_eta, dOut_eta, dPieces_eta, dEnd_eta, dKnown_eta, dWorld_eta] at *)
    all_goals (try simp (disch := first | assumption | omega | (simp only [List.length_set]; assumption)) only [set_get, List.length_set, List.set_set, w64_id, Int.add_assoc, Int.reduceAdd])
    all_goals first | done | omega | exact hs | exact hw.symm | (show R.set _ _ = R.set _ _; simp [mkTag, m3, mkInt, Int.add_assoc]) | (show (_ : Int) = _; omega)
  · have hl : i = a.length := by omega
    subst hl
    have hR : R = mkL mkTag 5 a k := by rw [hR]; simp
    repeat' ((conv => whnf); first | refine toOb2 ?_ | refine And.intro (fun _ => ?_) (fun _ => ?_) | refine And.intro ?_ ?_ | refine toEx2 ?_ | intro _)
    all_goals try (exfalso; have h9 := lt_of_dec (n := R.length) (by assumption); omega)
    all_goals first | refine Ob2.mk ?_ | refine Ex2.of ((a.length, K, R)) ?_ ?_ | skip
    all_goals try ((conv => whnf); refine Ob.mk ?_)
    all_goals (try simp only [allP, side, Ctr.reads, dTag_eta, dRoad_eta, dLetter_eta, dAddr_eta, dSub_eta, dHalf_eta, dPiece_eta, dPolicy_eta, dBucket_eta, dOut_eta, dPieces_eta, dEnd_eta, dKnown_eta, dWorld_eta]); all_goals repeat' (first | with_reducible exact rfl | exact trivial | with_reducible assumption | refine And.intro ?_ ?_ | exact (rfl : (_ : SV) = _) | exact (rfl : (_ : List SC) = _) | (show drawOk _ _ _ = true; exact rfl) | (show ((0 : Nat) : Int) = 0; exact rfl))
    all_goals (try simp only [Ctr.reads, dTag_eta, dRoad_eta, dLetter_eta, dAddr_eta, dSub_eta, dHalf_eta, dPiece_eta, dPolicy_eta, dBucket_eta, dOut_eta, dPieces_eta, dEnd_eta, dKnown_eta, dWorld_eta] at *)
    all_goals first | done | (rw [hKe]; done) | (rw [hR]; done) | exact hR
set_option maxHeartbeats 1000000 in
theorem h_laws_markKnown : Ctr.holds E 200 (⟨[aKnown, aInt], [.mut, .ro], [aInt], fun ((x : DKnown), (k : Int), _) => x.B ∧ KB k (nKnown x), fun ((x : DKnown), (k : Int), _) => ((k + (nKnown x : Int) : Int), ()), fun ((x : DKnown), (k : Int), _) => (mkKnown x k, k, ()), false, .ret⟩) := by
  refine fn_okw (Γ := [(129, ⟨[aRow .int, aInt], [.mut, .ro], [aInt], fun ((a : List Int), (k : Int), _) => a.length ≤ 1073741824 ∧ KB k (1 * a.length), fun ((a : List Int), (k : Int), _) => ((k + 1 * (a.length : Int) : Int), ()), fun ((a : List Int), (k : Int), _) => (mkL mkInt 1 a k, k, ()), false, .ret⟩), (275, ⟨[aRow .tag, aInt], [.mut, .ro], [aInt], fun ((a : List DTag), (k : Int), _) => a.length ≤ 1073741824 ∧ KB k (5 * a.length), fun ((a : List DTag), (k : Int), _) => ((k + 5 * (a.length : Int) : Int), ()), fun ((a : List DTag), (k : Int), _) => (mkL mkTag 5 a k, k, ()), false, .ret⟩)]) prgOk (gcons h_laws_markIntS (gcons h_laws_markTagS gnil)) Tryz.func200 rfl rfl rfl (fun ⟨a, k, _⟩ _ => by refine ⟨?_, trivial, trivial⟩; simp [LenC, mkKnown, mkL_length]) ?_
  rintro ty ⟨(x : DKnown), (k : Int), _⟩ (hp : x.B ∧ KB k (nKnown x))
  obtain ⟨⟨h1, h2⟩, hk, hk2⟩ := hp
  unfold nKnown at hk2
  refine ⟨[], ?_⟩
  repeat' ((conv => whnf); first | refine toOb2 ?_ | refine And.intro (fun _ => ?_) (fun _ => ?_) | refine And.intro ?_ ?_ | refine toEx2 ?_ | refine toY ?_ | intro _)
  all_goals refine Ob2.mk ?_
  all_goals (try simp only [allP, side, Ctr.reads, dTag_eta, dRoad_eta, dLetter_eta, dAddr_eta, dSub_eta, dHalf_eta, dPiece_eta, dPolicy_eta, dBucket_eta, dOut_eta, dPieces_eta, dEnd_eta, dKnown_eta, dWorld_eta]); all_goals repeat' (first | with_reducible exact rfl | exact trivial | with_reducible assumption | refine And.intro ?_ ?_ | exact (rfl : (_ : SV) = _) | exact (rfl : (_ : List SC) = _) | (show drawOk _ _ _ = true; exact rfl) | (show ((0 : Nat) : Int) = 0; exact rfl))
  all_goals first | done | assumption | omega | (show (_, ()) = (_, ()); simp only [nKnown]; congr 1; omega) | (unfold mkKnown; rfl)
set_option maxHeartbeats 1000000 in
theorem h_laws_markWorld : Ctr.holds E 78 (⟨[aWorld, aInt], [.mut, .ro], [aInt], fun ((w : DWorld), (k : Int), _) => w.B ∧ KB k (nWorld w), fun ((w : DWorld), (k : Int), _) => ((k + (nWorld w : Int) : Int), ()), fun ((w : DWorld), (k : Int), _) => (mkWorld w k, k, ()), false, .ret⟩) := by
  refine fn_okw (Γ := [(35, ⟨[aEnd, aInt], [.mut, .ro], [aInt], fun ((e : DEnd), (k : Int), _) => e.B ∧ KB k (nEnd e), fun ((e : DEnd), (k : Int), _) => ((k + (nEnd e : Int) : Int), ()), fun ((e : DEnd), (k : Int), _) => (mkEnd e k, k, ()), false, .ret⟩), (36, ⟨[aRow .letter, aInt], [.mut, .ro], [aInt], fun ((a : List DLetter), (k : Int), _) => a.length ≤ 1073741824 ∧ KB k (19 * a.length), fun ((a : List DLetter), (k : Int), _) => ((k + 19 * (a.length : Int) : Int), ()), fun ((a : List DLetter), (k : Int), _) => (mkL mkLetter 19 a k, k, ()), false, .ret⟩), (200, ⟨[aKnown, aInt], [.mut, .ro], [aInt], fun ((x : DKnown), (k : Int), _) => x.B ∧ KB k (nKnown x), fun ((x : DKnown), (k : Int), _) => ((k + (nKnown x : Int) : Int), ()), fun ((x : DKnown), (k : Int), _) => (mkKnown x k, k, ()), false, .ret⟩), (129, ⟨[aRow .int, aInt], [.mut, .ro], [aInt], fun ((a : List Int), (k : Int), _) => a.length ≤ 1073741824 ∧ KB k (1 * a.length), fun ((a : List Int), (k : Int), _) => ((k + 1 * (a.length : Int) : Int), ()), fun ((a : List Int), (k : Int), _) => (mkL mkInt 1 a k, k, ()), false, .ret⟩)]) prgOk (gcons h_laws_markEnd (gcons h_laws_markLetterS (gcons h_laws_markKnown (gcons h_laws_markIntS gnil)))) Tryz.func78 rfl rfl rfl (fun ⟨a, k, _⟩ _ => by refine ⟨?_, trivial, trivial⟩; simp [LenC, mkWorld, mkEnd, mkKnown, mkL_length]) ?_
  rintro ty ⟨(w : DWorld), (k : Int), _⟩ (hp : w.B ∧ KB k (nWorld w))
  obtain ⟨⟨h1, h2, h3, h4, h5, h6, h7, h8, h9⟩, hk, hk2⟩ := hp
  unfold nWorld at hk2
  have h56 : w.known.B := ⟨h5, h6⟩
  refine ⟨[], ?_⟩
  repeat' ((conv => whnf); first | refine toOb2 ?_ | (refine And.intro (fun h => ?_) (fun h => ?_) <;> (try simp only [Ctr.reads, beq_self_eq_true, bne_self_eq_false, reduceCtorEq, decide_true, decide_false, Bool.not_true, Bool.and_true, Bool.or_false, Bool.cond_true_left, Bool.cond_false_right, hd_letters, mkL_length, sq_pos, Int.reduceLT, mkEnd_re, hd_mk1, lt0_1, lt0_2, lt0_3, ne_eq, bne_self_eq_false, or_false, false_or, allP, side, decide_eq_true_eq, decide_eq_false_iff_not, not_false_eq_true, not_true_eq_false, Bool.not_true, Bool.not_false, Bool.not_eq_true', Bool.not_eq_false', Bool.not_eq_eq_eq_not, dTag_eta, dRoad_eta, dLetter_eta, dAddr_eta, dSub_eta, dHalf_eta, dPiece_eta, dPolicy_eta, dBucket_eta, dOut_eta, dPieces_eta, dEnd_eta, dKnown_eta, dWorld_eta] at h) <;> (try with_reducible contradiction)) | refine And.intro ?_ ?_ | refine toEx2 ?_ | (refine fun y hy => ?_; (try simp only [Ctr.reads, beq_self_eq_true, bne_self_eq_false, reduceCtorEq, decide_true, decide_false, Bool.not_true, Bool.and_true, Bool.or_false, Bool.cond_true_left, Bool.cond_false_right, hd_letters, mkL_length, sq_pos, Int.reduceLT, mkEnd_re, hd_mk1, lt0_1, lt0_2, lt0_3, ne_eq, bne_self_eq_false, or_false, false_or, allP, side, decide_eq_true_eq, decide_eq_false_iff_not, not_false_eq_true, not_true_eq_false, Bool.not_true, Bool.not_false, Bool.not_eq_true', Bool.not_eq_false', Bool.not_eq_eq_eq_not, dTag_eta, dRoad_eta, dLetter_eta, dAddr_eta, dSub_eta, dHalf_eta, dPiece_eta, dPolicy_eta, dBucket_eta, dOut_eta, dPieces_eta, dEnd_eta, dKnown_eta, dWorld_eta] at hy); subst hy) | intro _)
  all_goals first | refine Ob2.mk ?_ | (show drawOk _ _ _ = true; exact rfl)
  all_goals (try simp only [allP, side, Ctr.reads, dTag_eta, dRoad_eta, dLetter_eta, dAddr_eta, dSub_eta, dHalf_eta, dPiece_eta, dPolicy_eta, dBucket_eta, dOut_eta, dPieces_eta, dEnd_eta, dKnown_eta, dWorld_eta])
  all_goals repeat' (first | with_reducible assumption | refine And.intro ?_ ?_)
  all_goals first | done | assumption | omega | (unfold KB; omega) | (show (_, ()) = (_, ()); simp only [nWorld]; congr 1; omega) | (unfold mkWorld; rfl)
set_option maxHeartbeats 1000000 in
theorem h_laws_heldAddrS : Ctr.holds E 131 (.reads [aRow .addr, aInt] [aInt] (fun ((a : List DAddr), (k : Int), _) => a.length ≤ 1073741824 ∧ KB k (4 * a.length)) fun ((a : List DAddr), (k : Int), _) => (hdL mkAddr 4 a k, ())) := by
  refine fn_ok (Γ := []) prgOk gnil Tryz.func131 rfl rfl rfl rfl ?_
  rintro ty ⟨(a : List DAddr), (k : Int), _⟩ (hp : a.length ≤ 1073741824 ∧ KB k (4 * a.length))
  obtain ⟨hp, hk, hk2⟩ := hp
  refine ⟨[(2, { X := Nat × Int, inv := fun x => x.1 ≤ a.length ∧ x.2 = k + 4 * (x.1 : Int) ∧ hdL mkAddr 4 (a.drop x.1) x.2 = hdL mkAddr 4 a k, mu := fun x => a.length - x.1, vk := [5, 1], ov := fun x => [.a (.c (.leaf (.int (x.1 : Int)))), .a (.c (.leaf (.int x.2)))], bk := [], ob := fun x => [], rk := [], orr := fun x => [] })], ?_⟩
  conv => whnf
  refine And.intro ⟨((0, k) : Nat × Int), Ob.mk ?_, ?_⟩ (fun (x : Nat × Int) hx => ?_)
  · exact And.intro (Nat.zero_le _) (And.intro (by simp) (by simp only [List.drop_zero]))
  · conv => whnf
    refine Ob.mk ?_
    all_goals (try simp only [allP, side, Ctr.reads, dTag_eta, dRoad_eta, dLetter_eta, dAddr_eta, dSub_eta, dHalf_eta, dPiece_eta, dPolicy_eta, dBucket_eta, dOut_eta, dPieces_eta, dEnd_eta, dKnown_eta, dWorld_eta]); all_goals repeat' (first | with_reducible exact rfl | exact trivial | with_reducible assumption | refine And.intro ?_ ?_ | exact (rfl : (_ : SV) = _) | exact (rfl : (_ : List SC) = _) | (show drawOk _ _ _ = true; exact rfl) | (show ((0 : Nat) : Int) = 0; exact rfl))
  obtain ⟨i, K⟩ := x
  obtain ⟨hi, hKe, hm⟩ := hx
  have hi : i ≤ a.length := hi
  have hKe : K = k + 4 * (i : Int) := hKe
  have hm : hdL mkAddr 4 (a.drop i) K = hdL mkAddr 4 a k := hm
  rcases Nat.lt_or_ge i a.length with hlt | hge
  · obtain ⟨x, hx, hxi, hd⟩ := at_step a i (ETy.addr.zero) hlt
    have hm : (if x = mkAddr K then hdL mkAddr 4 (a.drop (i + 1)) (K + 4) else -1) = hdL mkAddr 4 a k := by rw [hd, hdL] at hm; exact hm
    have hw := w64_succ hlt hp
    have hK1 : 0 ≤ K := by omega
    have hK2 : K + 4 ≤ 1152921504606846976 := by omega
    clear hd hxi
    simp only [dAddr_iff, mkAddr] at hm
    repeat' ((conv => whnf); first | refine toOb2 ?_ | refine And.intro (fun _ => ?_) (fun _ => ?_) | refine And.intro ?_ ?_ | refine toEx2 ?_ | intro _)
    all_goals try (exfalso; exact Nat.lt_irrefl _ (Nat.lt_of_lt_of_le hlt (ge_of_dec (by assumption))))
    all_goals first | refine Ob2.mk ?_ | refine Ex2.of ((i + 1, K + 4)) ?_ ?_ | skip
    all_goals try ((conv => whnf); refine Ob.mk ?_)
    all_goals (try simp only [allP, side, Ctr.reads, dTag_eta, dRoad_eta, dLetter_eta, dAddr_eta, dSub_eta, dHalf_eta, dPiece_eta, dPolicy_eta, dBucket_eta, dOut_eta, dPieces_eta, dEnd_eta, dKnown_eta, dWorld_eta]); all_goals repeat' (first | with_reducible exact rfl | exact trivial | with_reducible assumption | refine And.intro ?_ ?_ | exact (rfl : (_ : SV) = _) | exact (rfl : (_ : List SC) = _) | (show drawOk _ _ _ = true; exact rfl) | (show ((0 : Nat) : Int) = 0; exact rfl))
    all_goals (try simp only [hx, Ctr.reads, dTag_eta, dRoad_eta, dLetter_eta, dAddr_eta, dSub_eta, dHalf_eta, dPiece_eta, dPolicy_eta, dBucket_eta, dOut_eta, dPieces_eta, dEnd_eta, dKnown_eta, dWorld_eta] at *)
    all_goals (try simp (disch := omega) only [w64_id, Int.add_assoc, Int.reduceAdd] at *)
    all_goals (try simp only [m3_fold] at *)
    all_goals first | done | omega | (clear hw hk hk2 hKe hK1 hK2; rw [← hm]; clear hm; simp_all; done) | grind
  · have hl : i = a.length := by omega
    subst hl
    rw [List.drop_length, hdL] at hm
    repeat' ((conv => whnf); first | refine toOb2 ?_ | refine And.intro (fun _ => ?_) (fun _ => ?_) | refine And.intro ?_ ?_ | refine toEx2 ?_ | intro _)
    all_goals try (exfalso; exact Nat.lt_irrefl _ (Nat.lt_of_lt_of_le (lt_of_dec (by assumption)) hge))
    all_goals first | refine Ob2.mk ?_ | refine Ex2.of ((a.length, K)) ?_ ?_ | skip
    all_goals try ((conv => whnf); refine Ob.mk ?_)
    all_goals (try simp only [allP, side, Ctr.reads, dTag_eta, dRoad_eta, dLetter_eta, dAddr_eta, dSub_eta, dHalf_eta, dPiece_eta, dPolicy_eta, dBucket_eta, dOut_eta, dPieces_eta, dEnd_eta, dKnown_eta, dWorld_eta]); all_goals repeat' (first | with_reducible exact rfl | exact trivial | with_reducible assumption | refine And.intro ?_ ?_ | exact (rfl : (_ : SV) = _) | exact (rfl : (_ : List SC) = _) | (show drawOk _ _ _ = true; exact rfl) | (show ((0 : Nat) : Int) = 0; exact rfl))
    all_goals (try simp only [Ctr.reads, dTag_eta, dRoad_eta, dLetter_eta, dAddr_eta, dSub_eta, dHalf_eta, dPiece_eta, dPolicy_eta, dBucket_eta, dOut_eta, dPieces_eta, dEnd_eta, dKnown_eta, dWorld_eta] at *)
    all_goals first | done | (rw [hm]; done) | grind
set_option maxHeartbeats 1000000 in
theorem h_laws_heldSubS : Ctr.holds E 132 (.reads [aRow .sub, aInt] [aInt] (fun ((a : List DSub), (k : Int), _) => a.length ≤ 1073741824 ∧ KB k (10 * a.length)) fun ((a : List DSub), (k : Int), _) => (hdL mkSub 10 a k, ())) := by
  refine fn_ok (Γ := []) prgOk gnil Tryz.func132 rfl rfl rfl rfl ?_
  rintro ty ⟨(a : List DSub), (k : Int), _⟩ (hp : a.length ≤ 1073741824 ∧ KB k (10 * a.length))
  obtain ⟨hp, hk, hk2⟩ := hp
  refine ⟨[(2, { X := Nat × Int, inv := fun x => x.1 ≤ a.length ∧ x.2 = k + 10 * (x.1 : Int) ∧ hdL mkSub 10 (a.drop x.1) x.2 = hdL mkSub 10 a k, mu := fun x => a.length - x.1, vk := [5, 1], ov := fun x => [.a (.c (.leaf (.int (x.1 : Int)))), .a (.c (.leaf (.int x.2)))], bk := [], ob := fun x => [], rk := [], orr := fun x => [] })], ?_⟩
  conv => whnf
  refine And.intro ⟨((0, k) : Nat × Int), Ob.mk ?_, ?_⟩ (fun (x : Nat × Int) hx => ?_)
  · exact And.intro (Nat.zero_le _) (And.intro (by simp) (by simp only [List.drop_zero]))
  · conv => whnf
    refine Ob.mk ?_
    all_goals (try simp only [allP, side, Ctr.reads, dTag_eta, dRoad_eta, dLetter_eta, dAddr_eta, dSub_eta, dHalf_eta, dPiece_eta, dPolicy_eta, dBucket_eta, dOut_eta, dPieces_eta, dEnd_eta, dKnown_eta, dWorld_eta]); all_goals repeat' (first | with_reducible exact rfl | exact trivial | with_reducible assumption | refine And.intro ?_ ?_ | exact (rfl : (_ : SV) = _) | exact (rfl : (_ : List SC) = _) | (show drawOk _ _ _ = true; exact rfl) | (show ((0 : Nat) : Int) = 0; exact rfl))
  obtain ⟨i, K⟩ := x
  obtain ⟨hi, hKe, hm⟩ := hx
  have hi : i ≤ a.length := hi
  have hKe : K = k + 10 * (i : Int) := hKe
  have hm : hdL mkSub 10 (a.drop i) K = hdL mkSub 10 a k := hm
  rcases Nat.lt_or_ge i a.length with hlt | hge
  · obtain ⟨x, hx, hxi, hd⟩ := at_step a i (ETy.sub.zero) hlt
    have hm : (if x = mkSub K then hdL mkSub 10 (a.drop (i + 1)) (K + 10) else -1) = hdL mkSub 10 a k := by rw [hd, hdL] at hm; exact hm
    have hw := w64_succ hlt hp
    have hK1 : 0 ≤ K := by omega
    have hK2 : K + 10 ≤ 1152921504606846976 := by omega
    clear hd hxi
    simp only [dSub_iff, mkSub] at hm
    repeat' ((conv => whnf); first | refine toOb2 ?_ | refine And.intro (fun _ => ?_) (fun _ => ?_) | refine And.intro ?_ ?_ | refine toEx2 ?_ | intro _)
    all_goals try (exfalso; exact Nat.lt_irrefl _ (Nat.lt_of_lt_of_le hlt (ge_of_dec (by assumption))))
    all_goals first | refine Ob2.mk ?_ | refine Ex2.of ((i + 1, K + 10)) ?_ ?_ | skip
    all_goals try ((conv => whnf); refine Ob.mk ?_)
    all_goals (try simp only [allP, side, Ctr.reads, dTag_eta, dRoad_eta, dLetter_eta, dAddr_eta, dSub_eta, dHalf_eta, dPiece_eta, dPolicy_eta, dBucket_eta, dOut_eta, dPieces_eta, dEnd_eta, dKnown_eta, dWorld_eta]); all_goals repeat' (first | with_reducible exact rfl | exact trivial | with_reducible assumption | refine And.intro ?_ ?_ | exact (rfl : (_ : SV) = _) | exact (rfl : (_ : List SC) = _) | (show drawOk _ _ _ = true; exact rfl) | (show ((0 : Nat) : Int) = 0; exact rfl))
    all_goals (try simp only [hx, Ctr.reads, dTag_eta, dRoad_eta, dLetter_eta, dAddr_eta, dSub_eta, dHalf_eta, dPiece_eta, dPolicy_eta, dBucket_eta, dOut_eta, dPieces_eta, dEnd_eta, dKnown_eta, dWorld_eta] at *)
    all_goals (try simp (disch := omega) only [w64_id, Int.add_assoc, Int.reduceAdd] at *)
    all_goals (try simp only [m3_fold] at *)
    all_goals first | done | omega | (clear hw hk hk2 hKe hK1 hK2; rw [← hm]; clear hm; simp_all; done) | grind
  · have hl : i = a.length := by omega
    subst hl
    rw [List.drop_length, hdL] at hm
    repeat' ((conv => whnf); first | refine toOb2 ?_ | refine And.intro (fun _ => ?_) (fun _ => ?_) | refine And.intro ?_ ?_ | refine toEx2 ?_ | intro _)
    all_goals try (exfalso; exact Nat.lt_irrefl _ (Nat.lt_of_lt_of_le (lt_of_dec (by assumption)) hge))
    all_goals first | refine Ob2.mk ?_ | refine Ex2.of ((a.length, K)) ?_ ?_ | skip
    all_goals try ((conv => whnf); refine Ob.mk ?_)
    all_goals (try simp only [allP, side, Ctr.reads, dTag_eta, dRoad_eta, dLetter_eta, dAddr_eta, dSub_eta, dHalf_eta, dPiece_eta, dPolicy_eta, dBucket_eta, dOut_eta, dPieces_eta, dEnd_eta, dKnown_eta, dWorld_eta]); all_goals repeat' (first | with_reducible exact rfl | exact trivial | with_reducible assumption | refine And.intro ?_ ?_ | exact (rfl : (_ : SV) = _) | exact (rfl : (_ : List SC) = _) | (show drawOk _ _ _ = true; exact rfl) | (show ((0 : Nat) : Int) = 0; exact rfl))
    all_goals (try simp only [Ctr.reads, dTag_eta, dRoad_eta, dLetter_eta, dAddr_eta, dSub_eta, dHalf_eta, dPiece_eta, dPolicy_eta, dBucket_eta, dOut_eta, dPieces_eta, dEnd_eta, dKnown_eta, dWorld_eta] at *)
    all_goals first | done | (rw [hm]; done) | grind
set_option maxHeartbeats 1000000 in
theorem h_laws_heldHalfS : Ctr.holds E 133 (.reads [aRow .half, aInt] [aInt] (fun ((a : List DHalf), (k : Int), _) => a.length ≤ 1073741824 ∧ KB k (8 * a.length)) fun ((a : List DHalf), (k : Int), _) => (hdL mkHalf 8 a k, ())) := by
  refine fn_ok (Γ := []) prgOk gnil Tryz.func133 rfl rfl rfl rfl ?_
  rintro ty ⟨(a : List DHalf), (k : Int), _⟩ (hp : a.length ≤ 1073741824 ∧ KB k (8 * a.length))
  obtain ⟨hp, hk, hk2⟩ := hp
  refine ⟨[(2, { X := Nat × Int, inv := fun x => x.1 ≤ a.length ∧ x.2 = k + 8 * (x.1 : Int) ∧ hdL mkHalf 8 (a.drop x.1) x.2 = hdL mkHalf 8 a k, mu := fun x => a.length - x.1, vk := [5, 1], ov := fun x => [.a (.c (.leaf (.int (x.1 : Int)))), .a (.c (.leaf (.int x.2)))], bk := [], ob := fun x => [], rk := [], orr := fun x => [] })], ?_⟩
  conv => whnf
  refine And.intro ⟨((0, k) : Nat × Int), Ob.mk ?_, ?_⟩ (fun (x : Nat × Int) hx => ?_)
  · exact And.intro (Nat.zero_le _) (And.intro (by simp) (by simp only [List.drop_zero]))
  · conv => whnf
    refine Ob.mk ?_
    all_goals (try simp only [allP, side, Ctr.reads, dTag_eta, dRoad_eta, dLetter_eta, dAddr_eta, dSub_eta, dHalf_eta, dPiece_eta, dPolicy_eta, dBucket_eta, dOut_eta, dPieces_eta, dEnd_eta, dKnown_eta, dWorld_eta]); all_goals repeat' (first | with_reducible exact rfl | exact trivial | with_reducible assumption | refine And.intro ?_ ?_ | exact (rfl : (_ : SV) = _) | exact (rfl : (_ : List SC) = _) | (show drawOk _ _ _ = true; exact rfl) | (show ((0 : Nat) : Int) = 0; exact rfl))
  obtain ⟨i, K⟩ := x
  obtain ⟨hi, hKe, hm⟩ := hx
  have hi : i ≤ a.length := hi
  have hKe : K = k + 8 * (i : Int) := hKe
  have hm : hdL mkHalf 8 (a.drop i) K = hdL mkHalf 8 a k := hm
  rcases Nat.lt_or_ge i a.length with hlt | hge
  · obtain ⟨x, hx, hxi, hd⟩ := at_step a i (ETy.half.zero) hlt
    have hm : (if x = mkHalf K then hdL mkHalf 8 (a.drop (i + 1)) (K + 8) else -1) = hdL mkHalf 8 a k := by rw [hd, hdL] at hm; exact hm
    have hw := w64_succ hlt hp
    have hK1 : 0 ≤ K := by omega
    have hK2 : K + 8 ≤ 1152921504606846976 := by omega
    clear hd hxi
    simp only [dHalf_iff, mkHalf] at hm
    repeat' ((conv => whnf); first | refine toOb2 ?_ | refine And.intro (fun _ => ?_) (fun _ => ?_) | refine And.intro ?_ ?_ | refine toEx2 ?_ | intro _)
    all_goals try (exfalso; exact Nat.lt_irrefl _ (Nat.lt_of_lt_of_le hlt (ge_of_dec (by assumption))))
    all_goals first | refine Ob2.mk ?_ | refine Ex2.of ((i + 1, K + 8)) ?_ ?_ | skip
    all_goals try ((conv => whnf); refine Ob.mk ?_)
    all_goals (try simp only [allP, side, Ctr.reads, dTag_eta, dRoad_eta, dLetter_eta, dAddr_eta, dSub_eta, dHalf_eta, dPiece_eta, dPolicy_eta, dBucket_eta, dOut_eta, dPieces_eta, dEnd_eta, dKnown_eta, dWorld_eta]); all_goals repeat' (first | with_reducible exact rfl | exact trivial | with_reducible assumption | refine And.intro ?_ ?_ | exact (rfl : (_ : SV) = _) | exact (rfl : (_ : List SC) = _) | (show drawOk _ _ _ = true; exact rfl) | (show ((0 : Nat) : Int) = 0; exact rfl))
    all_goals (try simp only [hx, Ctr.reads, dTag_eta, dRoad_eta, dLetter_eta, dAddr_eta, dSub_eta, dHalf_eta, dPiece_eta, dPolicy_eta, dBucket_eta, dOut_eta, dPieces_eta, dEnd_eta, dKnown_eta, dWorld_eta] at *)
    all_goals (try simp (disch := omega) only [w64_id, Int.add_assoc, Int.reduceAdd] at *)
    all_goals (try simp only [m3_fold] at *)
    all_goals first | done | omega | (clear hw hk hk2 hKe hK1 hK2; rw [← hm]; clear hm; simp_all; done) | grind
  · have hl : i = a.length := by omega
    subst hl
    rw [List.drop_length, hdL] at hm
    repeat' ((conv => whnf); first | refine toOb2 ?_ | refine And.intro (fun _ => ?_) (fun _ => ?_) | refine And.intro ?_ ?_ | refine toEx2 ?_ | intro _)
    all_goals try (exfalso; exact Nat.lt_irrefl _ (Nat.lt_of_lt_of_le (lt_of_dec (by assumption)) hge))
    all_goals first | refine Ob2.mk ?_ | refine Ex2.of ((a.length, K)) ?_ ?_ | skip
    all_goals try ((conv => whnf); refine Ob.mk ?_)
    all_goals (try simp only [allP, side, Ctr.reads, dTag_eta, dRoad_eta, dLetter_eta, dAddr_eta, dSub_eta, dHalf_eta, dPiece_eta, dPolicy_eta, dBucket_eta, dOut_eta, dPieces_eta, dEnd_eta, dKnown_eta, dWorld_eta]); all_goals repeat' (first | with_reducible exact rfl | exact trivial | with_reducible assumption | refine And.intro ?_ ?_ | exact (rfl : (_ : SV) = _) | exact (rfl : (_ : List SC) = _) | (show drawOk _ _ _ = true; exact rfl) | (show ((0 : Nat) : Int) = 0; exact rfl))
    all_goals (try simp only [Ctr.reads, dTag_eta, dRoad_eta, dLetter_eta, dAddr_eta, dSub_eta, dHalf_eta, dPiece_eta, dPolicy_eta, dBucket_eta, dOut_eta, dPieces_eta, dEnd_eta, dKnown_eta, dWorld_eta] at *)
    all_goals first | done | (rw [hm]; done) | grind
set_option maxHeartbeats 1000000 in
theorem h_laws_heldPieceS : Ctr.holds E 266 (.reads [aRow .piece, aInt] [aInt] (fun ((a : List DPiece), (k : Int), _) => a.length ≤ 1073741824 ∧ KB k (2 * a.length)) fun ((a : List DPiece), (k : Int), _) => (hdL mkPiece 2 a k, ())) := by
  refine fn_ok (Γ := [(130, .reads [aInt] [aStr] (fun ((k : Int), _) => 0 ≤ k ∧ k ≤ 1152921504606846976) fun ((k : Int), _) => (mText k, ()))]) prgOk (gcons h_laws_markText gnil) Tryz.func266 rfl rfl rfl rfl ?_
  rintro ty ⟨(a : List DPiece), (k : Int), _⟩ (hp : a.length ≤ 1073741824 ∧ KB k (2 * a.length))
  obtain ⟨hp, hk, hk2⟩ := hp
  refine ⟨[(2, { X := Nat × Int, inv := fun x => x.1 ≤ a.length ∧ x.2 = k + 2 * (x.1 : Int) ∧ hdL mkPiece 2 (a.drop x.1) x.2 = hdL mkPiece 2 a k, mu := fun x => a.length - x.1, vk := [5, 1], ov := fun x => [.a (.c (.leaf (.int (x.1 : Int)))), .a (.c (.leaf (.int x.2)))], bk := [], ob := fun x => [], rk := [], orr := fun x => [] })], ?_⟩
  conv => whnf
  refine And.intro ⟨((0, k) : Nat × Int), Ob.mk ?_, ?_⟩ (fun (x : Nat × Int) hx => ?_)
  · exact And.intro (Nat.zero_le _) (And.intro (by simp) (by simp only [List.drop_zero]))
  · conv => whnf
    refine Ob.mk ?_
    all_goals (try simp only [allP, side, Ctr.reads, dTag_eta, dRoad_eta, dLetter_eta, dAddr_eta, dSub_eta, dHalf_eta, dPiece_eta, dPolicy_eta, dBucket_eta, dOut_eta, dPieces_eta, dEnd_eta, dKnown_eta, dWorld_eta]); all_goals repeat' (first | with_reducible exact rfl | exact trivial | with_reducible assumption | refine And.intro ?_ ?_ | exact (rfl : (_ : SV) = _) | exact (rfl : (_ : List SC) = _) | (show drawOk _ _ _ = true; exact rfl) | (show ((0 : Nat) : Int) = 0; exact rfl))
  obtain ⟨i, K⟩ := x
  obtain ⟨hi, hKe, hm⟩ := hx
  have hi : i ≤ a.length := hi
  have hKe : K = k + 2 * (i : Int) := hKe
  have hm : hdL mkPiece 2 (a.drop i) K = hdL mkPiece 2 a k := hm
  rcases Nat.lt_or_ge i a.length with hlt | hge
  · obtain ⟨x, hx, hxi, hd⟩ := at_step a i (ETy.piece.zero) hlt
    have hm : (if x = mkPiece K then hdL mkPiece 2 (a.drop (i + 1)) (K + 2) else -1) = hdL mkPiece 2 a k := by rw [hd, hdL] at hm; exact hm
    have hw := w64_succ hlt hp
    have hK1 : 0 ≤ K := by omega
    have hK2 : K + 2 ≤ 1152921504606846976 := by omega
    clear hd hxi
    simp only [dPiece_iff, mkPiece] at hm
    repeat' ((conv => whnf); first | refine toOb2 ?_ | refine And.intro (fun _ => ?_) (fun _ => ?_) | refine And.intro ?_ ?_ | refine toEx2 ?_ | refine toY ?_ | intro _)
    all_goals try (exfalso; exact Nat.lt_irrefl _ (Nat.lt_of_lt_of_le hlt (ge_of_dec (by assumption))))
    all_goals first | refine Ob2.mk ?_ | refine Ex2.of ((i + 1, K + 2)) ?_ ?_ | skip
    all_goals try ((conv => whnf); refine Ob.mk ?_)
    all_goals (try simp only [allP, side, Ctr.reads, dTag_eta, dRoad_eta, dLetter_eta, dAddr_eta, dSub_eta, dHalf_eta, dPiece_eta, dPolicy_eta, dBucket_eta, dOut_eta, dPieces_eta, dEnd_eta, dKnown_eta, dWorld_eta]); all_goals repeat' (first | with_reducible exact rfl | exact trivial | with_reducible assumption | refine And.intro ?_ ?_ | exact (rfl : (_ : SV) = _) | exact (rfl : (_ : List SC) = _) | (show drawOk _ _ _ = true; exact rfl) | (show ((0 : Nat) : Int) = 0; exact rfl))
    all_goals (try simp only [hx, Ctr.reads, dTag_eta, dRoad_eta, dLetter_eta, dAddr_eta, dSub_eta, dHalf_eta, dPiece_eta, dPolicy_eta, dBucket_eta, dOut_eta, dPieces_eta, dEnd_eta, dKnown_eta, dWorld_eta] at *)
    all_goals (try simp (disch := omega) only [w64_id, Int.add_assoc, Int.reduceAdd] at *)
    all_goals (try simp only [m3_fold] at *)
    all_goals first | done | omega | (clear hw hk hk2 hKe hK1 hK2; rw [← hm]; clear hm; simp_all; done) | grind
  · have hl : i = a.length := by omega
    subst hl
    rw [List.drop_length, hdL] at hm
    repeat' ((conv => whnf); first | refine toOb2 ?_ | refine And.intro (fun _ => ?_) (fun _ => ?_) | refine And.intro ?_ ?_ | refine toEx2 ?_ | refine toY ?_ | intro _)
    all_goals try (exfalso; exact Nat.lt_irrefl _ (Nat.lt_of_lt_of_le (lt_of_dec (by assumption)) hge))
    all_goals first | refine Ob2.mk ?_ | refine Ex2.of ((a.length, K)) ?_ ?_ | skip
    all_goals try ((conv => whnf); refine Ob.mk ?_)
    all_goals (try simp only [allP, side, Ctr.reads, dTag_eta, dRoad_eta, dLetter_eta, dAddr_eta, dSub_eta, dHalf_eta, dPiece_eta, dPolicy_eta, dBucket_eta, dOut_eta, dPieces_eta, dEnd_eta, dKnown_eta, dWorld_eta]); all_goals repeat' (first | with_reducible exact rfl | exact trivial | with_reducible assumption | refine And.intro ?_ ?_ | exact (rfl : (_ : SV) = _) | exact (rfl : (_ : List SC) = _) | (show drawOk _ _ _ = true; exact rfl) | (show ((0 : Nat) : Int) = 0; exact rfl))
    all_goals (try simp only [Ctr.reads, dTag_eta, dRoad_eta, dLetter_eta, dAddr_eta, dSub_eta, dHalf_eta, dPiece_eta, dPolicy_eta, dBucket_eta, dOut_eta, dPieces_eta, dEnd_eta, dKnown_eta, dWorld_eta] at *)
    all_goals first | done | (rw [hm]; done) | grind
set_option maxHeartbeats 1000000 in
theorem h_laws_heldPieces : Ctr.holds E 134 (.reads [aPieces, aInt] [aInt] (fun ((p : DPieces), (k : Int), _) => p.list.length ≤ 1073741824 ∧ KB k (2 * p.list.length)) fun ((p : DPieces), (k : Int), _) => (sq (hdL mkPiece 2 p.list k) id, ())) := by
  refine fn_ok (Γ := [(266, .reads [aRow .piece, aInt] [aInt] (fun ((a : List DPiece), (k : Int), _) => a.length ≤ 1073741824 ∧ KB k (2 * a.length)) fun ((a : List DPiece), (k : Int), _) => (hdL mkPiece 2 a k, ()))]) prgOk (gcons h_laws_heldPieceS gnil) Tryz.func134 rfl rfl rfl rfl ?_
  rintro ty ⟨(p : DPieces), (k : Int), _⟩ (hp : p.list.length ≤ 1073741824 ∧ KB k (2 * p.list.length))
  refine ⟨[], ?_⟩
  repeat' ((conv => whnf); first | refine toOb2 ?_ | refine And.intro (fun _ => ?_) (fun _ => ?_) | refine And.intro ?_ ?_ | refine toEx2 ?_ | refine toY ?_ | intro _)
  all_goals refine Ob2.mk ?_
  all_goals (try simp only [allP, side, Ctr.reads, dTag_eta, dRoad_eta, dLetter_eta, dAddr_eta, dSub_eta, dHalf_eta, dPiece_eta, dPolicy_eta, dBucket_eta, dOut_eta, dPieces_eta, dEnd_eta, dKnown_eta, dWorld_eta]); all_goals repeat' (first | with_reducible exact rfl | exact trivial | with_reducible assumption | refine And.intro ?_ ?_ | exact (rfl : (_ : SV) = _) | exact (rfl : (_ : List SC) = _) | (show drawOk _ _ _ = true; exact rfl) | (show ((0 : Nat) : Int) = 0; exact rfl))
  all_goals (try simp only [Ctr.reads, dTag_eta, dRoad_eta, dLetter_eta, dAddr_eta, dSub_eta, dHalf_eta, dPiece_eta, dPolicy_eta, dBucket_eta, dOut_eta, dPieces_eta, dEnd_eta, dKnown_eta, dWorld_eta] at *)
  all_goals (try simp only [decide_eq_true_eq, decide_eq_false_iff_not] at *)
  all_goals first | done | exact hp.1 | exact hp.2.1 | exact hp.2.2 | (simp only [sq_pos, sq_neg, not_false_eq_true, id, *]; done)
set_option maxHeartbeats 1000000 in
theorem h_laws_heldIntS : Ctr.holds E 135 (.reads [aRow .int, aInt] [aInt] (fun ((a : List Int), (k : Int), _) => a.length ≤ 1073741824 ∧ KB k (1 * a.length)) fun ((a : List Int), (k : Int), _) => (hdL mkInt 1 a k, ())) := by
  refine fn_ok (Γ := []) prgOk gnil Tryz.func135 rfl rfl rfl rfl ?_
  rintro ty ⟨(a : List Int), (k : Int), _⟩ (hp : a.length ≤ 1073741824 ∧ KB k (1 * a.length))
  obtain ⟨hp, hk, hk2⟩ := hp
  refine ⟨[(2, { X := Nat × Int, inv := fun x => x.1 ≤ a.length ∧ x.2 = k + 1 * (x.1 : Int) ∧ hdL mkInt 1 (a.drop x.1) x.2 = hdL mkInt 1 a k, mu := fun x => a.length - x.1, vk := [5, 1], ov := fun x => [.a (.c (.leaf (.int (x.1 : Int)))), .a (.c (.leaf (.int x.2)))], bk := [], ob := fun x => [], rk := [], orr := fun x => [] })], ?_⟩
  conv => whnf
  refine And.intro ⟨((0, k) : Nat × Int), Ob.mk ?_, ?_⟩ (fun (x : Nat × Int) hx => ?_)
  · exact And.intro (Nat.zero_le _) (And.intro (by simp) (by simp only [List.drop_zero]))
  · conv => whnf
    refine Ob.mk ?_
    all_goals (try simp only [allP, side, Ctr.reads, dTag_eta, dRoad_eta, dLetter_eta, dAddr_eta, dSub_eta, dHalf_eta, dPiece_eta, dPolicy_eta, dBucket_eta, dOut_eta, dPieces_eta, dEnd_eta, dKnown_eta, dWorld_eta]); all_goals repeat' (first | with_reducible exact rfl | exact trivial | with_reducible assumption | refine And.intro ?_ ?_ | exact (rfl : (_ : SV) = _) | exact (rfl : (_ : List SC) = _) | (show drawOk _ _ _ = true; exact rfl) | (show ((0 : Nat) : Int) = 0; exact rfl))
  obtain ⟨i, K⟩ := x
  obtain ⟨hi, hKe, hm⟩ := hx
  have hi : i ≤ a.length := hi
  have hKe : K = k + 1 * (i : Int) := hKe
  have hm : hdL mkInt 1 (a.drop i) K = hdL mkInt 1 a k := hm
  rcases Nat.lt_or_ge i a.length with hlt | hge
  · obtain ⟨x, hx, hxi, hd⟩ := at_step a i (ETy.int.zero) hlt
    have hm : (if x = mkInt K then hdL mkInt 1 (a.drop (i + 1)) (K + 1) else -1) = hdL mkInt 1 a k := by rw [hd, hdL] at hm; exact hm
    have hw := w64_succ hlt hp
    have hK1 : 0 ≤ K := by omega
    have hK2 : K + 1 ≤ 1152921504606846976 := by omega
    clear hd hxi
    simp only [mkInt] at hm
    repeat' ((conv => whnf); first | refine toOb2 ?_ | refine And.intro (fun _ => ?_) (fun _ => ?_) | refine And.intro ?_ ?_ | refine toEx2 ?_ | intro _)
    all_goals try (exfalso; exact Nat.lt_irrefl _ (Nat.lt_of_lt_of_le hlt (ge_of_dec (by assumption))))
    all_goals first | refine Ob2.mk ?_ | refine Ex2.of ((i + 1, K + 1)) ?_ ?_ | skip
    all_goals try ((conv => whnf); refine Ob.mk ?_)
    all_goals (try simp only [allP, side, Ctr.reads, dTag_eta, dRoad_eta, dLetter_eta, dAddr_eta, dSub_eta, dHalf_eta, dPiece_eta, dPolicy_eta, dBucket_eta, dOut_eta, dPieces_eta, dEnd_eta, dKnown_eta, dWorld_eta]); all_goals repeat' (first | with_reducible exact rfl | exact trivial | with_reducible assumption | refine And.intro ?_ ?_ | exact (rfl : (_ : SV) = _) | exact (rfl : (_ : List SC) = _) | (show drawOk _ _ _ = true; exact rfl) | (show ((0 : Nat) : Int) = 0; exact rfl))
    all_goals (try simp only [hx, Ctr.reads, dTag_eta, dRoad_eta, dLetter_eta, dAddr_eta, dSub_eta, dHalf_eta, dPiece_eta, dPolicy_eta, dBucket_eta, dOut_eta, dPieces_eta, dEnd_eta, dKnown_eta, dWorld_eta] at *)
    all_goals (try simp (disch := omega) only [w64_id, Int.add_assoc, Int.reduceAdd] at *)
    all_goals (try simp only [m3_fold] at *)
    all_goals first | done | omega | (clear hw hk hk2 hKe hK1 hK2; rw [← hm]; clear hm; simp_all; done) | grind
  · have hl : i = a.length := by omega
    subst hl
    rw [List.drop_length, hdL] at hm
    repeat' ((conv => whnf); first | refine toOb2 ?_ | refine And.intro (fun _ => ?_) (fun _ => ?_) | refine And.intro ?_ ?_ | refine toEx2 ?_ | intro _)
    all_goals try (exfalso; exact Nat.lt_irrefl _ (Nat.lt_of_lt_of_le (lt_of_dec (by assumption)) hge))
    all_goals first | refine Ob2.mk ?_ | refine Ex2.of ((a.length, K)) ?_ ?_ | skip
    all_goals try ((conv => whnf); refine Ob.mk ?_)
    all_goals (try simp only [allP, side, Ctr.reads, dTag_eta, dRoad_eta, dLetter_eta, dAddr_eta, dSub_eta, dHalf_eta, dPiece_eta, dPolicy_eta, dBucket_eta, dOut_eta, dPieces_eta, dEnd_eta, dKnown_eta, dWorld_eta]); all_goals repeat' (first | with_reducible exact rfl | exact trivial | with_reducible assumption | refine And.intro ?_ ?_ | exact (rfl : (_ : SV) = _) | exact (rfl : (_ : List SC) = _) | (show drawOk _ _ _ = true; exact rfl) | (show ((0 : Nat) : Int) = 0; exact rfl))
    all_goals (try simp only [Ctr.reads, dTag_eta, dRoad_eta, dLetter_eta, dAddr_eta, dSub_eta, dHalf_eta, dPiece_eta, dPolicy_eta, dBucket_eta, dOut_eta, dPieces_eta, dEnd_eta, dKnown_eta, dWorld_eta] at *)
    all_goals first | done | (rw [hm]; done) | grind
set_option maxHeartbeats 1000000 in
theorem h_laws_heldEnd : Ctr.holds E 37 (.reads [aEnd, aInt] [aInt] (fun ((e : DEnd), (k : Int), _) => e.B ∧ KB k (nEnd e)) fun ((e : DEnd), (k : Int), _) => (hdEnd e k, ())) := by
  refine fn_ok (Γ := [(131, .reads [aRow .addr, aInt] [aInt] (fun ((a : List DAddr), (k : Int), _) => a.length ≤ 1073741824 ∧ KB k (4 * a.length)) fun ((a : List DAddr), (k : Int), _) => (hdL mkAddr 4 a k, ())), (132, .reads [aRow .sub, aInt] [aInt] (fun ((a : List DSub), (k : Int), _) => a.length ≤ 1073741824 ∧ KB k (10 * a.length)) fun ((a : List DSub), (k : Int), _) => (hdL mkSub 10 a k, ())), (133, .reads [aRow .half, aInt] [aInt] (fun ((a : List DHalf), (k : Int), _) => a.length ≤ 1073741824 ∧ KB k (8 * a.length)) fun ((a : List DHalf), (k : Int), _) => (hdL mkHalf 8 a k, ())), (134, .reads [aPieces, aInt] [aInt] (fun ((p : DPieces), (k : Int), _) => p.list.length ≤ 1073741824 ∧ KB k (2 * p.list.length)) fun ((p : DPieces), (k : Int), _) => (sq (hdL mkPiece 2 p.list k) id, ())), (135, .reads [aRow .int, aInt] [aInt] (fun ((a : List Int), (k : Int), _) => a.length ≤ 1073741824 ∧ KB k (1 * a.length)) fun ((a : List Int), (k : Int), _) => (hdL mkInt 1 a k, ()))]) prgOk (gcons h_laws_heldAddrS (gcons h_laws_heldSubS (gcons h_laws_heldHalfS (gcons h_laws_heldPieces (gcons h_laws_heldIntS gnil))))) Tryz.func37 rfl rfl rfl rfl ?_
  rintro ty ⟨(e : DEnd), (k : Int), _⟩ (hp : e.B ∧ KB k (nEnd e))
  obtain ⟨⟨h1, h2, h3, h4, h5, h6, h7⟩, hk, hk2⟩ := hp
  unfold nEnd at hk2
  have b1 := hdL_bd mkAddr 4 e.own k (by omega)
  have b2 := hdL_bd mkAddr 4 e.far _ b1.1
  have b3 := hdL_bd mkSub 10 e.subs _ b2.1
  have b4 := hdL_bd mkHalf 8 e.halfs _ b3.1
  have b5 := sqid_bd (hdL_bd mkPiece 2 e.inn.list _ b4.1) (by omega)
  have b6 := hdL_bd mkInt 1 e.done _ b5.1
  have b7 := hdL_bd mkInt 1 e.over _ b6.1
  refine ⟨[], ?_⟩
  repeat' ((conv => whnf); first | refine toOb2 ?_ | refine And.intro (fun _ => ?_) (fun _ => ?_) | refine And.intro ?_ ?_ | refine toEx2 ?_ | refine toY ?_ | intro _)
  all_goals refine Ob2.mk ?_
  all_goals (try simp only [allP, side, Ctr.reads, dTag_eta, dRoad_eta, dLetter_eta, dAddr_eta, dSub_eta, dHalf_eta, dPiece_eta, dPolicy_eta, dBucket_eta, dOut_eta, dPieces_eta, dEnd_eta, dKnown_eta, dWorld_eta]); all_goals repeat' (first | with_reducible exact rfl | exact trivial | with_reducible assumption | refine And.intro ?_ ?_ | exact (rfl : (_ : SV) = _) | exact (rfl : (_ : List SC) = _) | (show drawOk _ _ _ = true; exact rfl) | (show ((0 : Nat) : Int) = 0; exact rfl))
  all_goals (try simp only [Ctr.reads, dTag_eta, dRoad_eta, dLetter_eta, dAddr_eta, dSub_eta, dHalf_eta, dPiece_eta, dPolicy_eta, dBucket_eta, dOut_eta, dPieces_eta, dEnd_eta, dKnown_eta, dWorld_eta] at *)
  all_goals (try simp only [decide_eq_true_eq, decide_eq_false_iff_not] at *)
  all_goals first | done | assumption | omega | (simp only [hdEnd, sq_pos, sq_neg, not_false_eq_true, id, *]; done)
set_option maxHeartbeats 1000000 in
theorem h_laws_heldLetterS : Ctr.holds E 38 (.reads [aRow .letter, aInt] [aInt] (fun ((a : List DLetter), (k : Int), _) => a.length ≤ 1073741824 ∧ KB k (19 * a.length)) fun ((a : List DLetter), (k : Int), _) => (hdL mkLetter 19 a k, ())) := by
  refine fn_ok (Γ := [(130, .reads [aInt] [aStr] (fun ((k : Int), _) => 0 ≤ k ∧ k ≤ 1152921504606846976) fun ((k : Int), _) => (mText k, ()))]) prgOk (gcons h_laws_markText gnil) Tryz.func38 rfl rfl rfl rfl ?_
  rintro ty ⟨(a : List DLetter), (k : Int), _⟩ (hp : a.length ≤ 1073741824 ∧ KB k (19 * a.length))
  obtain ⟨hp, hk, hk2⟩ := hp
  refine ⟨[(2, { X := Nat × Int, inv := fun x => x.1 ≤ a.length ∧ x.2 = k + 19 * (x.1 : Int) ∧ hdL mkLetter 19 (a.drop x.1) x.2 = hdL mkLetter 19 a k, mu := fun x => a.length - x.1, vk := [5, 1], ov := fun x => [.a (.c (.leaf (.int (x.1 : Int)))), .a (.c (.leaf (.int x.2)))], bk := [], ob := fun x => [], rk := [], orr := fun x => [] })], ?_⟩
  conv => whnf
  refine And.intro ⟨((0, k) : Nat × Int), Ob.mk ?_, ?_⟩ (fun (x : Nat × Int) hx => ?_)
  · exact And.intro (Nat.zero_le _) (And.intro (by simp) (by simp only [List.drop_zero]))
  · conv => whnf
    refine Ob.mk ?_
    all_goals (try simp only [allP, side, Ctr.reads, dTag_eta, dRoad_eta, dLetter_eta, dAddr_eta, dSub_eta, dHalf_eta, dPiece_eta, dPolicy_eta, dBucket_eta, dOut_eta, dPieces_eta, dEnd_eta, dKnown_eta, dWorld_eta]); all_goals repeat' (first | with_reducible exact rfl | exact trivial | with_reducible assumption | refine And.intro ?_ ?_ | exact (rfl : (_ : SV) = _) | exact (rfl : (_ : List SC) = _) | (show drawOk _ _ _ = true; exact rfl) | (show ((0 : Nat) : Int) = 0; exact rfl))
  obtain ⟨i, K⟩ := x
  obtain ⟨hi, hKe, hm⟩ := hx
  have hi : i ≤ a.length := hi
  have hKe : K = k + 19 * (i : Int) := hKe
  have hm : hdL mkLetter 19 (a.drop i) K = hdL mkLetter 19 a k := hm
  rcases Nat.lt_or_ge i a.length with hlt | hge
  · obtain ⟨x, hx, hxi, hd⟩ := at_step a i (ETy.letter.zero) hlt
    have hm : (if x = mkLetter K then hdL mkLetter 19 (a.drop (i + 1)) (K + 19) else -1) = hdL mkLetter 19 a k := by rw [hd, hdL] at hm; exact hm
    have hw := w64_succ hlt hp
    have hK1 : 0 ≤ K := by omega
    have hK2 : K + 19 ≤ 1152921504606846976 := by omega
    clear hd hxi
    simp only [dLetter_iff, mkLetter] at hm
    repeat' ((conv => whnf); first | refine toOb2 ?_ | refine And.intro (fun _ => ?_) (fun _ => ?_) | refine And.intro ?_ ?_ | refine toEx2 ?_ | refine toY ?_ | intro _)
    all_goals try (exfalso; exact Nat.lt_irrefl _ (Nat.lt_of_lt_of_le hlt (ge_of_dec (by assumption))))
    all_goals first | refine Ob2.mk ?_ | refine Ex2.of ((i + 1, K + 19)) ?_ ?_ | skip
    all_goals try ((conv => whnf); refine Ob.mk ?_)
    all_goals (try simp only [allP, side, Ctr.reads, dTag_eta, dRoad_eta, dLetter_eta, dAddr_eta, dSub_eta, dHalf_eta, dPiece_eta, dPolicy_eta, dBucket_eta, dOut_eta, dPieces_eta, dEnd_eta, dKnown_eta, dWorld_eta]); all_goals repeat' (first | with_reducible exact rfl | exact trivial | with_reducible assumption | refine And.intro ?_ ?_ | exact (rfl : (_ : SV) = _) | exact (rfl : (_ : List SC) = _) | (show drawOk _ _ _ = true; exact rfl) | (show ((0 : Nat) : Int) = 0; exact rfl))
    all_goals (try simp only [hx, Ctr.reads, dTag_eta, dRoad_eta, dLetter_eta, dAddr_eta, dSub_eta, dHalf_eta, dPiece_eta, dPolicy_eta, dBucket_eta, dOut_eta, dPieces_eta, dEnd_eta, dKnown_eta, dWorld_eta] at *)
    all_goals (try simp (disch := omega) only [w64_id, Int.add_assoc, Int.reduceAdd] at *)
    all_goals (try simp only [m3_fold] at *)
    all_goals first | done | omega | (clear hw hk hk2 hKe hK1 hK2; rw [← hm]; clear hm; simp_all; done) | grind
  · have hl : i = a.length := by omega
    subst hl
    rw [List.drop_length, hdL] at hm
    repeat' ((conv => whnf); first | refine toOb2 ?_ | refine And.intro (fun _ => ?_) (fun _ => ?_) | refine And.intro ?_ ?_ | refine toEx2 ?_ | refine toY ?_ | intro _)
    all_goals try (exfalso; exact Nat.lt_irrefl _ (Nat.lt_of_lt_of_le (lt_of_dec (by assumption)) hge))
    all_goals first | refine Ob2.mk ?_ | refine Ex2.of ((a.length, K)) ?_ ?_ | skip
    all_goals try ((conv => whnf); refine Ob.mk ?_)
    all_goals (try simp only [allP, side, Ctr.reads, dTag_eta, dRoad_eta, dLetter_eta, dAddr_eta, dSub_eta, dHalf_eta, dPiece_eta, dPolicy_eta, dBucket_eta, dOut_eta, dPieces_eta, dEnd_eta, dKnown_eta, dWorld_eta]); all_goals repeat' (first | with_reducible exact rfl | exact trivial | with_reducible assumption | refine And.intro ?_ ?_ | exact (rfl : (_ : SV) = _) | exact (rfl : (_ : List SC) = _) | (show drawOk _ _ _ = true; exact rfl) | (show ((0 : Nat) : Int) = 0; exact rfl))
    all_goals (try simp only [Ctr.reads, dTag_eta, dRoad_eta, dLetter_eta, dAddr_eta, dSub_eta, dHalf_eta, dPiece_eta, dPolicy_eta, dBucket_eta, dOut_eta, dPieces_eta, dEnd_eta, dKnown_eta, dWorld_eta] at *)
    all_goals first | done | (rw [hm]; done) | grind
set_option maxHeartbeats 1000000 in
theorem h_laws_heldTagS : Ctr.holds E 276 (.reads [aRow .tag, aInt] [aInt] (fun ((a : List DTag), (k : Int), _) => a.length ≤ 1073741824 ∧ KB k (5 * a.length)) fun ((a : List DTag), (k : Int), _) => (hdL mkTag 5 a k, ())) := by
  refine fn_ok (Γ := []) prgOk gnil Tryz.func276 rfl rfl rfl rfl ?_
  rintro ty ⟨(a : List DTag), (k : Int), _⟩ (hp : a.length ≤ 1073741824 ∧ KB k (5 * a.length))
  obtain ⟨hp, hk, hk2⟩ := hp
  refine ⟨[(2, { X := Nat × Int, inv := fun x => x.1 ≤ a.length ∧ x.2 = k + 5 * (x.1 : Int) ∧ hdL mkTag 5 (a.drop x.1) x.2 = hdL mkTag 5 a k, mu := fun x => a.length - x.1, vk := [5, 1], ov := fun x => [.a (.c (.leaf (.int (x.1 : Int)))), .a (.c (.leaf (.int x.2)))], bk := [], ob := fun x => [], rk := [], orr := fun x => [] })], ?_⟩
  conv => whnf
  refine And.intro ⟨((0, k) : Nat × Int), Ob.mk ?_, ?_⟩ (fun (x : Nat × Int) hx => ?_)
  · exact And.intro (Nat.zero_le _) (And.intro (by simp) (by simp only [List.drop_zero]))
  · conv => whnf
    refine Ob.mk ?_
    all_goals (try simp only [allP, side, Ctr.reads, dTag_eta, dRoad_eta, dLetter_eta, dAddr_eta, dSub_eta, dHalf_eta, dPiece_eta, dPolicy_eta, dBucket_eta, dOut_eta, dPieces_eta, dEnd_eta, dKnown_eta, dWorld_eta]); all_goals repeat' (first | with_reducible exact rfl | exact trivial | with_reducible assumption | refine And.intro ?_ ?_ | exact (rfl : (_ : SV) = _) | exact (rfl : (_ : List SC) = _) | (show drawOk _ _ _ = true; exact rfl) | (show ((0 : Nat) : Int) = 0; exact rfl))
  obtain ⟨i, K⟩ := x
  obtain ⟨hi, hKe, hm⟩ := hx
  have hi : i ≤ a.length := hi
  have hKe : K = k + 5 * (i : Int) := hKe
  have hm : hdL mkTag 5 (a.drop i) K = hdL mkTag 5 a k := hm
  rcases Nat.lt_or_ge i a.length with hlt | hge
  · obtain ⟨x, hx, hxi, hd⟩ := at_step a i (ETy.tag.zero) hlt
    have hm : (if x = mkTag K then hdL mkTag 5 (a.drop (i + 1)) (K + 5) else -1) = hdL mkTag 5 a k := by rw [hd, hdL] at hm; exact hm
    have hw := w64_succ hlt hp
    have hK1 : 0 ≤ K := by omega
    have hK2 : K + 5 ≤ 1152921504606846976 := by omega
    clear hd hxi
    simp only [dTag_iff, mkTag] at hm
    repeat' ((conv => whnf); first | refine toOb2 ?_ | refine And.intro (fun _ => ?_) (fun _ => ?_) | refine And.intro ?_ ?_ | refine toEx2 ?_ | intro _)
    all_goals try (exfalso; exact Nat.lt_irrefl _ (Nat.lt_of_lt_of_le hlt (ge_of_dec (by assumption))))
    all_goals first | refine Ob2.mk ?_ | refine Ex2.of ((i + 1, K + 5)) ?_ ?_ | skip
    all_goals try ((conv => whnf); refine Ob.mk ?_)
    all_goals (try simp only [allP, side, Ctr.reads, dTag_eta, dRoad_eta, dLetter_eta, dAddr_eta, dSub_eta, dHalf_eta, dPiece_eta, dPolicy_eta, dBucket_eta, dOut_eta, dPieces_eta, dEnd_eta, dKnown_eta, dWorld_eta]); all_goals repeat' (first | with_reducible exact rfl | exact trivial | with_reducible assumption | refine And.intro ?_ ?_ | exact (rfl : (_ : SV) = _) | exact (rfl : (_ : List SC) = _) | (show drawOk _ _ _ = true; exact rfl) | (show ((0 : Nat) : Int) = 0; exact rfl))
    all_goals (try simp only [hx, Ctr.reads, dTag_eta, dRoad_eta, dLetter_eta, dAddr_eta, dSub_eta, dHalf_eta, dPiece_eta, dPolicy_eta, dBucket_eta, dOut_eta, dPieces_eta, dEnd_eta, dKnown_eta, dWorld_eta] at *)
    all_goals (try simp (disch := omega) only [w64_id, Int.add_assoc, Int.reduceAdd] at *)
    all_goals (try simp only [m3_fold] at *)
    all_goals first | done | omega | (clear hw hk hk2 hKe hK1 hK2; rw [← hm]; clear hm; simp_all; done) | grind
  · have hl : i = a.length := by omega
    subst hl
    rw [List.drop_length, hdL] at hm
    repeat' ((conv => whnf); first | refine toOb2 ?_ | refine And.intro (fun _ => ?_) (fun _ => ?_) | refine And.intro ?_ ?_ | refine toEx2 ?_ | intro _)
    all_goals try (exfalso; exact Nat.lt_irrefl _ (Nat.lt_of_lt_of_le (lt_of_dec (by assumption)) hge))
    all_goals first | refine Ob2.mk ?_ | refine Ex2.of ((a.length, K)) ?_ ?_ | skip
    all_goals try ((conv => whnf); refine Ob.mk ?_)
    all_goals (try simp only [allP, side, Ctr.reads, dTag_eta, dRoad_eta, dLetter_eta, dAddr_eta, dSub_eta, dHalf_eta, dPiece_eta, dPolicy_eta, dBucket_eta, dOut_eta, dPieces_eta, dEnd_eta, dKnown_eta, dWorld_eta]); all_goals repeat' (first | with_reducible exact rfl | exact trivial | with_reducible assumption | refine And.intro ?_ ?_ | exact (rfl : (_ : SV) = _) | exact (rfl : (_ : List SC) = _) | (show drawOk _ _ _ = true; exact rfl) | (show ((0 : Nat) : Int) = 0; exact rfl))
    all_goals (try simp only [Ctr.reads, dTag_eta, dRoad_eta, dLetter_eta, dAddr_eta, dSub_eta, dHalf_eta, dPiece_eta, dPolicy_eta, dBucket_eta, dOut_eta, dPieces_eta, dEnd_eta, dKnown_eta, dWorld_eta] at *)
    all_goals first | done | (rw [hm]; done) | grind
set_option maxHeartbeats 1000000 in
theorem h_laws_heldKnown : Ctr.holds E 201 (.reads [aKnown, aInt] [aInt] (fun ((x : DKnown), (k : Int), _) => x.B ∧ KB k (nKnown x)) fun ((x : DKnown), (k : Int), _) => (hdKnown x k, ())) := by
  refine fn_ok (Γ := [(135, .reads [aRow .int, aInt] [aInt] (fun ((a : List Int), (k : Int), _) => a.length ≤ 1073741824 ∧ KB k (1 * a.length)) fun ((a : List Int), (k : Int), _) => (hdL mkInt 1 a k, ())), (276, .reads [aRow .tag, aInt] [aInt] (fun ((a : List DTag), (k : Int), _) => a.length ≤ 1073741824 ∧ KB k (5 * a.length)) fun ((a : List DTag), (k : Int), _) => (hdL mkTag 5 a k, ()))]) prgOk (gcons h_laws_heldIntS (gcons h_laws_heldTagS gnil)) Tryz.func201 rfl rfl rfl rfl ?_
  rintro ty ⟨(x : DKnown), (k : Int), _⟩ (hp : x.B ∧ KB k (nKnown x))
  obtain ⟨⟨h1, h2⟩, hk, hk2⟩ := hp
  unfold nKnown at hk2
  have b1 := hdL_bd mkInt 1 x.keys k (by omega)
  have b2 := hdL_bd mkTag 5 x.tags _ b1.1
  refine ⟨[], ?_⟩
  repeat' ((conv => whnf); first | refine toOb2 ?_ | refine And.intro (fun _ => ?_) (fun _ => ?_) | refine And.intro ?_ ?_ | refine toEx2 ?_ | refine toY ?_ | intro _)
  all_goals refine Ob2.mk ?_
  all_goals (try simp only [allP, side, Ctr.reads, dTag_eta, dRoad_eta, dLetter_eta, dAddr_eta, dSub_eta, dHalf_eta, dPiece_eta, dPolicy_eta, dBucket_eta, dOut_eta, dPieces_eta, dEnd_eta, dKnown_eta, dWorld_eta]); all_goals repeat' (first | with_reducible exact rfl | exact trivial | with_reducible assumption | refine And.intro ?_ ?_ | exact (rfl : (_ : SV) = _) | exact (rfl : (_ : List SC) = _) | (show drawOk _ _ _ = true; exact rfl) | (show ((0 : Nat) : Int) = 0; exact rfl))
  all_goals (try simp only [Ctr.reads, dTag_eta, dRoad_eta, dLetter_eta, dAddr_eta, dSub_eta, dHalf_eta, dPiece_eta, dPolicy_eta, dBucket_eta, dOut_eta, dPieces_eta, dEnd_eta, dKnown_eta, dWorld_eta] at *)
  all_goals (try simp only [decide_eq_true_eq, decide_eq_false_iff_not] at *)
  all_goals first | done | assumption | omega | (simp only [hdKnown, sq_pos, sq_neg, not_false_eq_true, id, *]; done)
set_option maxHeartbeats 1000000 in
theorem h_laws_heldWorld : Ctr.holds E 79 (.reads [aWorld, aInt] [aInt] (fun ((w : DWorld), (k : Int), _) => w.B ∧ KB k (nWorld w)) fun ((w : DWorld), (k : Int), _) => (hdWorld w k, ())) := by
  refine fn_ok (Γ := [(37, .reads [aEnd, aInt] [aInt] (fun ((e : DEnd), (k : Int), _) => e.B ∧ KB k (nEnd e)) fun ((e : DEnd), (k : Int), _) => (hdEnd e k, ())), (38, .reads [aRow .letter, aInt] [aInt] (fun ((a : List DLetter), (k : Int), _) => a.length ≤ 1073741824 ∧ KB k (19 * a.length)) fun ((a : List DLetter), (k : Int), _) => (hdL mkLetter 19 a k, ())), (201, .reads [aKnown, aInt] [aInt] (fun ((x : DKnown), (k : Int), _) => x.B ∧ KB k (nKnown x)) fun ((x : DKnown), (k : Int), _) => (hdKnown x k, ())), (135, .reads [aRow .int, aInt] [aInt] (fun ((a : List Int), (k : Int), _) => a.length ≤ 1073741824 ∧ KB k (1 * a.length)) fun ((a : List Int), (k : Int), _) => (hdL mkInt 1 a k, ()))]) prgOk (gcons h_laws_heldEnd (gcons h_laws_heldLetterS (gcons h_laws_heldKnown (gcons h_laws_heldIntS gnil)))) Tryz.func79 rfl rfl rfl rfl ?_
  rintro ty ⟨(w : DWorld), (k : Int), _⟩ (hp : w.B ∧ KB k (nWorld w))
  obtain ⟨⟨h1, h2, h3, h4, h5, h6, h7, h8, h9⟩, hk, hk2⟩ := hp
  have h56 : w.known.B := ⟨h5, h6⟩
  unfold nWorld at hk2
  have b1 := hdEnd_bd w.a (k := k) (by omega)
  have b2 := hdEnd_bd w.b b1.1
  have b3 := hdL_bd mkLetter 19 w.bag _ b2.1
  have b4 := hdL_bd mkLetter 19 w.past _ b3.1
  have b5 := hdKnown_bd w.known b4.1
  have b6 := hdL_bd mkInt 1 w.nums _ b5.1
  have b7 := hdL_bd mkInt 1 w.answersA _ b6.1
  refine ⟨[], ?_⟩
  repeat' ((conv => whnf); first | refine toOb2 ?_ | (refine And.intro (fun h => ?_) (fun h => ?_) <;> (try simp only [Ctr.reads, beq_self_eq_true, bne_self_eq_false, reduceCtorEq, decide_true, decide_false, Bool.not_true, Bool.and_true, Bool.or_false, Bool.cond_true_left, Bool.cond_false_right, hd_letters, mkL_length, sq_pos, Int.reduceLT, mkEnd_re, hd_mk1, lt0_1, lt0_2, lt0_3, ne_eq, bne_self_eq_false, or_false, false_or, allP, side, decide_eq_true_eq, decide_eq_false_iff_not, not_false_eq_true, not_true_eq_false, Bool.not_true, Bool.not_false, Bool.not_eq_true', Bool.not_eq_false', Bool.not_eq_eq_eq_not, dTag_eta, dRoad_eta, dLetter_eta, dAddr_eta, dSub_eta, dHalf_eta, dPiece_eta, dPolicy_eta, dBucket_eta, dOut_eta, dPieces_eta, dEnd_eta, dKnown_eta, dWorld_eta] at h) <;> (try with_reducible contradiction)) | refine And.intro ?_ ?_ | refine toEx2 ?_ | (refine fun y hy => ?_; (try simp only [Ctr.reads, beq_self_eq_true, bne_self_eq_false, reduceCtorEq, decide_true, decide_false, Bool.not_true, Bool.and_true, Bool.or_false, Bool.cond_true_left, Bool.cond_false_right, hd_letters, mkL_length, sq_pos, Int.reduceLT, mkEnd_re, hd_mk1, lt0_1, lt0_2, lt0_3, ne_eq, bne_self_eq_false, or_false, false_or, allP, side, decide_eq_true_eq, decide_eq_false_iff_not, not_false_eq_true, not_true_eq_false, Bool.not_true, Bool.not_false, Bool.not_eq_true', Bool.not_eq_false', Bool.not_eq_eq_eq_not, dTag_eta, dRoad_eta, dLetter_eta, dAddr_eta, dSub_eta, dHalf_eta, dPiece_eta, dPolicy_eta, dBucket_eta, dOut_eta, dPieces_eta, dEnd_eta, dKnown_eta, dWorld_eta] at hy); subst hy) | intro _)
  all_goals first | refine Ob2.mk ?_ | (show drawOk _ _ _ = true; exact rfl)
  all_goals (try simp only [allP, side, Ctr.reads, dTag_eta, dRoad_eta, dLetter_eta, dAddr_eta, dSub_eta, dHalf_eta, dPiece_eta, dPolicy_eta, dBucket_eta, dOut_eta, dPieces_eta, dEnd_eta, dKnown_eta, dWorld_eta])
  all_goals repeat' (first | with_reducible assumption | refine And.intro ?_ ?_)
  all_goals first | done | assumption | omega | (refine And.intro ?_ ?_ <;> omega) | (unfold KB nKnown; omega) | (simp only [hdWorld, sq_pos, sq_neg, not_false_eq_true, id, *]; done)
end Go.Proofs.YtjlbibidgdnjdaaGreat
