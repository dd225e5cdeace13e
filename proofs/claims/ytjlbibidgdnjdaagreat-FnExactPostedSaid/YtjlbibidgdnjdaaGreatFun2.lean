/- Contracts of functions of the program, each shown over the text. -/
import Derived.Test.YtjlbibidgdnjdaaGreatHelp
set_option linter.unusedVariables false
set_option linter.unusedSimpArgs false
set_option maxRecDepth 100000
namespace Go.Proofs.YtjlbibidgdnjdaaGreat
open Go.Eng
set_option maxHeartbeats 1000000 in
theorem h_spec_l09Copy : Ctr.holds E 243 (.reads [aPieces] [aPieces] (fun ((p : DPieces), _) => p.list.length ≤ 1073741824) fun (p, _) => (p, ())) := by
  refine fn_ok (Γ := []) prgOk gnil Tryz.func243 rfl rfl rfl rfl ?_
  rintro ty ⟨(p : DPieces), _⟩ (hp : p.list.length ≤ 1073741824)
  refine ⟨[(3, { X := Nat × List DPiece, inv := fun x => x.1 ≤ p.list.length ∧ x.2 ++ colL fAll (p.list.drop x.1) x.1 = p.list ∧ x.2.length ≤ x.1, mu := fun x => p.list.length - x.1, vk := [4, 3, 5], ov := fun x => [.a (.c (.leaf (.int (x.1 : Int)))), .a (.c (.row 320)), .any], bk := [], ob := fun x => [], rk := [320], orr := fun x => [⟨.piece, x.2, true, none⟩] })], ?_⟩
  conv => whnf
  refine And.intro ⟨((0, []) : Nat × List DPiece), Ob.mk ?_, ?_⟩ (fun (x : Nat × List DPiece) hi => ?_)
  · exact And.intro (Nat.zero_le _) (And.intro (colL_all _ _) (Nat.le_refl _))
  · conv => whnf
    refine Ob.mk ?_
    all_goals (try simp only [allP, side, Ctr.reads, dTag_eta, dRoad_eta, dLetter_eta, dAddr_eta, dSub_eta, dHalf_eta, dPiece_eta, dPolicy_eta, dBucket_eta, dOut_eta, dPieces_eta, dEnd_eta, dKnown_eta, dWorld_eta]); all_goals repeat' (first | with_reducible exact rfl | exact trivial | with_reducible assumption | refine And.intro ?_ ?_ | exact (rfl : (_ : SV) = _) | exact (rfl : (_ : List SC) = _) | (show drawOk _ _ _ = true; exact rfl) | (show ((0 : Nat) : Int) = 0; exact rfl))
  obtain ⟨i, acc⟩ := x
  obtain ⟨hi, hm⟩ := hi
  have hi : i ≤ p.list.length := hi
  have hm : acc ++ colL fAll (p.list.drop i) i = p.list ∧ acc.length ≤ i := hm
  rcases Nat.lt_or_ge i p.list.length with hlt | hge
  · obtain ⟨x, hx, hxi, hd⟩ := at_step p.list i (ETy.zero .piece) hlt
    rw [hd, colL] at hm
    have hw := w64_succ hlt (hp)
    repeat' ((conv => whnf); first | refine toOb2 ?_ | refine And.intro (fun _ => ?_) (fun _ => ?_) | refine And.intro ?_ ?_ | refine toEx2 ?_ | intro _)
    all_goals try (exfalso; exact Nat.lt_irrefl _ (Nat.lt_of_lt_of_le hlt (ge_of_dec (by assumption))))
    all_goals first | refine Ob2.mk ?_ | refine Ex2.of ((i + 1, acc ++ [x])) ?_ ?_ | skip
    all_goals try ((conv => whnf); refine Ob.mk ?_)
    all_goals (try simp only [allP, side, Ctr.reads, dTag_eta, dRoad_eta, dLetter_eta, dAddr_eta, dSub_eta, dHalf_eta, dPiece_eta, dPolicy_eta, dBucket_eta, dOut_eta, dPieces_eta, dEnd_eta, dKnown_eta, dWorld_eta]); all_goals repeat' (first | with_reducible exact rfl | exact trivial | with_reducible assumption | refine And.intro ?_ ?_ | exact (rfl : (_ : SV) = _) | exact (rfl : (_ : List SC) = _) | (show drawOk _ _ _ = true; exact rfl) | (show ((0 : Nat) : Int) = 0; exact rfl))
    all_goals (try simp only [hx, Ctr.reads, dTag_eta, dRoad_eta, dLetter_eta, dAddr_eta, dSub_eta, dHalf_eta, dPiece_eta, dPolicy_eta, dBucket_eta, dOut_eta, dPieces_eta, dEnd_eta, dKnown_eta, dWorld_eta] at *)
    all_goals first | done | (have hq := hm.1; rw [List.append_nil] at hq; simp only [hq]; done) | grind [fAll]
  · have hl : i = p.list.length := by omega
    subst hl
    rw [List.drop_length, colL] at hm
    repeat' ((conv => whnf); first | refine toOb2 ?_ | refine And.intro (fun _ => ?_) (fun _ => ?_) | refine And.intro ?_ ?_ | refine toEx2 ?_ | intro _)
    all_goals try (exfalso; exact Nat.lt_irrefl _ (Nat.lt_of_lt_of_le (lt_of_dec (by assumption)) hge))
    all_goals first | refine Ob2.mk ?_ | refine Ex2.of ((p.list.length, acc)) ?_ ?_ | skip
    all_goals try ((conv => whnf); refine Ob.mk ?_)
    all_goals (try simp only [allP, side, Ctr.reads, dTag_eta, dRoad_eta, dLetter_eta, dAddr_eta, dSub_eta, dHalf_eta, dPiece_eta, dPolicy_eta, dBucket_eta, dOut_eta, dPieces_eta, dEnd_eta, dKnown_eta, dWorld_eta]); all_goals repeat' (first | with_reducible exact rfl | exact trivial | with_reducible assumption | refine And.intro ?_ ?_ | exact (rfl : (_ : SV) = _) | exact (rfl : (_ : List SC) = _) | (show drawOk _ _ _ = true; exact rfl) | (show ((0 : Nat) : Int) = 0; exact rfl))
    all_goals (try simp only [Ctr.reads, dTag_eta, dRoad_eta, dLetter_eta, dAddr_eta, dSub_eta, dHalf_eta, dPiece_eta, dPolicy_eta, dBucket_eta, dOut_eta, dPieces_eta, dEnd_eta, dKnown_eta, dWorld_eta] at *)
    all_goals first | done | (have hq := hm.1; rw [List.append_nil] at hq; simp only [hq]; done) | grind [fAll]
set_option maxHeartbeats 1000000 in
theorem h_spec_l17Copy : Ctr.holds E 103 (.reads [aEnd] [aEnd] (fun ((e : DEnd), _) => e.B) fun (e, _) => (e, ())) := by
  refine fn_ok (Γ := [(243, .reads [aPieces] [aPieces] (fun ((p : DPieces), _) => p.list.length ≤ 1073741824) fun (p, _) => (p, ()))]) prgOk (gcons h_spec_l09Copy gnil) Tryz.func103 rfl rfl rfl rfl ?_
  rintro ty ⟨(e : DEnd), _⟩ (hp : e.B)
  obtain ⟨hb1, hb2, hb3, hb4, hb5, hb6, hb7⟩ := hp
  refine ⟨[], ?_⟩
  repeat' ((conv => whnf); first | refine toOb2 ?_ | refine And.intro (fun _ => ?_) (fun _ => ?_) | refine And.intro ?_ ?_ | refine toEx2 ?_ | refine toY ?_ | intro _)
  all_goals first | refine Ob2.mk ?_ | (show drawOk _ _ _ = true; exact rfl)
  all_goals (try simp only [allP, side, Ctr.reads, dTag_eta, dRoad_eta, dLetter_eta, dAddr_eta, dSub_eta, dHalf_eta, dPiece_eta, dPolicy_eta, dBucket_eta, dOut_eta, dPieces_eta, dEnd_eta, dKnown_eta, dWorld_eta]); all_goals repeat' (first | with_reducible exact rfl | exact trivial | with_reducible assumption | refine And.intro ?_ ?_ | exact (rfl : (_ : SV) = _) | exact (rfl : (_ : List SC) = _) | (show drawOk _ _ _ = true; exact rfl) | (show ((0 : Nat) : Int) = 0; exact rfl))
  all_goals (try simp only [List.nil_append, Ctr.reads, dTag_eta, dRoad_eta, dLetter_eta, dAddr_eta, dSub_eta, dHalf_eta, dPiece_eta, dPolicy_eta, dBucket_eta, dOut_eta, dPieces_eta, dEnd_eta, dKnown_eta, dWorld_eta] at *)
  all_goals first | done | with_reducible assumption | with_reducible rfl | grind []
set_option maxHeartbeats 1000000 in
theorem h_spec_l01In : Ctr.holds E 136 (.reads [aInt, aInt, aInt] [aBool] (fun _ => True) fun ((n : Int), (l : Int), (h : Int), _) => (mIn n l h, ())) := by
  refine fn_ok (Γ := []) prgOk gnil Tryz.func136 rfl rfl rfl rfl ?_
  rintro ty ⟨(n : Int), (l : Int), (h : Int), _⟩ hp
  refine ⟨[], ?_⟩
  repeat' ((conv => whnf); first | refine toOb2 ?_ | refine And.intro (fun _ => ?_) (fun _ => ?_) | refine And.intro ?_ ?_ | refine toEx2 ?_ | intro _)
  all_goals first | refine Ob2.mk ?_ | (show drawOk _ _ _ = true; exact rfl)
  all_goals (try simp only [allP, side, Ctr.reads, dTag_eta, dRoad_eta, dLetter_eta, dAddr_eta, dSub_eta, dHalf_eta, dPiece_eta, dPolicy_eta, dBucket_eta, dOut_eta, dPieces_eta, dEnd_eta, dKnown_eta, dWorld_eta]); all_goals repeat' (first | with_reducible exact rfl | exact trivial | with_reducible assumption | refine And.intro ?_ ?_ | exact (rfl : (_ : SV) = _) | exact (rfl : (_ : List SC) = _) | (show drawOk _ _ _ = true; exact rfl) | (show ((0 : Nat) : Int) = 0; exact rfl))
  all_goals (try simp only [Ctr.reads, dTag_eta, dRoad_eta, dLetter_eta, dAddr_eta, dSub_eta, dHalf_eta, dPiece_eta, dPolicy_eta, dBucket_eta, dOut_eta, dPieces_eta, dEnd_eta, dKnown_eta, dWorld_eta] at *)
  all_goals first | done | with_reducible assumption | with_reducible rfl | grind [mIn]
set_option maxHeartbeats 1000000 in
theorem h_impl_copyAddrs : Ctr.holds E 256 (.reads [aRow .addr] [aRow .addr] (fun ((a : List DAddr), _) => a.length ≤ 1073741824) fun (a, _) => (a, ())) := by
  refine fn_ok (Γ := []) prgOk gnil Tryz.func256 rfl rfl rfl rfl ?_
  rintro ty ⟨(a : List DAddr), _⟩ (hp : a.length ≤ 1073741824)
  refine ⟨[], ?_⟩
  repeat' ((conv => whnf); first | refine toOb2 ?_ | refine And.intro (fun _ => ?_) (fun _ => ?_) | refine And.intro ?_ ?_ | refine toEx2 ?_ | intro _)
  all_goals first | refine Ob2.mk ?_ | (show drawOk _ _ _ = true; exact rfl)
  all_goals (try simp only [allP, side, Ctr.reads, dTag_eta, dRoad_eta, dLetter_eta, dAddr_eta, dSub_eta, dHalf_eta, dPiece_eta, dPolicy_eta, dBucket_eta, dOut_eta, dPieces_eta, dEnd_eta, dKnown_eta, dWorld_eta]); all_goals repeat' (first | with_reducible exact rfl | exact trivial | with_reducible assumption | refine And.intro ?_ ?_ | exact (rfl : (_ : SV) = _) | exact (rfl : (_ : List SC) = _) | (show drawOk _ _ _ = true; exact rfl) | (show ((0 : Nat) : Int) = 0; exact rfl))
  all_goals (try simp only [List.nil_append, Ctr.reads, dTag_eta, dRoad_eta, dLetter_eta, dAddr_eta, dSub_eta, dHalf_eta, dPiece_eta, dPolicy_eta, dBucket_eta, dOut_eta, dPieces_eta, dEnd_eta, dKnown_eta, dWorld_eta] at *)
  all_goals first | done | with_reducible assumption | with_reducible rfl | grind []
set_option maxHeartbeats 1000000 in
theorem h_impl_copyHalfs : Ctr.holds E 257 (.reads [aRow .half] [aRow .half] (fun ((a : List DHalf), _) => a.length ≤ 1073741824) fun (a, _) => (a, ())) := by
  refine fn_ok (Γ := []) prgOk gnil Tryz.func257 rfl rfl rfl rfl ?_
  rintro ty ⟨(a : List DHalf), _⟩ (hp : a.length ≤ 1073741824)
  refine ⟨[], ?_⟩
  repeat' ((conv => whnf); first | refine toOb2 ?_ | refine And.intro (fun _ => ?_) (fun _ => ?_) | refine And.intro ?_ ?_ | refine toEx2 ?_ | intro _)
  all_goals first | refine Ob2.mk ?_ | (show drawOk _ _ _ = true; exact rfl)
  all_goals (try simp only [allP, side, Ctr.reads, dTag_eta, dRoad_eta, dLetter_eta, dAddr_eta, dSub_eta, dHalf_eta, dPiece_eta, dPolicy_eta, dBucket_eta, dOut_eta, dPieces_eta, dEnd_eta, dKnown_eta, dWorld_eta]); all_goals repeat' (first | with_reducible exact rfl | exact trivial | with_reducible assumption | refine And.intro ?_ ?_ | exact (rfl : (_ : SV) = _) | exact (rfl : (_ : List SC) = _) | (show drawOk _ _ _ = true; exact rfl) | (show ((0 : Nat) : Int) = 0; exact rfl))
  all_goals (try simp only [List.nil_append, Ctr.reads, dTag_eta, dRoad_eta, dLetter_eta, dAddr_eta, dSub_eta, dHalf_eta, dPiece_eta, dPolicy_eta, dBucket_eta, dOut_eta, dPieces_eta, dEnd_eta, dKnown_eta, dWorld_eta] at *)
  all_goals first | done | with_reducible assumption | with_reducible rfl | grind []
set_option maxHeartbeats 1000000 in
theorem h_impl_copyPieces : Ctr.holds E 258 (.reads [aPieces] [aPieces] (fun ((p : DPieces), _) => p.list.length ≤ 1073741824) fun (p, _) => (p, ())) := by
  refine fn_ok (Γ := []) prgOk gnil Tryz.func258 rfl rfl rfl rfl ?_
  rintro ty ⟨(p : DPieces), _⟩ (hp : p.list.length ≤ 1073741824)
  refine ⟨[], ?_⟩
  repeat' ((conv => whnf); first | refine toOb2 ?_ | refine And.intro (fun _ => ?_) (fun _ => ?_) | refine And.intro ?_ ?_ | refine toEx2 ?_ | intro _)
  all_goals first | refine Ob2.mk ?_ | (show drawOk _ _ _ = true; exact rfl)
  all_goals (try simp only [allP, side, Ctr.reads, dTag_eta, dRoad_eta, dLetter_eta, dAddr_eta, dSub_eta, dHalf_eta, dPiece_eta, dPolicy_eta, dBucket_eta, dOut_eta, dPieces_eta, dEnd_eta, dKnown_eta, dWorld_eta]); all_goals repeat' (first | with_reducible exact rfl | exact trivial | with_reducible assumption | refine And.intro ?_ ?_ | exact (rfl : (_ : SV) = _) | exact (rfl : (_ : List SC) = _) | (show drawOk _ _ _ = true; exact rfl) | (show ((0 : Nat) : Int) = 0; exact rfl))
  all_goals (try simp only [List.nil_append, Ctr.reads, dTag_eta, dRoad_eta, dLetter_eta, dAddr_eta, dSub_eta, dHalf_eta, dPiece_eta, dPolicy_eta, dBucket_eta, dOut_eta, dPieces_eta, dEnd_eta, dKnown_eta, dWorld_eta] at *)
  all_goals first | done | with_reducible assumption | with_reducible rfl | grind []
set_option maxHeartbeats 1000000 in
theorem h_impl_copyInts : Ctr.holds E 259 (.reads [aRow .int] [aRow .int] (fun ((a : List Int), _) => a.length ≤ 1073741824) fun (a, _) => (a, ())) := by
  refine fn_ok (Γ := []) prgOk gnil Tryz.func259 rfl rfl rfl rfl ?_
  rintro ty ⟨(a : List Int), _⟩ (hp : a.length ≤ 1073741824)
  refine ⟨[], ?_⟩
  repeat' ((conv => whnf); first | refine toOb2 ?_ | refine And.intro (fun _ => ?_) (fun _ => ?_) | refine And.intro ?_ ?_ | refine toEx2 ?_ | intro _)
  all_goals first | refine Ob2.mk ?_ | (show drawOk _ _ _ = true; exact rfl)
  all_goals (try simp only [allP, side, Ctr.reads, dTag_eta, dRoad_eta, dLetter_eta, dAddr_eta, dSub_eta, dHalf_eta, dPiece_eta, dPolicy_eta, dBucket_eta, dOut_eta, dPieces_eta, dEnd_eta, dKnown_eta, dWorld_eta]); all_goals repeat' (first | with_reducible exact rfl | exact trivial | with_reducible assumption | refine And.intro ?_ ?_ | exact (rfl : (_ : SV) = _) | exact (rfl : (_ : List SC) = _) | (show drawOk _ _ _ = true; exact rfl) | (show ((0 : Nat) : Int) = 0; exact rfl))
  all_goals (try simp only [List.nil_append, Ctr.reads, dTag_eta, dRoad_eta, dLetter_eta, dAddr_eta, dSub_eta, dHalf_eta, dPiece_eta, dPolicy_eta, dBucket_eta, dOut_eta, dPieces_eta, dEnd_eta, dKnown_eta, dWorld_eta] at *)
  all_goals first | done | with_reducible assumption | with_reducible rfl | grind []
set_option maxHeartbeats 1000000 in
theorem h_impl_copyEnd : Ctr.holds E 115 (.reads [aEnd] [aEnd] (fun ((e : DEnd), _) => e.B) fun (e, _) => (e, ())) := by
  refine fn_ok (Γ := [(256, .reads [aRow .addr] [aRow .addr] (fun ((a : List DAddr), _) => a.length ≤ 1073741824) fun (a, _) => (a, ())), (257, .reads [aRow .half] [aRow .half] (fun ((a : List DHalf), _) => a.length ≤ 1073741824) fun (a, _) => (a, ())), (258, .reads [aPieces] [aPieces] (fun ((p : DPieces), _) => p.list.length ≤ 1073741824) fun (p, _) => (p, ())), (259, .reads [aRow .int] [aRow .int] (fun ((a : List Int), _) => a.length ≤ 1073741824) fun (a, _) => (a, ()))]) prgOk (gcons h_impl_copyAddrs (gcons h_impl_copyHalfs (gcons h_impl_copyPieces (gcons h_impl_copyInts gnil)))) Tryz.func115 rfl rfl rfl rfl ?_
  rintro ty ⟨(e : DEnd), _⟩ (hp : e.B)
  obtain ⟨hb1, hb2, hb3, hb4, hb5, hb6, hb7⟩ := hp
  refine ⟨[], ?_⟩
  repeat' ((conv => whnf); first | refine toOb2 ?_ | refine And.intro (fun _ => ?_) (fun _ => ?_) | refine And.intro ?_ ?_ | refine toEx2 ?_ | refine toY ?_ | intro _)
  all_goals first | refine Ob2.mk ?_ | (show drawOk _ _ _ = true; exact rfl)
  all_goals (try simp only [allP, side, Ctr.reads, dTag_eta, dRoad_eta, dLetter_eta, dAddr_eta, dSub_eta, dHalf_eta, dPiece_eta, dPolicy_eta, dBucket_eta, dOut_eta, dPieces_eta, dEnd_eta, dKnown_eta, dWorld_eta]); all_goals repeat' (first | with_reducible exact rfl | exact trivial | with_reducible assumption | refine And.intro ?_ ?_ | exact (rfl : (_ : SV) = _) | exact (rfl : (_ : List SC) = _) | (show drawOk _ _ _ = true; exact rfl) | (show ((0 : Nat) : Int) = 0; exact rfl))
  all_goals (try simp only [List.nil_append, Ctr.reads, dTag_eta, dRoad_eta, dLetter_eta, dAddr_eta, dSub_eta, dHalf_eta, dPiece_eta, dPolicy_eta, dBucket_eta, dOut_eta, dPieces_eta, dEnd_eta, dKnown_eta, dWorld_eta] at *)
  all_goals first | done | with_reducible assumption | with_reducible rfl | grind []
set_option maxHeartbeats 1000000 in
theorem h_impl_copyLetters : Ctr.holds E 282 (.reads [aRow .letter] [aRow .letter] (fun ((a : List DLetter), _) => a.length ≤ 1073741824) fun (a, _) => (a, ())) := by
  refine fn_ok (Γ := []) prgOk gnil Tryz.func282 rfl rfl rfl rfl ?_
  rintro ty ⟨(a : List DLetter), _⟩ (hp : a.length ≤ 1073741824)
  refine ⟨[], ?_⟩
  repeat' ((conv => whnf); first | refine toOb2 ?_ | refine And.intro (fun _ => ?_) (fun _ => ?_) | refine And.intro ?_ ?_ | refine toEx2 ?_ | intro _)
  all_goals first | refine Ob2.mk ?_ | (show drawOk _ _ _ = true; exact rfl)
  all_goals (try simp only [allP, side, Ctr.reads, dTag_eta, dRoad_eta, dLetter_eta, dAddr_eta, dSub_eta, dHalf_eta, dPiece_eta, dPolicy_eta, dBucket_eta, dOut_eta, dPieces_eta, dEnd_eta, dKnown_eta, dWorld_eta]); all_goals repeat' (first | with_reducible exact rfl | exact trivial | with_reducible assumption | refine And.intro ?_ ?_ | exact (rfl : (_ : SV) = _) | exact (rfl : (_ : List SC) = _) | (show drawOk _ _ _ = true; exact rfl) | (show ((0 : Nat) : Int) = 0; exact rfl))
  all_goals (try simp only [List.nil_append, Ctr.reads, dTag_eta, dRoad_eta, dLetter_eta, dAddr_eta, dSub_eta, dHalf_eta, dPiece_eta, dPolicy_eta, dBucket_eta, dOut_eta, dPieces_eta, dEnd_eta, dKnown_eta, dWorld_eta] at *)
  all_goals first | done | with_reducible assumption | with_reducible rfl | grind []
set_option maxHeartbeats 1000000 in
theorem h_impl_within : Ctr.holds E 138 (.reads [aInt, aInt, aInt] [aBool] (fun _ => True) fun ((n : Int), (l : Int), (h : Int), _) => (mIn n l h, ())) := by
  refine fn_ok (Γ := []) prgOk gnil Tryz.func138 rfl rfl rfl rfl ?_
  rintro ty ⟨(n : Int), (l : Int), (h : Int), _⟩ hp
  refine ⟨[], ?_⟩
  repeat' ((conv => whnf); first | refine toOb2 ?_ | refine And.intro (fun _ => ?_) (fun _ => ?_) | refine And.intro ?_ ?_ | refine toEx2 ?_ | intro _)
  all_goals first | refine Ob2.mk ?_ | (show drawOk _ _ _ = true; exact rfl)
  all_goals (try simp only [allP, side, Ctr.reads, dTag_eta, dRoad_eta, dLetter_eta, dAddr_eta, dSub_eta, dHalf_eta, dPiece_eta, dPolicy_eta, dBucket_eta, dOut_eta, dPieces_eta, dEnd_eta, dKnown_eta, dWorld_eta]); all_goals repeat' (first | with_reducible exact rfl | exact trivial | with_reducible assumption | refine And.intro ?_ ?_ | exact (rfl : (_ : SV) = _) | exact (rfl : (_ : List SC) = _) | (show drawOk _ _ _ = true; exact rfl) | (show ((0 : Nat) : Int) = 0; exact rfl))
  all_goals (try simp only [Ctr.reads, dTag_eta, dRoad_eta, dLetter_eta, dAddr_eta, dSub_eta, dHalf_eta, dPiece_eta, dPolicy_eta, dBucket_eta, dOut_eta, dPieces_eta, dEnd_eta, dKnown_eta, dWorld_eta] at *)
  all_goals first | done | with_reducible assumption | with_reducible rfl | grind [mIn]
end Go.Proofs.YtjlbibidgdnjdaaGreat
