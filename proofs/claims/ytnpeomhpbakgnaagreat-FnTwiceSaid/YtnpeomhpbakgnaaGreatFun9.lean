/- Contracts of functions of the program, each shown over the text. -/
import Derived.Test.YtnpeomhpbakgnaaGreatFun7
set_option linter.unusedVariables false
set_option linter.unusedSimpArgs false
set_option maxRecDepth 100000
set_option maxHeartbeats 1000000
namespace Go.Proofs.YtnpeomhpbakgnaaGreat
open Go.Eng
theorem h_spec_Meet : Ctr.holds E 204 (.reads [aEnd, aEnd] [aEnd, aEnd, aBool] (fun ((a : DEnd), (b : DEnd), _) => a.B ∧ b.B) fun ((a : DEnd), (b : DEnd), _) => ((mMeet a b).1, (mMeet a b).2.1, (mMeet a b).2.2, ())) := by
  refine fn_ok prgOk (gcons h_spec_l17Copy (gcons h_spec_Open (gcons h_spec_HearHello (gcons h_spec_HearBack gnil)))) Tryz.func204 rfl rfl rfl rfl ?_
  rintro ty ⟨(a : DEnd), (b : DEnd), _⟩ (hp : a.B ∧ b.B)
  obtain ⟨ha, hb⟩ := hp
  have hO : mOpen a (b.own.getD 0 (ETy.zero .addr)).addr = mMeetO a b := rfl
  have hOB := mMeetO_B (b := b) ha
  have hHB := mMeetH_B (a := a) hb
  have hOl : (mMeetO a b).2.length ≤ 1 := mOpen_len1 _ _
  have hHl := mMeetH_len a b
  have hbo := hb.1
  refine ⟨[(7, { X := Nat × DEnd × List DLetter, inv := fun z => z.1 ≤ (mMeetO a b).2.length ∧ z.2 = if z.1 = 0 then (b, []) else mMeetH a b, mu := fun z => (mMeetO a b).2.length - z.1, vk := [11, 10, 32, 33], ov := fun z => [.a (.c (.leaf (.int (z.1 : Int)))), .a (.c (.row 2112)), .any, .any], bk := [9], ob := fun z => [[.leaf (.int z.2.1.side), .leaf (.int z.2.1.state), .leaf (.int z.2.1.key), .leaf (.int z.2.1.peer), .leaf (.int z.2.1.policy.kind), .leaf (.int z.2.1.policy.many), .row 2054, .row 2055, .row 2056, .row 2057, .leaf (.int z.2.1.bucket.rate), .leaf (.int z.2.1.bucket.burst), .leaf (.int z.2.1.bucket.hav), .leaf (.str z.2.1.out.text), .leaf (.int z.2.1.out.base), .leaf (.int z.2.1.out.sent), .leaf (.int z.2.1.out.room), .leaf (.int z.2.1.inn.read), .leaf (.str z.2.1.inn.ready), .row 2067, .row 2068, .row 2069, .leaf (.int z.2.1.draw), .leaf (.int z.2.1.now), .leaf (.int z.2.1.pick)]], rk := [2054, 2055, 2056, 2057, 2067, 2068, 2069, 2112], orr := fun z => [⟨.addr, z.2.1.own, true, none⟩, ⟨.addr, z.2.1.far, true, none⟩, ⟨.sub, z.2.1.subs, true, none⟩, ⟨.half, z.2.1.halfs, true, none⟩, ⟨.piece, z.2.1.inn.list, true, none⟩, ⟨.int, z.2.1.done, true, none⟩, ⟨.int, z.2.1.over, true, none⟩, ⟨.letter, z.2.2, true, none⟩] }), (11, { X := Nat × DEnd, inv := fun z => z.1 ≤ (mMeetH a b).2.length ∧ z.2 = if z.1 = 0 then (mMeetO a b).1 else mMeetX a b, mu := fun z => (mMeetH a b).2.length - z.1, vk := [12, 21, 28, 29], ov := fun z => [.a (.c (.leaf (.int (z.1 : Int)))), .any, .any, .any], bk := [7], ob := fun z => [[.leaf (.int z.2.side), .leaf (.int z.2.state), .leaf (.int z.2.key), .leaf (.int z.2.peer), .leaf (.int z.2.policy.kind), .leaf (.int z.2.policy.many), .row 1798, .row 1799, .row 1800, .row 1801, .leaf (.int z.2.bucket.rate), .leaf (.int z.2.bucket.burst), .leaf (.int z.2.bucket.hav), .leaf (.str z.2.out.text), .leaf (.int z.2.out.base), .leaf (.int z.2.out.sent), .leaf (.int z.2.out.room), .leaf (.int z.2.inn.read), .leaf (.str z.2.inn.ready), .row 1811, .row 1812, .row 1813, .leaf (.int z.2.draw), .leaf (.int z.2.now), .leaf (.int z.2.pick)]], rk := [1798, 1799, 1800, 1801, 1811, 1812, 1813], orr := fun z => [⟨.addr, z.2.own, true, none⟩, ⟨.addr, z.2.far, true, none⟩, ⟨.sub, z.2.subs, true, none⟩, ⟨.half, z.2.halfs, true, none⟩, ⟨.piece, z.2.inn.list, true, none⟩, ⟨.int, z.2.done, true, none⟩, ⟨.int, z.2.over, true, none⟩] })], ?_⟩
  repeat' ((conv => whnf); first | refine toOb2 ?_ | (refine fun y hy => ?_; (try simp only [Ctr.reads, show (0 : Int).toNat = 0 from rfl, hO, etas] at hy); subst hy) | refine And.intro (fun _ => ?_) (fun _ => ?_) | refine And.intro (toOb2 ?_) ?_ | refine And.intro (?_ : drawOk _ _ _ = true) ?_ | (refine And.intro ⟨?_, ?_⟩ ?_; fail) | intro _)
  (all_goals first | (refine Ob2.mk ?_; (try simp only [allP, side, Ctr.reads, show (0 : Int).toNat = 0 from rfl, hO, etas]); first | done | trivial | assumption | omega | ((repeat' (first | assumption | refine And.intro ?_ ?_ | omega | intro _)); done) | grind [mMeet]) | (show drawOk _ _ _ = true; exact rfl) | skip)
  (all_goals rename_i hown)
  have hown : b.own.length ≠ 0 := by simp at hown; simpa using hown
  conv => whnf
  refine And.intro ⟨((0, b, []) : Nat × DEnd × List DLetter), Ob.mk ?_, ?_⟩ (fun (z : Nat × DEnd × List DLetter) hi => ?_)
  · exact And.intro (Nat.zero_le _) rfl
  · conv => whnf
    refine Ob.mk ?_
    all_goals (try simp only [allP, side, Ctr.reads, etas]); all_goals repeat' (first | exact sp1 | refine And.intro ?_ ?_)
    all_goals first | done | rfl | exact trivial
  obtain ⟨i, y, k⟩ := z
  obtain ⟨hi, hz⟩ := hi
  have hi : i ≤ (mMeetO a b).2.length := hi
  have hz : (y, k) = if i = 0 then (b, []) else mMeetH a b := hz
  rcases Nat.lt_or_ge i (mMeetO a b).2.length with hlt | hge
  · obtain ⟨l, hx, hxi, hd⟩ := at_step (mMeetO a b).2 i (ETy.zero .letter) hlt
    obtain ⟨rfl, hH, hL⟩ := meetH_of hxi
    obtain ⟨hy, hk⟩ := Prod.mk.inj (show (y, k) = (b, []) from hz)
    subst hy
    subst hk
    have hw := w64_succ hlt (by omega)
    clear hd hxi hz
    repeat' ((conv => whnf); first | refine toOb2 ?_ | refine And.intro (fun _ => ?_) (fun _ => ?_) | refine And.intro ?_ ?_ | refine toEx2 ?_ | (refine fun y hy => ?_; (try simp only [Ctr.reads, show (0 : Int).toNat = 0 from rfl, hO, hx, etas] at hy); subst hy) | intro _)
    all_goals try (exfalso; exact Nat.lt_irrefl _ (Nat.lt_of_lt_of_le hlt (ge_of_dec (by assumption))))
    all_goals first | refine Ob2.mk ?_ | (show drawOk _ _ _ = true; exact rfl) | refine Ex2.of ((0 + 1, (mHearHello y l).1, (mHearHello y l).2) : Nat × DEnd × List DLetter) ?_ ?_ | skip
    all_goals try ((conv => whnf); refine Ob.mk ?_)
    all_goals (try simp only [allP, side, Ctr.reads, etas]); all_goals repeat' (first | exact sp1 | refine And.intro ?_ ?_)
    all_goals (try simp only [hx, Ctr.reads, etas] at *)
    all_goals first | done | omega | rfl | exact hw.symm | (refine And.intro (And.intro (by omega) (by rw [hH]; rfl)) (by omega)) | grind
  · have hl : i = (mMeetO a b).2.length := by omega
    have hyk : (y, k) = mMeetH a b := by
      rw [hz]
      split
      · rename_i h0; exact (meetH_nil (by omega)).symm
      · rfl
    have hy : y = (mMeetH a b).1 := by rw [← hyk]
    have hk : k = (mMeetH a b).2 := by rw [← hyk]
    subst hy
    subst hk
    clear hyk hz
    repeat' ((conv => whnf); first | refine toOb2 ?_ | (refine fun y hy => ?_; (try simp only [Ctr.reads, show (0 : Int).toNat = 0 from rfl, hO, etas] at hy); subst hy) | refine And.intro (fun _ => ?_) (fun _ => ?_) | refine And.intro (toOb2 ?_) ?_ | refine And.intro (?_ : drawOk _ _ _ = true) ?_ | (refine And.intro ⟨?_, ?_⟩ ?_; fail) | intro _)
    all_goals try (exfalso; exact Nat.lt_irrefl _ (Nat.lt_of_lt_of_le (lt_of_dec (by assumption)) hge))
    (all_goals first | (refine Ob2.mk ?_; (try simp only [allP, side, Ctr.reads, show (0 : Int).toNat = 0 from rfl, hO, etas]); first | done | trivial | assumption | omega | ((repeat' (first | assumption | refine And.intro ?_ ?_ | omega | intro _)); done) | grind []) | (show drawOk _ _ _ = true; exact rfl) | skip)
    conv => whnf
    refine And.intro ⟨((0, (mMeetO a b).1) : Nat × DEnd), Ob.mk ?_, ?_⟩ (fun (z : Nat × DEnd) hi => ?_)
    · exact And.intro (Nat.zero_le _) rfl
    · conv => whnf
      refine Ob.mk ?_
      all_goals (try simp only [allP, side, Ctr.reads, etas]); all_goals repeat' (first | exact sp1 | refine And.intro ?_ ?_)
      all_goals first | done | rfl | exact trivial
    obtain ⟨j, x⟩ := z
    obtain ⟨hj, hz⟩ := hi
    have hj : j ≤ (mMeetH a b).2.length := hj
    have hz : x = if j = 0 then (mMeetO a b).1 else mMeetX a b := hz
    rcases Nat.lt_or_ge j (mMeetH a b).2.length with hlt | hge
    · obtain ⟨m, hx, hxi, hd⟩ := at_step (mMeetH a b).2 j (ETy.zero .letter) hlt
      obtain ⟨rfl, hX, hL⟩ := meetX_of hxi
      have hz : x = (mMeetO a b).1 := hz
      subst hz
      have hw := w64_succ hlt (by omega)
      clear hd hxi
      repeat' ((conv => whnf); first | refine toOb2 ?_ | refine And.intro (fun _ => ?_) (fun _ => ?_) | refine And.intro ?_ ?_ | refine toEx2 ?_ | (refine fun y hy => ?_; (try simp only [Ctr.reads, show (0 : Int).toNat = 0 from rfl, hO, hx, etas] at hy); subst hy) | intro _)
      all_goals try (exfalso; exact Nat.lt_irrefl _ (Nat.lt_of_lt_of_le hlt (ge_of_dec (by assumption))))
      all_goals first | refine Ob2.mk ?_ | refine Ex2.of ((0 + 1, (mHearBack (mMeetO a b).1 m).1) : Nat × DEnd) ?_ ?_ | skip
      all_goals try ((conv => whnf); refine Ob.mk ?_)
      all_goals (try simp only [allP, side, Ctr.reads, etas]); all_goals repeat' (first | exact sp1 | refine And.intro ?_ ?_)
      all_goals (try simp only [hx, Ctr.reads, etas] at *)
      all_goals first | done | omega | rfl | exact hw.symm | (refine And.intro (And.intro (by omega) (by rw [hX]; rfl)) (by omega)) | grind
    · have hl : j = (mMeetH a b).2.length := by omega
      have hx : x = mMeetX a b := by
        rw [hz]
        split
        · rename_i h0; exact (meetX_nil (by omega)).symm
        · rfl
      subst hx
      clear hz
      repeat' ((conv => whnf); first | refine toOb2 ?_ | refine And.intro (fun _ => ?_) (fun _ => ?_) | refine And.intro ?_ ?_ | refine toEx2 ?_ | (refine fun y hy => ?_; (try simp only [Ctr.reads, show (0 : Int).toNat = 0 from rfl, hO, etas] at hy); subst hy) | intro _)
      all_goals try (exfalso; exact Nat.lt_irrefl _ (Nat.lt_of_lt_of_le (lt_of_dec (by assumption)) hge))
      all_goals first | refine Ob2.mk ?_ | skip
      all_goals (try simp only [allP, side, Ctr.reads, show (0 : Int).toNat = 0 from rfl, hO, etas])
      all_goals (try simp only [nbls] at *)
      all_goals (try simp only [decide_eq_true_eq, decide_eq_false_iff_not] at *)
      all_goals first | done | trivial | assumption | omega | ((repeat' (first | assumption | refine And.intro ?_ ?_ | omega | intro _)); done) | grind [mMeet, mMeetOk]
theorem h_spec_WriteAll : Ctr.holds E 205 (.reads [aEnd, aStr] [aEnd, aRow .letter] (fun ((e : DEnd), (t : List UInt8), _) => e.B) fun ((e : DEnd), (t : List UInt8), _) => ((mWriteAll e t).1, (mWriteAll e t).2, ())) := by
  refine fn_ok prgOk (gcons h_spec_Write (gcons h_spec_Push gnil)) Tryz.func205 rfl rfl rfl rfl ?_
  rintro ty ⟨(e : DEnd), (t : List UInt8), _⟩ (hp : e.B)
  have hB0 := mWrite_B t hp
  refine ⟨[(4, { X := Nat × DEnd × List DLetter, inv := fun z => z.1 ≤ 3 ∧ z.2.1 = (pushN z.1 (mWrite e t).1).1 ∧ z.2.2 = (pushN z.1 (mWrite e t).1).2, mu := fun z => 3 - z.1, vk := [9, 8, 11, 14, 15, 17], ov := fun z => [.a (.c (.leaf (.int (z.1 : Int)))), .a (.c (.row 1088)), .any, .any, .any, .any], bk := [6], ob := fun z => [[.leaf (.int z.2.1.side), .leaf (.int z.2.1.state), .leaf (.int z.2.1.key), .leaf (.int z.2.1.peer), .leaf (.int z.2.1.policy.kind), .leaf (.int z.2.1.policy.many), .row 902, .row 903, .row 904, .row 905, .leaf (.int z.2.1.bucket.rate), .leaf (.int z.2.1.bucket.burst), .leaf (.int z.2.1.bucket.hav), .leaf (.str z.2.1.out.text), .leaf (.int z.2.1.out.base), .leaf (.int z.2.1.out.sent), .leaf (.int z.2.1.out.room), .leaf (.int z.2.1.inn.read), .leaf (.str z.2.1.inn.ready), .row 915, .row 916, .row 917, .leaf (.int z.2.1.draw), .leaf (.int z.2.1.now), .leaf (.int z.2.1.pick)]], rk := [902, 903, 904, 905, 915, 916, 917, 1088], orr := fun z => [⟨.addr, z.2.1.own, true, none⟩, ⟨.addr, z.2.1.far, true, none⟩, ⟨.sub, z.2.1.subs, true, none⟩, ⟨.half, z.2.1.halfs, true, none⟩, ⟨.piece, z.2.1.inn.list, true, none⟩, ⟨.int, z.2.1.done, true, none⟩, ⟨.int, z.2.1.over, true, none⟩, ⟨.letter, z.2.2, true, none⟩] })], ?_⟩
  repeat' ((conv => whnf); first | refine toOb2 ?_ | refine toY ?_ | refine And.intro (fun _ => ?_) (fun _ => ?_) | refine And.intro (toOb2 ?_) ?_ | refine And.intro (?_ : drawOk _ _ _ = true) ?_ | (refine And.intro ⟨?_, ?_⟩ ?_; fail) | intro _)
  (all_goals first | (refine Ob2.mk ?_; (try simp only [allP, side, Ctr.reads, etas] at *); (try simp only [nbls, imp_self, implies_true, and_self, and_true, true_and] at *); first | done | trivial | assumption | omega | grind []) | (show drawOk _ _ _ = true; exact rfl) | skip)
  conv => whnf
  refine And.intro ⟨((0, (mWrite e t).1, []) : Nat × DEnd × List DLetter), Ob.mk ?_, ?_⟩ (fun (z : Nat × DEnd × List DLetter) hi => ?_)
  · exact And.intro (Nat.zero_le _) (And.intro rfl rfl)
  · conv => whnf
    refine Ob.mk ?_
    all_goals (try simp only [allP, side, Ctr.reads, etas]); all_goals repeat' (first | exact sp1 | refine And.intro ?_ ?_)
    all_goals first | done | rfl | exact trivial
  obtain ⟨i, a, acc⟩ := z
  obtain ⟨hi, ha, hc⟩ := hi
  have hi : i ≤ 3 := hi
  have ha : a = (pushN i (mWrite e t).1).1 := ha
  have hc : acc = (pushN i (mWrite e t).1).2 := hc
  have hab : a.B := by rw [ha]; exact pushN_B hB0 i
  have hal := mPush_len1 a
  have hcl : acc.length ≤ i := by rw [hc]; exact pushN_len _ i
  have hn : pushN (i + 1) (mWrite e t).1 = ((mPush a).1, acc ++ (mPush a).2) := by rw [ha, hc]; rfl
  have hw : i < 3 → w64 ((i : Int) + 1) = ((i + 1 : Nat) : Int) := fun h => w64_succ h (by decide)
  rcases Nat.lt_or_ge i 3 with hlt | hge
  · have hw := hw hlt
    clear ha hc
    repeat' ((conv => whnf); first | refine toOb2 ?_ | refine And.intro (fun _ => ?_) (fun _ => ?_) | refine And.intro ?_ ?_ | refine toEx2 ?_ | refine toY ?_ | intro _)
    all_goals try (exfalso; have h9 := of_decide_eq_false (by assumption); revert h9; simp; omega)
    all_goals first | refine Ob2.mk ?_ | refine Ex2.of ((i + 1, (mPush a).1, acc ++ (mPush a).2) : Nat × DEnd × List DLetter) ?_ ?_ | skip
    all_goals try ((conv => whnf); refine Ob.mk ?_)
    all_goals (try simp only [allP, side, Ctr.reads, etas]); all_goals repeat' (first | exact sp1 | refine And.intro ?_ ?_)
    all_goals (try simp only [hn, Ctr.reads, etas] at *)
    all_goals first | done | omega | rfl | exact hw.symm | (refine And.intro (And.intro (by omega) (And.intro rfl rfl)) (by omega)) | grind
  · have hl : i = 3 := by omega
    subst hl
    repeat' ((conv => whnf); first | refine toOb2 ?_ | refine And.intro (fun _ => ?_) (fun _ => ?_) | refine And.intro ?_ ?_ | refine toEx2 ?_ | refine toY ?_ | intro _)
    all_goals try (exfalso; have h9 := of_decide_eq_true (by assumption); revert h9; simp; done)
    all_goals first | refine Ob2.mk ?_ | skip
    all_goals (try simp only [allP, side, Ctr.reads, etas]); all_goals repeat' (first | exact sp1 | refine And.intro ?_ ?_)
    all_goals (try simp only [mWriteAll, Ctr.reads, etas] at *)
    all_goals first | done | omega | (rw [ha, hc]; done) | grind
end Go.Proofs.YtnpeomhpbakgnaaGreat
