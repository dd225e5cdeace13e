/- Contracts of functions of the program, each shown over the text. -/
import Derived.Test.YtnpeomhpbakgnaaGreatFun15
set_option linter.unusedVariables false
set_option linter.unusedSimpArgs false
set_option maxRecDepth 100000
set_option maxHeartbeats 1000000
namespace Go.Proofs.YtnpeomhpbakgnaaGreat
open Go.Eng
theorem h_spec_l01Text : Ctr.holds E 206 (⟨[aCur, aInt], [.ref, .ro], [aStr], (fun ((c : DCur), (n : Int), _) => c.B), (fun ((c : DCur), (n : Int), _) => (dText c n, ())), (fun ((c : DCur), (n : Int), _) => (dTextC c n, n, ())), false, .ret⟩) := by
  refine fn_okw prgOk (gcons h_spec_l01Byte gnil) Tryz.func206 rfl rfl rfl (fun ⟨c, n, _⟩ _ => ⟨by simp [LenC, dTextC_b], trivial, trivial⟩) ?_
  rintro ty ⟨(c : DCur), (n : Int), _⟩ (hp : c.B)
  have hty : Nat.beq (ty 0) (ty 0) = true := Nat.beq_refl _
  refine ⟨[(5, { X := Nat × DCur × List Int, inv := fun z => z.1 ≤ dTextN n ∧ z.2.1.B ∧ z.2.1.b = c.b ∧ (∀ x ∈ z.2.2, 0 ≤ x ∧ x ≤ 255) ∧ z.2.2.length = z.1 ∧ dBytes (dTextN n - z.1) z.2.1 z.2.2 = dBytes (dTextN n) c [], mu := fun z => dTextN n - z.1, vk := [6, 5, 9], ov := fun z => [.a (.c (.leaf (.int (z.1 : Int)))), .a (.c (.row 576)), .any], bk := [0], ob := fun z => [[.row 0, .leaf (.int z.2.1.i), .leaf (.int z.2.1.h)]], rk := [576], orr := fun z => [⟨.u8, z.2.2, true, none⟩] })], ?_⟩
  by_cases h5 : n > 5000
  · have hN : (dTextN n : Int) = 5000 := by unfold dTextN; rw [if_pos h5]; rfl
    repeat' ((conv => whnf); first | refine toOb2 ?_ | (refine fun y hy => ?_; (try simp only [Ctr.reads, h5, decide_true, decide_false, etas] at hy); subst hy) | refine And.intro (fun _ => ?_) (fun _ => ?_) | refine And.intro (toOb2 ?_) ?_ | refine And.intro (?_ : drawOk _ _ _ = true) ?_ | (refine And.intro ⟨?_, ?_⟩ ?_; fail) | intro _)
    all_goals try (exfalso; simp only [decide_eq_true_eq, decide_eq_false_iff_not] at *; omega)
    conv => whnf
    refine And.intro ⟨((0, c, []) : Nat × DCur × List Int), Ob.mk ?_, ?_⟩ (fun (z : Nat × DCur × List Int) hi => ?_)
    · exact And.intro (Nat.zero_le _) (And.intro hp (And.intro rfl (And.intro (fun x hx => by cases hx) (And.intro rfl rfl))))
    · conv => whnf
      rw [hty]
      conv => whnf
      refine Ob.mk ?_
      all_goals (try simp only [allP, side, Ctr.reads, etas]); all_goals repeat' (first | exact sp1 | refine And.intro ?_ ?_)
      all_goals first | done | rfl | exact trivial
    obtain ⟨i, u, l⟩ := z
    obtain ⟨hi, hu, hcb, hby, hl, hm⟩ := hi
    have hi : i ≤ dTextN n := hi
    have hu : u.B := hu
    have hcb : u.b = c.b := hcb
    have hby : ∀ x ∈ l, 0 ≤ x ∧ x ≤ 255 := hby
    have hl : l.length = i := hl
    have hm : dBytes (dTextN n - i) u l = dBytes (dTextN n) c [] := hm
    have hfold : (⟨c.b, u.i, u.h⟩ : DCur) = u := dCur_fold hcb
    obtain ⟨_, _, _⟩ := id hu
    have hu1 := mByteC_B hu
    rcases Nat.lt_or_ge i (dTextN n) with hlt | hge
    · obtain ⟨k, hk⟩ : ∃ k, dTextN n - i = k + 1 := ⟨dTextN n - i - 1, by omega⟩
      have hk2 : dTextN n - (i + 1) = k := by omega
      rw [hk, dBytes, ← hk2] at hm
      have hw := w64_succ (i := i) (m := 5000) (by omega) (by decide)
      have hub := u8_bd (mByte u)
      have hby2 : ∀ x ∈ l ++ [IntKind.u8.wrap (mByte u)], 0 ≤ x ∧ x ≤ 255 := fun x hx => by
        rcases List.mem_append.1 hx with hx | hx
        · exact hby x hx
        · rw [List.mem_singleton.1 hx]; exact hub
      repeat' ((conv => whnf); first | refine toOb2 ?_ | (refine fun y hy => ?_; (try simp only [Ctr.reads, hfold, cfa, cfb, hcb, etas] at hy); subst hy) | refine And.intro (fun _ => ?_) (fun _ => ?_) | refine And.intro (toOb2 ?_) ?_ | refine And.intro (?_ : drawOk _ _ _ = true) ?_ | (refine And.intro ⟨?_, ?_⟩ ?_; fail) | intro _)
      all_goals try (exfalso; simp only [hfold, cfa, cfb, hcb, decide_eq_true_eq, decide_eq_false_iff_not, gt_iff_lt] at *; omega)
      all_goals first | refine Ob2.mk ?_ | (show drawOk _ _ _ = true; exact rfl) | (refine toEx2 ?_; refine Ex2.of ((i + 1, mByteC u, l ++ [IntKind.u8.wrap (mByte u)]) : Nat × DCur × List Int) ?_ ?_; rotate_left 1; (conv => whnf); rw [hty]; (conv => whnf); refine Ob.mk ?_) | skip
      all_goals (try simp only [allP, side, Ctr.reads, hfold, cfa, cfb, hcb, etas, ETy.frm, List.length_append, List.length_cons, List.length_nil])
      all_goals first | done | trivial | assumption | omega | ((repeat' (first | with_reducible exact rfl | exact trivial | with_reducible assumption | refine And.intro ?_ ?_)); all_goals first | done | omega | exact hw.symm | exact hm | exact hcb | (rw [hcb]; done) | exact hby2 | grind) | trace_state
    · have hz : dTextN n - i = 0 := by omega
      rw [hz, dBytes] at hm
      have hd1 : dText c n = l.map fun n => UInt8.ofNat n.toNat := by rw [dText, ← hm]
      have hd2 : dTextC c n = u := by rw [dTextC, ← hm]
      repeat' ((conv => whnf); first | refine toOb2 ?_ | (refine fun y hy => ?_; (try simp only [Ctr.reads, hfold, cfa, cfb, hcb, etas] at hy); subst hy) | refine And.intro (fun _ => ?_) (fun _ => ?_) | refine And.intro (toOb2 ?_) ?_ | refine And.intro (?_ : drawOk _ _ _ = true) ?_ | (refine And.intro ⟨?_, ?_⟩ ?_; fail) | intro _)
      all_goals try (exfalso; simp only [hfold, cfa, cfb, hcb, decide_eq_true_eq, decide_eq_false_iff_not, gt_iff_lt] at *; omega)
      all_goals first | refine Ob2.mk ?_ | (show drawOk _ _ _ = true; exact rfl) | skip
      all_goals (try simp only [allP, side, Ctr.reads, hfold, cfa, cfb, hcb, hd1, hd2, etas])
      all_goals first | done | trivial | assumption | omega | ((repeat' (first | with_reducible exact rfl | exact trivial | with_reducible assumption | refine And.intro ?_ ?_)); done) | grind | trace_state
  · have hN : dTextN n = n.toNat := by unfold dTextN; rw [if_neg h5]
    repeat' ((conv => whnf); first | refine toOb2 ?_ | (refine fun y hy => ?_; (try simp only [Ctr.reads, h5, etas] at hy); subst hy) | refine And.intro (fun _ => ?_) (fun _ => ?_) | refine And.intro (toOb2 ?_) ?_ | refine And.intro (?_ : drawOk _ _ _ = true) ?_ | (refine And.intro ⟨?_, ?_⟩ ?_; fail) | intro _)
    all_goals try (exfalso; simp only [decide_eq_true_eq, decide_eq_false_iff_not] at *; omega)
    conv => whnf
    refine And.intro ⟨((0, c, []) : Nat × DCur × List Int), Ob.mk ?_, ?_⟩ (fun (z : Nat × DCur × List Int) hi => ?_)
    · exact And.intro (Nat.zero_le _) (And.intro hp (And.intro rfl (And.intro (fun x hx => by cases hx) (And.intro rfl rfl))))
    · conv => whnf
      rw [hty]
      conv => whnf
      refine Ob.mk ?_
      all_goals (try simp only [allP, side, Ctr.reads, etas]); all_goals repeat' (first | exact sp1 | refine And.intro ?_ ?_)
      all_goals first | done | rfl | exact trivial
    obtain ⟨i, u, l⟩ := z
    obtain ⟨hi, hu, hcb, hby, hl, hm⟩ := hi
    have hi : i ≤ dTextN n := hi
    have hu : u.B := hu
    have hcb : u.b = c.b := hcb
    have hby : ∀ x ∈ l, 0 ≤ x ∧ x ≤ 255 := hby
    have hl : l.length = i := hl
    have hm : dBytes (dTextN n - i) u l = dBytes (dTextN n) c [] := hm
    have hfold : (⟨c.b, u.i, u.h⟩ : DCur) = u := dCur_fold hcb
    obtain ⟨_, _, _⟩ := id hu
    have hu1 := mByteC_B hu
    rcases Nat.lt_or_ge i (dTextN n) with hlt | hge
    · obtain ⟨k, hk⟩ : ∃ k, dTextN n - i = k + 1 := ⟨dTextN n - i - 1, by omega⟩
      have hk2 : dTextN n - (i + 1) = k := by omega
      rw [hk, dBytes, ← hk2] at hm
      have hw := w64_succ (i := i) (m := 5000) (by omega) (by decide)
      have hub := u8_bd (mByte u)
      have hby2 : ∀ x ∈ l ++ [IntKind.u8.wrap (mByte u)], 0 ≤ x ∧ x ≤ 255 := fun x hx => by
        rcases List.mem_append.1 hx with hx | hx
        · exact hby x hx
        · rw [List.mem_singleton.1 hx]; exact hub
      repeat' ((conv => whnf); first | refine toOb2 ?_ | (refine fun y hy => ?_; (try simp only [Ctr.reads, hfold, cfa, cfb, hcb, etas] at hy); subst hy) | refine And.intro (fun _ => ?_) (fun _ => ?_) | refine And.intro (toOb2 ?_) ?_ | refine And.intro (?_ : drawOk _ _ _ = true) ?_ | (refine And.intro ⟨?_, ?_⟩ ?_; fail) | intro _)
      all_goals try (exfalso; simp only [hfold, cfa, cfb, hcb, decide_eq_true_eq, decide_eq_false_iff_not, gt_iff_lt] at *; omega)
      all_goals first | refine Ob2.mk ?_ | (show drawOk _ _ _ = true; exact rfl) | (refine toEx2 ?_; refine Ex2.of ((i + 1, mByteC u, l ++ [IntKind.u8.wrap (mByte u)]) : Nat × DCur × List Int) ?_ ?_; rotate_left 1; (conv => whnf); rw [hty]; (conv => whnf); refine Ob.mk ?_) | skip
      all_goals (try simp only [allP, side, Ctr.reads, hfold, cfa, cfb, hcb, etas, ETy.frm, List.length_append, List.length_cons, List.length_nil])
      all_goals first | done | trivial | assumption | omega | ((repeat' (first | with_reducible exact rfl | exact trivial | with_reducible assumption | refine And.intro ?_ ?_)); all_goals first | done | omega | exact hw.symm | exact hm | exact hcb | (rw [hcb]; done) | exact hby2 | grind) | trace_state
    · have hz : dTextN n - i = 0 := by omega
      rw [hz, dBytes] at hm
      have hd1 : dText c n = l.map fun n => UInt8.ofNat n.toNat := by rw [dText, ← hm]
      have hd2 : dTextC c n = u := by rw [dTextC, ← hm]
      repeat' ((conv => whnf); first | refine toOb2 ?_ | (refine fun y hy => ?_; (try simp only [Ctr.reads, hfold, cfa, cfb, hcb, etas] at hy); subst hy) | refine And.intro (fun _ => ?_) (fun _ => ?_) | refine And.intro (toOb2 ?_) ?_ | refine And.intro (?_ : drawOk _ _ _ = true) ?_ | (refine And.intro ⟨?_, ?_⟩ ?_; fail) | intro _)
      all_goals try (exfalso; simp only [hfold, cfa, cfb, hcb, decide_eq_true_eq, decide_eq_false_iff_not, gt_iff_lt] at *; omega)
      all_goals first | refine Ob2.mk ?_ | (show drawOk _ _ _ = true; exact rfl) | skip
      all_goals (try simp only [allP, side, Ctr.reads, hfold, cfa, cfb, hcb, hd1, hd2, etas])
      all_goals first | done | trivial | assumption | omega | ((repeat' (first | with_reducible exact rfl | exact trivial | with_reducible assumption | refine And.intro ?_ ?_)); done) | grind | trace_state
theorem h_spec_l11List : Ctr.holds E 215 (⟨[aCur], [.ref], [aRow .addr], (fun ((c : DCur), _) => c.B), (fun ((c : DCur), _) => ((dAddrs c).1, ())), (fun ((c : DCur), _) => ((dAddrs c).2, ())), false, .ret⟩) := by
  refine fn_okw prgOk (gcons h_spec_l01Below (gcons h_spec_l11Addr (gcons h_spec_PutAddr gnil))) Tryz.func215 rfl rfl rfl (fun ⟨c, _⟩ _ => ⟨by simp [LenC, dAddrs_b], trivial⟩) ?_
  rintro ty ⟨(c : DCur), _⟩ (hp : c.B)
  have hty : Nat.beq (ty 0) (ty 0) = true := Nat.beq_refl _
  refine ⟨[(3, { X := Nat × DCur × List DAddr, inv := fun z => z.1 ≤ 8 ∧ z.2.1.B ∧ z.2.1.b = c.b ∧ z.2.2.length ≤ z.1 ∧ dList 8 (fun c l => (mPutAddr l (dAddr c)).1) dAddrC (9 - z.1) z.1 z.2.1 z.2.2 = dAddrs c, mu := fun z => 8 - z.1, vk := [4, 3, 5], ov := fun z => [.a (.c (.leaf (.int (z.1 : Int)))), .a (.c (.row 320)), .any], bk := [0], ob := fun z => [[.row 0, .leaf (.int z.2.1.i), .leaf (.int z.2.1.h)]], rk := [320], orr := fun z => [⟨.addr, z.2.2, true, none⟩] })], ?_⟩
  repeat' ((conv => whnf); first | refine toOb2 ?_ | refine toY ?_ | refine And.intro (fun _ => ?_) (fun _ => ?_) | refine And.intro (toOb2 ?_) ?_ | refine And.intro (?_ : drawOk _ _ _ = true) ?_ | (refine And.intro ⟨?_, ?_⟩ ?_; fail) | intro _)
  conv => whnf
  refine And.intro ⟨((0, c, []) : Nat × DCur × List DAddr), Ob.mk ?_, ?_⟩ (fun (z : Nat × DCur × List DAddr) hi => ?_)
  · exact And.intro (Nat.zero_le _) (And.intro hp (And.intro rfl (And.intro (Nat.le_refl _) rfl)))
  · conv => whnf
    rw [hty]
    conv => whnf
    refine Ob.mk ?_
    all_goals (try simp only [allP, side, Ctr.reads, etas]); all_goals repeat' (first | exact sp1 | refine And.intro ?_ ?_)
    all_goals first | done | rfl | exact trivial
  obtain ⟨i, u, l⟩ := z
  obtain ⟨hi, hu, hcb, hl, hm⟩ := hi
  have hi : i ≤ 8 := hi
  have hu : u.B := hu
  have hcb : u.b = c.b := hcb
  have hl : l.length ≤ i := hl
  obtain ⟨k, hk⟩ : ∃ k, 9 - i = k + 1 := ⟨8 - i, by omega⟩
  have hk2 : 9 - (i + 1) = k := by omega
  have hm : dList 8 (fun c l => (mPutAddr l (dAddr c)).1) dAddrC (9 - i) i u l = dAddrs c := hm
  rw [hk, dList] at hm
  have hbd := mBelow_bd (c := u) (n := 8) (by decide)
  have hu1 := mBelowC_B 8 hu
  have hfold : (⟨c.b, u.i, u.h⟩ : DCur) = u := dCur_fold hcb
  obtain ⟨_, _, _⟩ := id hu
  obtain ⟨_, _, _⟩ := id hu1
  by_cases hlt : (i : Int) < mBelow u 8
  · rw [if_pos hlt, ← hk2] at hm
    have hw := w64_succ (i := i) (m := 8) (by omega) (by decide)
    have hu2 := dAddrC_B hu1
    obtain ⟨_, _, _⟩ := id hu2
    have hlen := mPutAddr_len l (dAddr (mBelowC u 8))
    repeat' ((conv => whnf); first | refine toOb2 ?_ | (refine fun y hy => ?_; (try simp only [Ctr.reads, hfold, cfa, cfb, hcb, etas] at hy); subst hy) | refine And.intro (fun _ => ?_) (fun _ => ?_) | refine And.intro (toOb2 ?_) ?_ | refine And.intro (?_ : drawOk _ _ _ = true) ?_ | (refine And.intro ⟨?_, ?_⟩ ?_; fail) | intro _)
    all_goals try (exfalso; simp only [hfold, cfa, cfb, hcb, decide_eq_true_eq, decide_eq_false_iff_not] at *; omega)
    all_goals first | refine Ob2.mk ?_ | (show drawOk _ _ _ = true; exact rfl) | (refine Ex2.of ((i + 1, dAddrC (mBelowC u 8), ((fun c l => (mPutAddr l (dAddr c)).1) (mBelowC u 8) l)) : Nat × DCur × List DAddr) ?_ ?_) | (refine toEx2 ?_; refine Ex2.of ((i + 1, dAddrC (mBelowC u 8), ((fun c l => (mPutAddr l (dAddr c)).1) (mBelowC u 8) l)) : Nat × DCur × List DAddr) ?_ ?_; rotate_left 1; (conv => whnf); rw [hty]; (conv => whnf); refine Ob.mk ?_) | skip
    all_goals (try simp only [allP, side, Ctr.reads, hfold, cfa, cfb, hcb, etas])
    all_goals first | done | trivial | assumption | omega | ((repeat' (first | with_reducible exact rfl | exact trivial | with_reducible assumption | refine And.intro ?_ ?_)); all_goals first | done | omega | exact hw.symm | exact hm | exact hcb | (rw [hcb]; done) | grind) | trace_state
  · rw [if_neg hlt] at hm
    repeat' ((conv => whnf); first | refine toOb2 ?_ | (refine fun y hy => ?_; (try simp only [Ctr.reads, hfold, cfa, cfb, hcb, etas] at hy); subst hy) | refine And.intro (fun _ => ?_) (fun _ => ?_) | refine And.intro (toOb2 ?_) ?_ | refine And.intro (?_ : drawOk _ _ _ = true) ?_ | (refine And.intro ⟨?_, ?_⟩ ?_; fail) | intro _)
    all_goals try (exfalso; simp only [hfold, cfa, cfb, hcb, decide_eq_true_eq, decide_eq_false_iff_not] at *; omega)
    all_goals first | refine Ob2.mk ?_ | (show drawOk _ _ _ = true; exact rfl) | skip
    all_goals (try simp only [allP, side, Ctr.reads, hfold, cfa, cfb, hcb, ← hm, etas])
    all_goals first | done | trivial | assumption | omega | ((repeat' (first | with_reducible exact rfl | exact trivial | with_reducible assumption | refine And.intro ?_ ?_)); done) | grind | trace_state
theorem h_spec_l11Any : Ctr.holds E 160 (⟨[aCur], [.ref], [aRow .addr], (fun ((c : DCur), _) => c.B), (fun ((c : DCur), _) => ((dAddrsAny c).1, ())), (fun ((c : DCur), _) => ((dAddrsAny c).2, ())), false, .ret⟩) := by
  refine fn_okw prgOk (gcons h_spec_l11List (gcons h_spec_l01Below (gcons h_spec_l11Addr (gcons h_spec_l01PickInt gnil)))) Tryz.func160 rfl rfl rfl (fun ⟨c, _⟩ _ => ⟨by simp [LenC, dAddrsAny_b], trivial⟩) ?_
  rintro ty ⟨(c : DCur), _⟩ (hp : c.B)
  have hb1 := dAddrs_B hp
  obtain ⟨_, _, _⟩ := id hb1
  have hb2 := mBelowC_B 12 hb1
  obtain ⟨_, _, _⟩ := id hb2
  have hb3 : (mPickIntC (mBelowC (dAddrs c).2 12) lIds).B := mBelowC_B _ hb2
  obtain ⟨_, _, _⟩ := id hb3
  have hln := dAddrs_len c
  have hla : lIds.length = 3 := rfl
  have hla2 : lOdd.length = 3 := rfl
  have hlit : ([-1, 256, 255] : List Int) = lIds := rfl
  have hlit2 : ([0, 65536, 500] : List Int) = lOdd := rfl
  refine ⟨[], ?_⟩
  repeat' ((conv => whnf); first | refine toOb2 ?_ | refine And.intro (fun _ => ?_) (fun _ => ?_) | refine And.intro ?_ ?_ | refine toEx2 ?_ | refine toY ?_ | intro _)
  all_goals first | refine Ob2.mk ?_ | (show drawOk _ _ _ = true; exact rfl)
  all_goals (try simp only [allP, side, Ctr.reads, etas]); all_goals repeat' (first | exact sp1 | refine And.intro ?_ ?_)
  all_goals (try simp only [cfa, cfb, dAddrs_b, dHalfs_b, hlit, hlit2, ETy.frm, Ctr.reads, etas] at *)
  all_goals (try simp only [nbls] at *)
  all_goals first | done | with_reducible assumption | with_reducible rfl | omega | grind [dAddrsAny, dAddrs2]
theorem h_spec_l14List : Ctr.holds E 217 (⟨[aCur], [.ref], [aRow .half], (fun ((c : DCur), _) => c.B), (fun ((c : DCur), _) => ((dHalfs c).1, ())), (fun ((c : DCur), _) => ((dHalfs c).2, ())), false, .ret⟩) := by
  refine fn_okw prgOk (gcons h_spec_l01Below (gcons h_spec_l14Half (gcons h_spec_PutHalf gnil))) Tryz.func217 rfl rfl rfl (fun ⟨c, _⟩ _ => ⟨by simp [LenC, dHalfs_b], trivial⟩) ?_
  rintro ty ⟨(c : DCur), _⟩ (hp : c.B)
  have hty : Nat.beq (ty 0) (ty 0) = true := Nat.beq_refl _
  refine ⟨[(3, { X := Nat × DCur × List DHalf, inv := fun z => z.1 ≤ 6 ∧ z.2.1.B ∧ z.2.1.b = c.b ∧ z.2.2.length ≤ z.1 ∧ dList 6 (fun c l => (mPutHalf l (dHalf c)).1) dHalfC (7 - z.1) z.1 z.2.1 z.2.2 = dHalfs c, mu := fun z => 6 - z.1, vk := [4, 3, 5], ov := fun z => [.a (.c (.leaf (.int (z.1 : Int)))), .a (.c (.row 320)), .any], bk := [0], ob := fun z => [[.row 0, .leaf (.int z.2.1.i), .leaf (.int z.2.1.h)]], rk := [320], orr := fun z => [⟨.half, z.2.2, true, none⟩] })], ?_⟩
  repeat' ((conv => whnf); first | refine toOb2 ?_ | refine toY ?_ | refine And.intro (fun _ => ?_) (fun _ => ?_) | refine And.intro (toOb2 ?_) ?_ | refine And.intro (?_ : drawOk _ _ _ = true) ?_ | (refine And.intro ⟨?_, ?_⟩ ?_; fail) | intro _)
  conv => whnf
  refine And.intro ⟨((0, c, []) : Nat × DCur × List DHalf), Ob.mk ?_, ?_⟩ (fun (z : Nat × DCur × List DHalf) hi => ?_)
  · exact And.intro (Nat.zero_le _) (And.intro hp (And.intro rfl (And.intro (Nat.le_refl _) rfl)))
  · conv => whnf
    rw [hty]
    conv => whnf
    refine Ob.mk ?_
    all_goals (try simp only [allP, side, Ctr.reads, etas]); all_goals repeat' (first | exact sp1 | refine And.intro ?_ ?_)
    all_goals first | done | rfl | exact trivial
  obtain ⟨i, u, l⟩ := z
  obtain ⟨hi, hu, hcb, hl, hm⟩ := hi
  have hi : i ≤ 6 := hi
  have hu : u.B := hu
  have hcb : u.b = c.b := hcb
  have hl : l.length ≤ i := hl
  obtain ⟨k, hk⟩ : ∃ k, 7 - i = k + 1 := ⟨6 - i, by omega⟩
  have hk2 : 7 - (i + 1) = k := by omega
  have hm : dList 6 (fun c l => (mPutHalf l (dHalf c)).1) dHalfC (7 - i) i u l = dHalfs c := hm
  rw [hk, dList] at hm
  have hbd := mBelow_bd (c := u) (n := 6) (by decide)
  have hu1 := mBelowC_B 6 hu
  have hfold : (⟨c.b, u.i, u.h⟩ : DCur) = u := dCur_fold hcb
  obtain ⟨_, _, _⟩ := id hu
  obtain ⟨_, _, _⟩ := id hu1
  by_cases hlt : (i : Int) < mBelow u 6
  · rw [if_pos hlt, ← hk2] at hm
    have hw := w64_succ (i := i) (m := 6) (by omega) (by decide)
    have hu2 := dHalfC_B hu1
    obtain ⟨_, _, _⟩ := id hu2
    have hlen := mPutHalf_len l (dHalf (mBelowC u 6))
    repeat' ((conv => whnf); first | refine toOb2 ?_ | (refine fun y hy => ?_; (try simp only [Ctr.reads, hfold, cfa, cfb, hcb, etas] at hy); subst hy) | refine And.intro (fun _ => ?_) (fun _ => ?_) | refine And.intro (toOb2 ?_) ?_ | refine And.intro (?_ : drawOk _ _ _ = true) ?_ | (refine And.intro ⟨?_, ?_⟩ ?_; fail) | intro _)
    all_goals try (exfalso; simp only [hfold, cfa, cfb, hcb, decide_eq_true_eq, decide_eq_false_iff_not] at *; omega)
    all_goals first | refine Ob2.mk ?_ | (show drawOk _ _ _ = true; exact rfl) | (refine Ex2.of ((i + 1, dHalfC (mBelowC u 6), ((fun c l => (mPutHalf l (dHalf c)).1) (mBelowC u 6) l)) : Nat × DCur × List DHalf) ?_ ?_) | (refine toEx2 ?_; refine Ex2.of ((i + 1, dHalfC (mBelowC u 6), ((fun c l => (mPutHalf l (dHalf c)).1) (mBelowC u 6) l)) : Nat × DCur × List DHalf) ?_ ?_; rotate_left 1; (conv => whnf); rw [hty]; (conv => whnf); refine Ob.mk ?_) | skip
    all_goals (try simp only [allP, side, Ctr.reads, hfold, cfa, cfb, hcb, etas])
    all_goals first | done | trivial | assumption | omega | ((repeat' (first | with_reducible exact rfl | exact trivial | with_reducible assumption | refine And.intro ?_ ?_)); all_goals first | done | omega | exact hw.symm | exact hm | exact hcb | (rw [hcb]; done) | grind) | trace_state
  · rw [if_neg hlt] at hm
    repeat' ((conv => whnf); first | refine toOb2 ?_ | (refine fun y hy => ?_; (try simp only [Ctr.reads, hfold, cfa, cfb, hcb, etas] at hy); subst hy) | refine And.intro (fun _ => ?_) (fun _ => ?_) | refine And.intro (toOb2 ?_) ?_ | refine And.intro (?_ : drawOk _ _ _ = true) ?_ | (refine And.intro ⟨?_, ?_⟩ ?_; fail) | intro _)
    all_goals try (exfalso; simp only [hfold, cfa, cfb, hcb, decide_eq_true_eq, decide_eq_false_iff_not] at *; omega)
    all_goals first | refine Ob2.mk ?_ | (show drawOk _ _ _ = true; exact rfl) | skip
    all_goals (try simp only [allP, side, Ctr.reads, hfold, cfa, cfb, hcb, ← hm, etas])
    all_goals first | done | trivial | assumption | omega | ((repeat' (first | with_reducible exact rfl | exact trivial | with_reducible assumption | refine And.intro ?_ ?_)); done) | grind | trace_state
end Go.Proofs.YtnpeomhpbakgnaaGreat
