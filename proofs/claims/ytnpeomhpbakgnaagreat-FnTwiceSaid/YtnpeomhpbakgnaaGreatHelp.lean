/- Contracts of functions of the program, each shown over the text. -/
import Derived.Test.YtnpeomhpbakgnaaGreatEnv
set_option linter.unusedVariables false
set_option linter.unusedSimpArgs false
set_option maxRecDepth 100000
set_option maxHeartbeats 1000000
namespace Go.Proofs.YtnpeomhpbakgnaaGreat
open Go.Eng
theorem h_laws_big : Ctr.holds E 11 (.reads [aRow .u8] [aBool] (fun ((b : List Int), _) => b.length ≤ 9223372036854775807) fun ((b : List Int), _) => (decide ((b.length : Int) > 1048576), ())) := by
  refine fn_ok prgOk gnil Tryz.func11 rfl rfl rfl rfl ?_
  rintro ty ⟨(b : List Int), _⟩ hp
  refine ⟨[], ?_⟩
  repeat' ((conv => whnf); first | refine toOb2 ?_ | refine And.intro (fun _ => ?_) (fun _ => ?_) | refine And.intro ?_ ?_ | refine toEx2 ?_ | intro _)
  all_goals first | refine Ob2.mk ?_ | (show drawOk _ _ _ = true; exact rfl)
  all_goals (try simp only [allP, side, Ctr.reads, etas]); all_goals repeat' (first | exact sp1 | refine And.intro ?_ ?_)
  all_goals (try simp only [Ctr.reads, etas] at *)
  all_goals (try simp only [nbls] at *)
  all_goals first | done | with_reducible assumption | with_reducible rfl | omega | grind []
theorem h_laws_sameAddrs : Ctr.holds E 24 (.reads [aRow .addr, aRow .addr] [aBool] (fun ((a : List DAddr), _) => a.length ≤ 1073741824) fun ((a : List DAddr), (b : List DAddr), _) => (decide (a = b), ())) := by
  refine fn_ok prgOk gnil Tryz.func24 rfl rfl rfl rfl ?_
  rintro ty ⟨(a : List DAddr), (b : List DAddr), _⟩ (hp : a.length ≤ 1073741824)
  refine ⟨[(4, { X := Nat, inv := fun i => i ≤ a.length ∧ decide (a.drop i = b.drop i) = decide (a = b), mu := fun i => a.length - i, vk := [5], ov := fun i => [.a (.c (.leaf (.int (i : Int))))], bk := [], ob := fun i => [], rk := [], orr := fun i => [] })], ?_⟩
  conv => whnf
  refine And.intro (fun hn => ?_) (fun hn => ?_)
  · repeat' ((conv => whnf); first | refine toOb2 ?_ | refine And.intro (fun _ => ?_) (fun _ => ?_) | refine And.intro ?_ ?_ | refine toEx2 ?_ | intro _)
    all_goals refine Ob2.mk ?_
    have hne : a ≠ b := fun h => by subst h; simp at hn
    show (_, ()) = (_, ())
    simp [hne, aBool]
  have hlen : a.length = b.length := by simp at hn; omega
  conv => whnf
  refine And.intro ⟨(0 : Nat), Ob.mk ?_, ?_⟩ (fun (i : Nat) hi => ?_)
  · exact And.intro (Nat.zero_le _) rfl
  · conv => whnf
    refine Ob.mk ?_
    all_goals (try simp only [allP, side, Ctr.reads, etas]); all_goals repeat' (first | exact sp1 | refine And.intro ?_ ?_)
  obtain ⟨hi, hm⟩ := hi
  have hi : i ≤ a.length := hi
  have hm : decide (a.drop i = b.drop i) = decide (a = b) := hm
  rcases Nat.lt_or_ge i a.length with hlt | hge
  · obtain ⟨x, hx, hxi, hd⟩ := at_step a i (ETy.addr.zero) hlt
    obtain ⟨y, hy, hyi, hd'⟩ := at_step b i (ETy.addr.zero) (hlen ▸ hlt)
    rw [hd, hd'] at hm
    have hw := w64_succ hlt hp
    have hxy := dAddr_iff x y
    repeat' ((conv => whnf); first | refine toOb2 ?_ | refine And.intro (fun _ => ?_) (fun _ => ?_) | refine And.intro ?_ ?_ | refine toEx2 ?_ | intro _)
    all_goals try (exfalso; exact Nat.lt_irrefl _ (Nat.lt_of_lt_of_le hlt (ge_of_dec (by assumption))))
    all_goals first | refine Ob2.mk ?_ | refine Ex2.of (i + 1) ?_ ?_ | skip
    all_goals try ((conv => whnf); refine Ob.mk ?_)
    all_goals (try simp only [allP, side, Ctr.reads, etas]); all_goals repeat' (first | exact sp1 | refine And.intro ?_ ?_)
    all_goals (try simp only [hx, hy, ETy.frm, beq_iff_eq, List.cons.injEq, decide_eq_decide, Ctr.reads, etas] at *)
    all_goals (try simp only [nbls] at *)
    all_goals (try simp only [decide_eq_true_eq, decide_eq_false_iff_not] at *)
    all_goals first | done | omega | grind
  · have hl : i = a.length := by omega
    subst hl
    have : decide (a = b) = true := by rw [← hm, List.drop_length, hlen, List.drop_length]; rfl
    repeat' ((conv => whnf); first | refine toOb2 ?_ | refine And.intro (fun _ => ?_) (fun _ => ?_) | refine And.intro ?_ ?_ | refine toEx2 ?_ | intro _)
    all_goals try (exfalso; exact Nat.lt_irrefl _ (Nat.lt_of_lt_of_le (lt_of_dec (by assumption)) hge))
    all_goals first | refine Ob2.mk ?_ | refine Ex2.of (a.length) ?_ ?_ | skip
    all_goals try ((conv => whnf); refine Ob.mk ?_)
    all_goals (try simp only [allP, side, Ctr.reads, etas]); all_goals repeat' (first | exact sp1 | refine And.intro ?_ ?_)
    all_goals (try simp only [this, Ctr.reads, etas] at *)
    all_goals first | done | rfl | grind
theorem h_laws_sameSubs : Ctr.holds E 85 (.reads [aRow .sub, aRow .sub] [aBool] (fun ((a : List DSub), _) => a.length ≤ 1073741824) fun ((a : List DSub), (b : List DSub), _) => (decide (a = b), ())) := by
  refine fn_ok prgOk gnil Tryz.func85 rfl rfl rfl rfl ?_
  rintro ty ⟨(a : List DSub), (b : List DSub), _⟩ (hp : a.length ≤ 1073741824)
  refine ⟨[(4, { X := Nat, inv := fun i => i ≤ a.length ∧ decide (a.drop i = b.drop i) = decide (a = b), mu := fun i => a.length - i, vk := [5], ov := fun i => [.a (.c (.leaf (.int (i : Int))))], bk := [], ob := fun i => [], rk := [], orr := fun i => [] })], ?_⟩
  conv => whnf
  refine And.intro (fun hn => ?_) (fun hn => ?_)
  · repeat' ((conv => whnf); first | refine toOb2 ?_ | refine And.intro (fun _ => ?_) (fun _ => ?_) | refine And.intro ?_ ?_ | refine toEx2 ?_ | intro _)
    all_goals refine Ob2.mk ?_
    have hne : a ≠ b := fun h => by subst h; simp at hn
    show (_, ()) = (_, ())
    simp [hne, aBool]
  have hlen : a.length = b.length := by simp at hn; omega
  conv => whnf
  refine And.intro ⟨(0 : Nat), Ob.mk ?_, ?_⟩ (fun (i : Nat) hi => ?_)
  · exact And.intro (Nat.zero_le _) rfl
  · conv => whnf
    refine Ob.mk ?_
    all_goals (try simp only [allP, side, Ctr.reads, etas]); all_goals repeat' (first | exact sp1 | refine And.intro ?_ ?_)
  obtain ⟨hi, hm⟩ := hi
  have hi : i ≤ a.length := hi
  have hm : decide (a.drop i = b.drop i) = decide (a = b) := hm
  rcases Nat.lt_or_ge i a.length with hlt | hge
  · obtain ⟨x, hx, hxi, hd⟩ := at_step a i (ETy.sub.zero) hlt
    obtain ⟨y, hy, hyi, hd'⟩ := at_step b i (ETy.sub.zero) (hlen ▸ hlt)
    rw [hd, hd'] at hm
    have hw := w64_succ hlt hp
    have hxy := dSub_iff x y
    repeat' ((conv => whnf); first | refine toOb2 ?_ | refine And.intro (fun _ => ?_) (fun _ => ?_) | refine And.intro ?_ ?_ | refine toEx2 ?_ | intro _)
    all_goals try (exfalso; exact Nat.lt_irrefl _ (Nat.lt_of_lt_of_le hlt (ge_of_dec (by assumption))))
    all_goals first | refine Ob2.mk ?_ | refine Ex2.of (i + 1) ?_ ?_ | skip
    all_goals try ((conv => whnf); refine Ob.mk ?_)
    all_goals (try simp only [allP, side, Ctr.reads, etas]); all_goals repeat' (first | exact sp1 | refine And.intro ?_ ?_)
    all_goals (try simp only [hx, hy, ETy.frm, beq_iff_eq, List.cons.injEq, decide_eq_decide, Ctr.reads, etas] at *)
    all_goals (try simp only [nbls] at *)
    all_goals (try simp only [decide_eq_true_eq, decide_eq_false_iff_not] at *)
    all_goals first | done | omega | grind
  · have hl : i = a.length := by omega
    subst hl
    have : decide (a = b) = true := by rw [← hm, List.drop_length, hlen, List.drop_length]; rfl
    repeat' ((conv => whnf); first | refine toOb2 ?_ | refine And.intro (fun _ => ?_) (fun _ => ?_) | refine And.intro ?_ ?_ | refine toEx2 ?_ | intro _)
    all_goals try (exfalso; exact Nat.lt_irrefl _ (Nat.lt_of_lt_of_le (lt_of_dec (by assumption)) hge))
    all_goals first | refine Ob2.mk ?_ | refine Ex2.of (a.length) ?_ ?_ | skip
    all_goals try ((conv => whnf); refine Ob.mk ?_)
    all_goals (try simp only [allP, side, Ctr.reads, etas]); all_goals repeat' (first | exact sp1 | refine And.intro ?_ ?_)
    all_goals (try simp only [this, Ctr.reads, etas] at *)
    all_goals first | done | rfl | grind
theorem h_laws_sameHalfs : Ctr.holds E 86 (.reads [aRow .half, aRow .half] [aBool] (fun ((a : List DHalf), _) => a.length ≤ 1073741824) fun ((a : List DHalf), (b : List DHalf), _) => (decide (a = b), ())) := by
  refine fn_ok prgOk gnil Tryz.func86 rfl rfl rfl rfl ?_
  rintro ty ⟨(a : List DHalf), (b : List DHalf), _⟩ (hp : a.length ≤ 1073741824)
  refine ⟨[(4, { X := Nat, inv := fun i => i ≤ a.length ∧ decide (a.drop i = b.drop i) = decide (a = b), mu := fun i => a.length - i, vk := [5], ov := fun i => [.a (.c (.leaf (.int (i : Int))))], bk := [], ob := fun i => [], rk := [], orr := fun i => [] })], ?_⟩
  conv => whnf
  refine And.intro (fun hn => ?_) (fun hn => ?_)
  · repeat' ((conv => whnf); first | refine toOb2 ?_ | refine And.intro (fun _ => ?_) (fun _ => ?_) | refine And.intro ?_ ?_ | refine toEx2 ?_ | intro _)
    all_goals refine Ob2.mk ?_
    have hne : a ≠ b := fun h => by subst h; simp at hn
    show (_, ()) = (_, ())
    simp [hne, aBool]
  have hlen : a.length = b.length := by simp at hn; omega
  conv => whnf
  refine And.intro ⟨(0 : Nat), Ob.mk ?_, ?_⟩ (fun (i : Nat) hi => ?_)
  · exact And.intro (Nat.zero_le _) rfl
  · conv => whnf
    refine Ob.mk ?_
    all_goals (try simp only [allP, side, Ctr.reads, etas]); all_goals repeat' (first | exact sp1 | refine And.intro ?_ ?_)
  obtain ⟨hi, hm⟩ := hi
  have hi : i ≤ a.length := hi
  have hm : decide (a.drop i = b.drop i) = decide (a = b) := hm
  rcases Nat.lt_or_ge i a.length with hlt | hge
  · obtain ⟨x, hx, hxi, hd⟩ := at_step a i (ETy.half.zero) hlt
    obtain ⟨y, hy, hyi, hd'⟩ := at_step b i (ETy.half.zero) (hlen ▸ hlt)
    rw [hd, hd'] at hm
    have hw := w64_succ hlt hp
    have hxy := dHalf_iff x y
    repeat' ((conv => whnf); first | refine toOb2 ?_ | refine And.intro (fun _ => ?_) (fun _ => ?_) | refine And.intro ?_ ?_ | refine toEx2 ?_ | intro _)
    all_goals try (exfalso; exact Nat.lt_irrefl _ (Nat.lt_of_lt_of_le hlt (ge_of_dec (by assumption))))
    all_goals first | refine Ob2.mk ?_ | refine Ex2.of (i + 1) ?_ ?_ | skip
    all_goals try ((conv => whnf); refine Ob.mk ?_)
    all_goals (try simp only [allP, side, Ctr.reads, etas]); all_goals repeat' (first | exact sp1 | refine And.intro ?_ ?_)
    all_goals (try simp only [hx, hy, ETy.frm, beq_iff_eq, List.cons.injEq, decide_eq_decide, Ctr.reads, etas] at *)
    all_goals (try simp only [nbls] at *)
    all_goals (try simp only [decide_eq_true_eq, decide_eq_false_iff_not] at *)
    all_goals first | done | omega | grind
  · have hl : i = a.length := by omega
    subst hl
    have : decide (a = b) = true := by rw [← hm, List.drop_length, hlen, List.drop_length]; rfl
    repeat' ((conv => whnf); first | refine toOb2 ?_ | refine And.intro (fun _ => ?_) (fun _ => ?_) | refine And.intro ?_ ?_ | refine toEx2 ?_ | intro _)
    all_goals try (exfalso; exact Nat.lt_irrefl _ (Nat.lt_of_lt_of_le (lt_of_dec (by assumption)) hge))
    all_goals first | refine Ob2.mk ?_ | refine Ex2.of (a.length) ?_ ?_ | skip
    all_goals try ((conv => whnf); refine Ob.mk ?_)
    all_goals (try simp only [allP, side, Ctr.reads, etas]); all_goals repeat' (first | exact sp1 | refine And.intro ?_ ?_)
    all_goals (try simp only [this, Ctr.reads, etas] at *)
    all_goals first | done | rfl | grind
theorem h_laws_samePieceList : Ctr.holds E 115 (.reads [aRow .piece, aRow .piece] [aBool] (fun ((a : List DPiece), _) => a.length ≤ 1073741824) fun ((a : List DPiece), (b : List DPiece), _) => (decide (a = b), ())) := by
  refine fn_ok prgOk gnil Tryz.func115 rfl rfl rfl rfl ?_
  rintro ty ⟨(a : List DPiece), (b : List DPiece), _⟩ (hp : a.length ≤ 1073741824)
  refine ⟨[(4, { X := Nat, inv := fun i => i ≤ a.length ∧ decide (a.drop i = b.drop i) = decide (a = b), mu := fun i => a.length - i, vk := [5], ov := fun i => [.a (.c (.leaf (.int (i : Int))))], bk := [], ob := fun i => [], rk := [], orr := fun i => [] })], ?_⟩
  conv => whnf
  refine And.intro (fun hn => ?_) (fun hn => ?_)
  · repeat' ((conv => whnf); first | refine toOb2 ?_ | refine And.intro (fun _ => ?_) (fun _ => ?_) | refine And.intro ?_ ?_ | refine toEx2 ?_ | intro _)
    all_goals refine Ob2.mk ?_
    have hne : a ≠ b := fun h => by subst h; simp at hn
    show (_, ()) = (_, ())
    simp [hne, aBool]
  have hlen : a.length = b.length := by simp at hn; omega
  conv => whnf
  refine And.intro ⟨(0 : Nat), Ob.mk ?_, ?_⟩ (fun (i : Nat) hi => ?_)
  · exact And.intro (Nat.zero_le _) rfl
  · conv => whnf
    refine Ob.mk ?_
    all_goals (try simp only [allP, side, Ctr.reads, etas]); all_goals repeat' (first | exact sp1 | refine And.intro ?_ ?_)
  obtain ⟨hi, hm⟩ := hi
  have hi : i ≤ a.length := hi
  have hm : decide (a.drop i = b.drop i) = decide (a = b) := hm
  rcases Nat.lt_or_ge i a.length with hlt | hge
  · obtain ⟨x, hx, hxi, hd⟩ := at_step a i (ETy.piece.zero) hlt
    obtain ⟨y, hy, hyi, hd'⟩ := at_step b i (ETy.piece.zero) (hlen ▸ hlt)
    rw [hd, hd'] at hm
    have hw := w64_succ hlt hp
    have hxy := dPiece_iff x y
    repeat' ((conv => whnf); first | refine toOb2 ?_ | refine And.intro (fun _ => ?_) (fun _ => ?_) | refine And.intro ?_ ?_ | refine toEx2 ?_ | intro _)
    all_goals try (exfalso; exact Nat.lt_irrefl _ (Nat.lt_of_lt_of_le hlt (ge_of_dec (by assumption))))
    all_goals first | refine Ob2.mk ?_ | refine Ex2.of (i + 1) ?_ ?_ | skip
    all_goals try ((conv => whnf); refine Ob.mk ?_)
    all_goals (try simp only [allP, side, Ctr.reads, etas]); all_goals repeat' (first | exact sp1 | refine And.intro ?_ ?_)
    all_goals (try simp only [hx, hy, ETy.frm, beq_iff_eq, List.cons.injEq, decide_eq_decide, Ctr.reads, etas] at *)
    all_goals (try simp only [nbls] at *)
    all_goals (try simp only [decide_eq_true_eq, decide_eq_false_iff_not] at *)
    all_goals first | done | omega | grind
  · have hl : i = a.length := by omega
    subst hl
    have : decide (a = b) = true := by rw [← hm, List.drop_length, hlen, List.drop_length]; rfl
    repeat' ((conv => whnf); first | refine toOb2 ?_ | refine And.intro (fun _ => ?_) (fun _ => ?_) | refine And.intro ?_ ?_ | refine toEx2 ?_ | intro _)
    all_goals try (exfalso; exact Nat.lt_irrefl _ (Nat.lt_of_lt_of_le (lt_of_dec (by assumption)) hge))
    all_goals first | refine Ob2.mk ?_ | refine Ex2.of (a.length) ?_ ?_ | skip
    all_goals try ((conv => whnf); refine Ob.mk ?_)
    all_goals (try simp only [allP, side, Ctr.reads, etas]); all_goals repeat' (first | exact sp1 | refine And.intro ?_ ?_)
    all_goals (try simp only [this, Ctr.reads, etas] at *)
    all_goals first | done | rfl | grind
theorem h_laws_samePieces : Ctr.holds E 25 (.reads [aPieces, aPieces] [aBool] (fun ((a : DPieces), _) => a.list.length ≤ 1073741824) fun ((a : DPieces), (b : DPieces), _) => (decide (a = b), ())) := by
  refine fn_ok prgOk (gcons h_laws_samePieceList gnil) Tryz.func25 rfl rfl rfl rfl ?_
  rintro ty ⟨(a : DPieces), (b : DPieces), _⟩ (hp : a.list.length ≤ 1073741824)
  have hx := dPieces_iff a b
  refine ⟨[], ?_⟩
  repeat' ((conv => whnf); first | refine toOb2 ?_ | refine And.intro (fun _ => ?_) (fun _ => ?_) | refine And.intro ?_ ?_ | refine toEx2 ?_ | refine toY ?_ | intro _)
  all_goals first | refine Ob2.mk ?_ | (show drawOk _ _ _ = true; exact rfl)
  all_goals (try simp only [allP, side, Ctr.reads, etas]); all_goals repeat' (first | exact sp1 | refine And.intro ?_ ?_)
  all_goals (try simp only [Ctr.reads, etas] at *)
  all_goals (try simp only [nbls] at *)
  all_goals first | done | with_reducible assumption | with_reducible rfl | omega | grind []
theorem h_laws_sameInts : Ctr.holds E 22 (.reads [aRow .int, aRow .int] [aBool] (fun ((a : List Int), _) => a.length ≤ 1073741824) fun ((a : List Int), (b : List Int), _) => (decide (a = b), ())) := by
  refine fn_ok prgOk gnil Tryz.func22 rfl rfl rfl rfl ?_
  rintro ty ⟨(a : List Int), (b : List Int), _⟩ (hp : a.length ≤ 1073741824)
  refine ⟨[(4, { X := Nat, inv := fun i => i ≤ a.length ∧ decide (a.drop i = b.drop i) = decide (a = b), mu := fun i => a.length - i, vk := [5], ov := fun i => [.a (.c (.leaf (.int (i : Int))))], bk := [], ob := fun i => [], rk := [], orr := fun i => [] })], ?_⟩
  conv => whnf
  refine And.intro (fun hn => ?_) (fun hn => ?_)
  · repeat' ((conv => whnf); first | refine toOb2 ?_ | refine And.intro (fun _ => ?_) (fun _ => ?_) | refine And.intro ?_ ?_ | refine toEx2 ?_ | intro _)
    all_goals refine Ob2.mk ?_
    have hne : a ≠ b := fun h => by subst h; simp at hn
    show (_, ()) = (_, ())
    simp [hne, aBool]
  have hlen : a.length = b.length := by simp at hn; omega
  conv => whnf
  refine And.intro ⟨(0 : Nat), Ob.mk ?_, ?_⟩ (fun (i : Nat) hi => ?_)
  · exact And.intro (Nat.zero_le _) rfl
  · conv => whnf
    refine Ob.mk ?_
    all_goals (try simp only [allP, side, Ctr.reads, etas]); all_goals repeat' (first | exact sp1 | refine And.intro ?_ ?_)
  obtain ⟨hi, hm⟩ := hi
  have hi : i ≤ a.length := hi
  have hm : decide (a.drop i = b.drop i) = decide (a = b) := hm
  rcases Nat.lt_or_ge i a.length with hlt | hge
  · obtain ⟨x, hx, hxi, hd⟩ := at_step a i (ETy.int.zero) hlt
    obtain ⟨y, hy, hyi, hd'⟩ := at_step b i (ETy.int.zero) (hlen ▸ hlt)
    rw [hd, hd'] at hm
    have hw := w64_succ hlt hp
    have hxy := trivial
    repeat' ((conv => whnf); first | refine toOb2 ?_ | refine And.intro (fun _ => ?_) (fun _ => ?_) | refine And.intro ?_ ?_ | refine toEx2 ?_ | intro _)
    all_goals try (exfalso; exact Nat.lt_irrefl _ (Nat.lt_of_lt_of_le hlt (ge_of_dec (by assumption))))
    all_goals first | refine Ob2.mk ?_ | refine Ex2.of (i + 1) ?_ ?_ | skip
    all_goals try ((conv => whnf); refine Ob.mk ?_)
    all_goals (try simp only [allP, side, Ctr.reads, etas]); all_goals repeat' (first | exact sp1 | refine And.intro ?_ ?_)
    all_goals (try simp only [hx, hy, ETy.frm, beq_iff_eq, List.cons.injEq, decide_eq_decide, Ctr.reads, etas] at *)
    all_goals (try simp only [nbls] at *)
    all_goals (try simp only [decide_eq_true_eq, decide_eq_false_iff_not] at *)
    all_goals first | done | omega | grind
  · have hl : i = a.length := by omega
    subst hl
    have : decide (a = b) = true := by rw [← hm, List.drop_length, hlen, List.drop_length]; rfl
    repeat' ((conv => whnf); first | refine toOb2 ?_ | refine And.intro (fun _ => ?_) (fun _ => ?_) | refine And.intro ?_ ?_ | refine toEx2 ?_ | intro _)
    all_goals try (exfalso; exact Nat.lt_irrefl _ (Nat.lt_of_lt_of_le (lt_of_dec (by assumption)) hge))
    all_goals first | refine Ob2.mk ?_ | refine Ex2.of (a.length) ?_ ?_ | skip
    all_goals try ((conv => whnf); refine Ob.mk ?_)
    all_goals (try simp only [allP, side, Ctr.reads, etas]); all_goals repeat' (first | exact sp1 | refine And.intro ?_ ?_)
    all_goals (try simp only [this, Ctr.reads, etas] at *)
    all_goals first | done | rfl | grind
theorem h_laws_sameEnd : Ctr.holds E 15 (.reads [aEnd, aEnd] [aBool] (fun ((a : DEnd), _) => a.B) fun ((a : DEnd), (b : DEnd), _) => (decide (a = b), ())) := by
  refine fn_ok prgOk (gcons h_laws_sameAddrs (gcons h_laws_sameSubs (gcons h_laws_sameHalfs (gcons h_laws_samePieces (gcons h_laws_sameInts gnil))))) Tryz.func15 rfl rfl rfl rfl ?_
  rintro ty ⟨(a : DEnd), (b : DEnd), _⟩ (hp : a.B)
  obtain ⟨h1, h2, h3, h4, h5, h6, h7⟩ := id hp
  have hx := dEnd_iff a b
  refine ⟨[], ?_⟩
  repeat' ((conv => whnf); first | refine toOb2 ?_ | refine And.intro (fun _ => ?_) (fun _ => ?_) | refine And.intro ?_ ?_ | refine toEx2 ?_ | (refine fun y hy => ?_; (try simp only [Ctr.reads, if_true, etas] at hy); subst hy) | intro _)
  all_goals first | refine Ob2.mk ?_ | (show drawOk _ _ _ = true; exact rfl)
  all_goals (try simp only [allP, side, Ctr.reads, etas])
  all_goals first | done | ((repeat' (first | exact id | exact fun _ => h1 | exact fun _ => h2 | exact fun _ => h3 | exact fun _ => h4 | exact fun _ => h5 | exact fun _ => h6 | exact fun _ => h7 | refine And.intro ?_ ?_)); done) | (simp only [Prod.mk.injEq, and_true]; rw [Bool.eq_iff_iff, decide_eq_true_iff, hx, dPolicy_iff, dBucket_iff, dOut_iff]; simp only [Bool.cond_false_right, Bool.and_eq_true, beq_iff_eq, decide_eq_true_eq, and_assoc]; done) | trace_state
theorem h_laws_sameLetters : Ctr.holds E 16 (.reads [aRow .letter, aRow .letter] [aBool] (fun ((a : List DLetter), _) => a.length ≤ 1073741824) fun ((a : List DLetter), (b : List DLetter), _) => (decide (a = b), ())) := by
  refine fn_ok prgOk gnil Tryz.func16 rfl rfl rfl rfl ?_
  rintro ty ⟨(a : List DLetter), (b : List DLetter), _⟩ (hp : a.length ≤ 1073741824)
  refine ⟨[(4, { X := Nat, inv := fun i => i ≤ a.length ∧ decide (a.drop i = b.drop i) = decide (a = b), mu := fun i => a.length - i, vk := [5], ov := fun i => [.a (.c (.leaf (.int (i : Int))))], bk := [], ob := fun i => [], rk := [], orr := fun i => [] })], ?_⟩
  conv => whnf
  refine And.intro (fun hn => ?_) (fun hn => ?_)
  · repeat' ((conv => whnf); first | refine toOb2 ?_ | refine And.intro (fun _ => ?_) (fun _ => ?_) | refine And.intro ?_ ?_ | refine toEx2 ?_ | intro _)
    all_goals refine Ob2.mk ?_
    have hne : a ≠ b := fun h => by subst h; simp at hn
    show (_, ()) = (_, ())
    simp [hne, aBool]
  have hlen : a.length = b.length := by simp at hn; omega
  conv => whnf
  refine And.intro ⟨(0 : Nat), Ob.mk ?_, ?_⟩ (fun (i : Nat) hi => ?_)
  · exact And.intro (Nat.zero_le _) rfl
  · conv => whnf
    refine Ob.mk ?_
    all_goals (try simp only [allP, side, Ctr.reads, etas]); all_goals repeat' (first | exact sp1 | refine And.intro ?_ ?_)
  obtain ⟨hi, hm⟩ := hi
  have hi : i ≤ a.length := hi
  have hm : decide (a.drop i = b.drop i) = decide (a = b) := hm
  rcases Nat.lt_or_ge i a.length with hlt | hge
  · obtain ⟨x, hx, hxi, hd⟩ := at_step a i (ETy.letter.zero) hlt
    obtain ⟨y, hy, hyi, hd'⟩ := at_step b i (ETy.letter.zero) (hlen ▸ hlt)
    rw [hd, hd'] at hm
    have hw := w64_succ hlt hp
    have hxy := dLetter_iff x y
    repeat' ((conv => whnf); first | refine toOb2 ?_ | refine And.intro (fun _ => ?_) (fun _ => ?_) | refine And.intro ?_ ?_ | refine toEx2 ?_ | intro _)
    all_goals try (exfalso; exact Nat.lt_irrefl _ (Nat.lt_of_lt_of_le hlt (ge_of_dec (by assumption))))
    all_goals first | refine Ob2.mk ?_ | refine Ex2.of (i + 1) ?_ ?_ | skip
    all_goals try ((conv => whnf); refine Ob.mk ?_)
    all_goals (try simp only [allP, side, Ctr.reads, etas]); all_goals repeat' (first | exact sp1 | refine And.intro ?_ ?_)
    all_goals (try simp only [hx, hy, ETy.frm, beq_iff_eq, List.cons.injEq, decide_eq_decide, Ctr.reads, etas] at *)
    all_goals (try simp only [nbls] at *)
    all_goals (try simp only [decide_eq_true_eq, decide_eq_false_iff_not] at *)
    all_goals first | done | omega | grind
  · have hl : i = a.length := by omega
    subst hl
    have : decide (a = b) = true := by rw [← hm, List.drop_length, hlen, List.drop_length]; rfl
    repeat' ((conv => whnf); first | refine toOb2 ?_ | refine And.intro (fun _ => ?_) (fun _ => ?_) | refine And.intro ?_ ?_ | refine toEx2 ?_ | intro _)
    all_goals try (exfalso; exact Nat.lt_irrefl _ (Nat.lt_of_lt_of_le (lt_of_dec (by assumption)) hge))
    all_goals first | refine Ob2.mk ?_ | refine Ex2.of (a.length) ?_ ?_ | skip
    all_goals try ((conv => whnf); refine Ob.mk ?_)
    all_goals (try simp only [allP, side, Ctr.reads, etas]); all_goals repeat' (first | exact sp1 | refine And.intro ?_ ?_)
    all_goals (try simp only [this, Ctr.reads, etas] at *)
    all_goals first | done | rfl | grind
end Go.Proofs.YtnpeomhpbakgnaaGreat
