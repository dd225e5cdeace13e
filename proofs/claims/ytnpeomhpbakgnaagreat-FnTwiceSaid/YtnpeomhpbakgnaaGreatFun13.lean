/- Contracts of functions of the program, each shown over the text. -/
import Derived.Test.YtnpeomhpbakgnaaGreatFun11
set_option linter.unusedVariables false
set_option linter.unusedSimpArgs false
set_option maxRecDepth 100000
set_option maxHeartbeats 1000000
namespace Go.Proofs.YtnpeomhpbakgnaaGreat
open Go.Eng
theorem h_spec_l09Join : Ctr.holds E 226 (.reads [aPiece, aPiece] [aPiece] (fun ((a : DPiece), (b : DPiece), _) => PB a ∧ PB b ∧ b.pos ≤ a.pos + a.text.length) fun ((a : DPiece), (b : DPiece), _) => (mMerge a b, ())) := by
  refine fn_ok prgOk gnil Tryz.func226 rfl rfl rfl rfl ?_
  rintro ty ⟨(a : DPiece), (b : DPiece), _⟩ (hp : PB a ∧ PB b ∧ b.pos ≤ a.pos + a.text.length)
  obtain ⟨⟨a1, a2, a3⟩, ⟨b1, b2, b3⟩, h4⟩ := hp
  refine ⟨[], ?_⟩
  by_cases hok : b.pos < a.pos
  · obtain ⟨n, hn⟩ : ∃ n : Nat, a.pos - b.pos = (n : Int) := ⟨(a.pos - b.pos).toNat, by omega⟩
    have hM : mMerge a b = ⟨b.pos, b.text.take n ++ a.text ++ b.text.drop (n + a.text.length)⟩ := by unfold mMerge; rw [if_pos hok, hn, Int.toNat_natCast]
    have hn2 : a.pos = b.pos + n := by omega
    have hT1 : b.text.length ≤ n → b.text.take n = b.text := fun h => List.take_of_length_le h
    have hD1 : b.text.length ≤ n + a.text.length → b.text.drop (n + a.text.length) = [] := fun h => List.drop_eq_nil_iff.2 h
    have hX1 : (n : Int) < b.text.length → min n b.text.length = n := fun h => by omega
    have hX2 : ((n : Int) + (a.text.length : Int)).toNat = n + a.text.length := by omega
    have hX3 : (b.pos + ((n + a.text.length : Nat) : Int) - b.pos).toNat = n + a.text.length := by omega
    have hX4 : (b.pos + ((b.text.length + a.text.length : Nat) : Int) - b.pos).toNat = b.text.length + a.text.length := by omega
    repeat' ((conv => whnf); first | refine toOb2 ?_ | refine And.intro (fun _ => ?_) (fun _ => ?_) | refine And.intro ?_ ?_ | refine toEx2 ?_ | intro _)
    all_goals first | refine Ob2.mk ?_ | (show drawOk _ _ _ = true; exact rfl)
    all_goals (try simp only [allP, side, Ctr.reads, etas]); all_goals repeat' (first | exact sp1 | refine And.intro ?_ ?_)
    all_goals (try simp only [hn, hM, Int.toNat_natCast, List.append_nil, Ctr.reads, etas] at *)
    all_goals (try simp only [nbls] at *)
    all_goals (try simp only [decide_eq_true_eq, decide_eq_false_iff_not] at *)
    all_goals (try simp (disch := omega) only [w64_id] at *)
    all_goals (try simp (disch := omega) only [w64_id] at *)
    all_goals (try simp (disch := omega) only [w64_id, List.length_append, List.length_take, List.length_drop, Int.toNat_natCast] at *)
    all_goals (try split)
    all_goals (try simp (disch := omega) only [w64_id, List.length_append, List.length_take, List.length_drop, Int.toNat_natCast] at *)
    all_goals first | done | with_reducible assumption | with_reducible rfl | omega | grind []
  · have hM : mMerge a b = ⟨a.pos, a.text ++ b.text.drop (a.pos + a.text.length - b.pos).toNat⟩ := by unfold mMerge; rw [if_neg hok]
    have hD2 : b.pos + b.text.length ≤ a.pos + a.text.length → b.text.drop (a.pos + a.text.length - b.pos).toNat = [] := fun h => List.drop_eq_nil_iff.2 (by omega)
    have hD3 : b.pos + b.text.length ≤ a.pos + a.text.length → (⟨a.pos, a.text ++ b.text.drop (a.pos + a.text.length - b.pos).toNat⟩ : DPiece) = a := fun h => by rw [hD2 h, List.append_nil]
    have hX5 : ((b.text.length : Int) - (b.pos - a.pos + b.text.length - a.text.length)).toNat = (a.pos + a.text.length - b.pos).toNat := by omega
    repeat' ((conv => whnf); first | refine toOb2 ?_ | refine And.intro (fun _ => ?_) (fun _ => ?_) | refine And.intro ?_ ?_ | refine toEx2 ?_ | intro _)
    all_goals first | refine Ob2.mk ?_ | (show drawOk _ _ _ = true; exact rfl)
    all_goals (try simp only [allP, side, Ctr.reads, etas]); all_goals repeat' (first | exact sp1 | refine And.intro ?_ ?_)
    all_goals (try simp only [hM, List.append_nil, Ctr.reads, etas] at *)
    all_goals (try simp only [nbls] at *)
    all_goals (try simp only [decide_eq_true_eq, decide_eq_false_iff_not] at *)
    all_goals (try simp (disch := omega) only [w64_id] at *)
    all_goals (try simp (disch := omega) only [w64_id] at *)
    all_goals (try simp (disch := omega) only [w64_id, List.length_append, List.length_take, List.length_drop, Int.toNat_natCast] at *)
    all_goals first | done | with_reducible assumption | with_reducible rfl | omega | grind []
theorem h_spec_PutPiece : Ctr.holds E 200 (.reads [aPieces, aInt, aStr] [aPieces] (fun ((p : DPieces), (pos : Int), (text : List UInt8), _) => p.S) fun ((p : DPieces), (pos : Int), (text : List UInt8), _) => (mPutPiece p pos text, ())) := by
  refine fn_ok prgOk (gcons h_spec_l09Copy (gcons h_spec_PiecesOk (gcons h_spec_l01In (gcons h_spec_NextOf (gcons h_spec_l09Join gnil))))) Tryz.func200 rfl rfl rfl rfl ?_
  rintro ty ⟨(p : DPieces), (pos : Int), (text : List UInt8), _⟩ (hp : p.S)
  obtain ⟨hs1, hs2, hs3⟩ := id hp
  have hnx := fun h : mPiecesOk p = true => next_id h hs1
  refine ⟨[(13, { X := Nat × List DPiece × DPiece × Bool, inv := fun z => z.1 ≤ p.list.length ∧ ppF (p.list.drop z.1) z.2.1 z.2.2.1 z.2.2.2 = ppF p.list [] (ppX p pos text) false ∧ (0 ≤ z.2.2.1.pos ∧ z.2.2.1.pos ≤ 2073741824) ∧ z.2.2.1.text.length ≤ 200 + z.1 * 1073741824 ∧ z.2.1.length ≤ 2 * z.1 ∧ TB z.1 z.2.1 ∧ (z.2.2.2 = true → 0 < z.2.1.length), mu := fun z => p.list.length - z.1, vk := [12, 11, 56, 57], ov := fun z => [.a (.c (.leaf (.int (z.1 : Int)))), .a (.c (.leaf (.bool z.2.2.2))), .any, .any], bk := [10, 8], ob := fun z => [[.leaf (.int p.read), .leaf (.str p.ready), .row 3584], [.leaf (.int z.2.2.1.pos), .leaf (.str z.2.2.1.text)]], rk := [3584], orr := fun z => [⟨.piece, z.2.1, true, none⟩] })], ?_⟩
  have hN : mIn pos 0 1000000000 = mNum pos := rfl
  cases h1 : mPiecesOk p
  · have hM : mPutPiece p pos text = p := by unfold mPutPiece; rw [if_neg (by rw [h1]; simp)]
    repeat' ((conv => whnf); first | refine toOb2 ?_ | (refine fun y hy => ?_; (try simp only [Ctr.reads, Ctr.parts, h1, hN, hM, spps, reduceCtorEq, ETy.frm, if_true, if_false, implies_true, nbls, etas] at hy); subst hy) | (refine And.intro (fun h => ?_) (fun h => ?_) <;> (try simp only [h1, hN, hM, spps, reduceCtorEq, ETy.frm, if_true, if_false, implies_true, nbls, etas] at h)) | refine And.intro (toOb2 ?_) ?_ | refine And.intro (?_ : drawOk _ _ _ = true) ?_ | (refine And.intro ⟨?_, ?_⟩ ?_; fail) | intro _)
    (all_goals first | (refine Ob2.mk ?_; (try simp only [allP, side, Ctr.reads, Ctr.parts, h1, hN, hM, spps, reduceCtorEq, ETy.frm, if_true, if_false, implies_true, nbls, etas] at *); first | done | trivial | assumption | omega | ((repeat' (first | assumption | refine And.intro ?_ ?_ | omega | intro _)); done) | grind []) | (show drawOk _ _ _ = true; exact rfl) | skip)
    
  cases h2 : mNum pos
  · have hM : mPutPiece p pos text = p := by unfold mPutPiece; rw [if_neg (by rw [h2]; simp)]
    repeat' ((conv => whnf); first | refine toOb2 ?_ | (refine fun y hy => ?_; (try simp only [Ctr.reads, Ctr.parts, h1, h2, hN, hM, spps, reduceCtorEq, ETy.frm, if_true, if_false, implies_true, nbls, etas] at hy); subst hy) | (refine And.intro (fun h => ?_) (fun h => ?_) <;> (try simp only [h1, h2, hN, hM, spps, reduceCtorEq, ETy.frm, if_true, if_false, implies_true, nbls, etas] at h)) | refine And.intro (toOb2 ?_) ?_ | refine And.intro (?_ : drawOk _ _ _ = true) ?_ | (refine And.intro ⟨?_, ?_⟩ ?_; fail) | intro _)
    (all_goals first | (refine Ob2.mk ?_; (try simp only [allP, side, Ctr.reads, Ctr.parts, h1, h2, hN, hM, spps, reduceCtorEq, ETy.frm, if_true, if_false, implies_true, nbls, etas] at *); first | done | trivial | assumption | omega | ((repeat' (first | assumption | refine And.intro ?_ ?_ | omega | intro _)); done) | grind []) | (show drawOk _ _ _ = true; exact rfl) | skip)
    
  cases h3 : mIn text.length 1 200
  · have hM : mPutPiece p pos text = p := by unfold mPutPiece; rw [if_neg (by rw [h3]; simp)]
    repeat' ((conv => whnf); first | refine toOb2 ?_ | (refine fun y hy => ?_; (try simp only [Ctr.reads, Ctr.parts, h1, h2, h3, hN, hM, spps, reduceCtorEq, ETy.frm, if_true, if_false, implies_true, nbls, etas] at hy); subst hy) | (refine And.intro (fun h => ?_) (fun h => ?_) <;> (try simp only [h1, h2, h3, hN, hM, spps, reduceCtorEq, ETy.frm, if_true, if_false, implies_true, nbls, etas] at h)) | refine And.intro (toOb2 ?_) ?_ | refine And.intro (?_ : drawOk _ _ _ = true) ?_ | (refine And.intro ⟨?_, ?_⟩ ?_; fail) | intro _)
    (all_goals first | (refine Ob2.mk ?_; (try simp only [allP, side, Ctr.reads, Ctr.parts, h1, h2, h3, hN, hM, spps, reduceCtorEq, ETy.frm, if_true, if_false, implies_true, nbls, etas] at *); first | done | trivial | assumption | omega | ((repeat' (first | assumption | refine And.intro ?_ ?_ | omega | intro _)); done) | grind []) | (show drawOk _ _ _ = true; exact rfl) | skip)
    
  obtain ⟨hn0, hn1, hn2⟩ := hnx h1
  have hq := mNum_iff.1 h2
  have ht := mIn_iff.1 h3
  have hwd : w64 (mNextOf p - pos) = mNextOf p - pos := w64_id (by omega) (by omega)
  have hwa : w64 (pos + (mNextOf p - pos)) = mNextOf p := by rw [w64_id (by omega) (by omega)]; omega
  by_cases hC : (text.length : Int) ≤ mNextOf p - pos
  · have hM : mPutPiece p pos text = p := by unfold mPutPiece; rw [if_neg (fun h => absurd h.2.2.2 (by omega))]
    repeat' ((conv => whnf); first | refine toOb2 ?_ | (refine fun y hy => ?_; (try simp only [Ctr.reads, Ctr.parts, h1, h2, h3, hN, hwd, hwa, ge_iff_le, gt_iff_lt, hC, spps, reduceCtorEq, ETy.frm, if_true, if_false, implies_true, nbls, etas] at hy); subst hy) | (refine And.intro (fun h => ?_) (fun h => ?_) <;> (try simp only [h1, h2, h3, hN, hwd, hwa, ge_iff_le, gt_iff_lt, hC, spps, reduceCtorEq, ETy.frm, if_true, if_false, implies_true, nbls, etas] at h)) | refine And.intro (toOb2 ?_) ?_ | refine And.intro (?_ : drawOk _ _ _ = true) ?_ | (refine And.intro ⟨?_, ?_⟩ ?_; fail) | intro _)
    (all_goals first | (refine Ob2.mk ?_; (try simp only [allP, side, Ctr.reads, Ctr.parts, h1, h2, h3, hN, hwd, hwa, ge_iff_le, gt_iff_lt, hC, hM, spps, reduceCtorEq, ETy.frm, if_true, if_false, implies_true, nbls, etas] at *); first | done | trivial | assumption | omega | ((repeat' (first | assumption | refine And.intro ?_ ?_ | omega | intro _)); done) | grind []) | (show drawOk _ _ _ = true; exact rfl) | skip)
    
  by_cases hB : 0 < mNextOf p - pos
  · have hsl : 0 ≤ mNextOf p - pos ∧ mNextOf p - pos ≤ (text.length : Int) := by omega
    have hok : mPiecesOk p = true ∧ mNum pos = true ∧ mIn text.length 1 200 = true ∧ mNextOf p - pos < (text.length : Int) := ⟨h1, h2, h3, by omega⟩
    have hxb := ppX_bd (text := text) (pos := pos) hok.1 hp (mNum_iff.1 hok.2.1) (by have := (mIn_iff.1 hok.2.2.1).2; omega)
    have hx0 : ppX p pos text = ⟨mNextOf p, text.drop (mNextOf p - pos).toNat⟩ := by unfold ppX; rw [if_pos (by omega)]
    repeat' ((conv => whnf); first | refine toOb2 ?_ | (refine fun y hy => ?_; (try simp only [Ctr.reads, Ctr.parts, h1, h2, h3, hN, hwd, hwa, ge_iff_le, gt_iff_lt, hC, hB, spps, reduceCtorEq, ETy.frm, if_true, if_false, implies_true, nbls, etas] at hy); subst hy) | (refine And.intro (fun h => ?_) (fun h => ?_) <;> (try simp only [h1, h2, h3, hN, hwd, hwa, ge_iff_le, gt_iff_lt, hC, hB, spps, reduceCtorEq, ETy.frm, if_true, if_false, implies_true, nbls, etas] at h)) | refine And.intro (toOb2 ?_) ?_ | refine And.intro (?_ : drawOk _ _ _ = true) ?_ | (refine And.intro ⟨?_, ?_⟩ ?_; fail) | intro _)
    (all_goals first | (refine Ob2.mk ?_; (try simp only [allP, side, Ctr.reads, Ctr.parts, h1, h2, h3, hN, hwd, hwa, ge_iff_le, gt_iff_lt, hC, hB, spps, reduceCtorEq, ETy.frm, if_true, if_false, implies_true, nbls, etas] at *); first | done | trivial | assumption | omega | ((repeat' (first | assumption | refine And.intro ?_ ?_ | omega | intro _)); done) | grind []) | (show drawOk _ _ _ = true; exact rfl) | skip)
    conv => whnf
    refine And.intro ⟨((0, [], ppX p pos text, false) : Nat × List DPiece × DPiece × Bool), Ob.mk ?_, ?_⟩ (fun (z : Nat × List DPiece × DPiece × Bool) hi => ?_)
    · exact And.intro (Nat.zero_le _) (And.intro rfl (And.intro ⟨hxb.1, hxb.2.1⟩ (And.intro (by have := hxb.2.2; simp only []; omega) (And.intro (Nat.le_refl _) (And.intro (TB_nil _) (fun h => by cases h))))))
    · conv => whnf
      refine Ob.mk ?_
      all_goals (try simp only [allP, side, Ctr.reads, etas]); all_goals repeat' (first | exact sp1 | refine And.intro ?_ ?_)
      all_goals first | done | rfl | exact trivial | (rw [hx0]; done) | (simp only [hx0]; done) | grind
    obtain ⟨i, out, x, laid⟩ := z
    obtain ⟨hi, hm, ⟨hxp, hxp2⟩, hxl, hol, hTB, hld⟩ := hi
    have hi : i ≤ p.list.length := hi
    have hm : ppF (p.list.drop i) out x laid = ppF p.list [] (ppX p pos text) false := hm
    have hxp : 0 ≤ x.pos := hxp
    have hxp2 : x.pos ≤ 2073741824 := hxp2
    have hxl : x.text.length ≤ 200 + i * 1073741824 := hxl
    have hol : out.length ≤ 2 * i := hol
    have hTB : TB i out := hTB
    have hld : laid = true → 0 < out.length := hld
    clear hx0 hxb
    rcases Nat.lt_or_ge i p.list.length with hlt | hge
    · obtain ⟨y, hx, hxi, hd⟩ := at_step p.list i (ETy.zero .piece) hlt
      rw [hd, ppF] at hm
      have hw := w64_succ hlt hs2
      have hym := List.mem_of_getElem? hxi
      have hyp := pieces_pos hok.1 hp y hym
      have hyl := hs3 y hym
      have hmb := mMerge_bd (a := y) (b := x) ⟨by omega, by omega, by omega⟩ ⟨by omega, by omega, by omega⟩
      have hPy : PB y := ⟨by omega, by omega, by omega⟩
      have hPx : PB x := ⟨by omega, by omega, by omega⟩
      have hwy : w64 (y.pos + (y.text.length : Int)) = y.pos + y.text.length := w64_id (by omega) (by omega)
      have hT3 : TB (i + 1) out := TB_mono hTB (by omega)
      have hT1 : TB (i + 1) (out ++ [y]) := TB_app hTB (by omega) (by omega)
      have hT2 : TB (i + 1) (out ++ [x] ++ [y]) := TB_app (TB_app hTB hxl (Nat.le_refl _)) (by omega) (by omega)
      clear hd hxi hym
      repeat' ((conv => whnf); first | refine toOb2 ?_ | refine And.intro (fun _ => ?_) (fun _ => ?_) | refine And.intro ?_ ?_ | refine toEx2 ?_ | refine toY ?_ | intro _)
      all_goals try (exfalso; exact Nat.lt_irrefl _ (Nat.lt_of_lt_of_le hlt (ge_of_dec (by assumption))))
      all_goals first | refine Ob2.mk ?_ | (show drawOk _ _ _ = true; exact rfl) | refine Ex2.of ((i + 1, (if w64 (y.pos + (y.text.length : Int)) < x.pos then out ++ [y] else if w64 (x.pos + (x.text.length : Int)) < y.pos then (if laid = true then out ++ [y] else out ++ [x] ++ [y]) else out), (if w64 (y.pos + (y.text.length : Int)) < x.pos then x else if w64 (x.pos + (x.text.length : Int)) < y.pos then x else mMerge y x), (if w64 (y.pos + (y.text.length : Int)) < x.pos then laid else if w64 (x.pos + (x.text.length : Int)) < y.pos then true else laid)) : Nat × List DPiece × DPiece × Bool) ?_ ?_ | skip
      all_goals try ((conv => whnf); refine Ob.mk ?_)
      all_goals (try simp only [allP, side, Ctr.reads, etas]); all_goals repeat' (first | exact sp1 | refine And.intro ?_ ?_)
      all_goals (try simp only [hx, ETy.frm, Ctr.reads, etas] at *)
      all_goals (try simp only [nbls] at *)
      all_goals (try simp only [decide_eq_true_eq, decide_eq_false_iff_not] at *)
      all_goals first | done | omega | grind
    · have hl : i = p.list.length := by omega
      subst hl
      rw [List.drop_length, ppF] at hm
      have hps := ppF_pos [] out x laid hld
      have hlen20 := (piecesOk_bd hok.1).2
      have hG1 := TB_getD hTB
      have hG2 : ((out ++ [x]).getD 0 (ETy.zero .piece)).text.length ≤ 200 + p.list.length * 1073741824 := TB_getD (TB_app (n := p.list.length) (m := p.list.length) hTB hxl (Nat.le_refl _))
      have hE : ppEnd (ppF p.list [] (ppX p pos text) false) = if laid = true then out else out ++ [x] := by rw [← hm]; rfl
      have hPP : mPutPiece p pos text = if mPiecesOk (ppOut p pos text) = true then ppOut p pos text else p := by unfold mPutPiece; rw [if_pos hok]
      have hO : ppOut p pos text = if ((if laid = true then out else out ++ [x]).getD 0 (ETy.zero .piece)).pos = mNextOf p then
          ⟨p.read, p.ready ++ ((if laid = true then out else out ++ [x]).getD 0 (ETy.zero .piece)).text, (if laid = true then out else out ++ [x]).drop 1⟩ else ⟨p.read, p.ready, if laid = true then out else out ++ [x]⟩ := by unfold ppOut; rw [hE]
      have hnp : mNextOf ⟨p.read, p.ready, if laid = true then out else out ++ [x]⟩ = mNextOf p := rfl
      have hnp2 : ∀ l, mNextOf ⟨p.read, p.ready, l⟩ = mNextOf p := fun _ => rfl
      clear hm hE
      repeat' ((conv => whnf); first | refine toOb2 ?_ | refine And.intro (fun _ => ?_) (fun _ => ?_) | refine And.intro ?_ ?_ | refine toEx2 ?_ | refine toY ?_ | intro _)
      all_goals try (exfalso; exact Nat.lt_irrefl _ (Nat.lt_of_lt_of_le (lt_of_dec (by assumption)) hge))
      all_goals first | refine Ob2.mk ?_ | (show drawOk _ _ _ = true; exact rfl) | skip
      all_goals (try simp only [allP, side, Ctr.reads, Ctr.parts, hPP, hO, hnp2, show (0 : Int).toNat = 0 from rfl, show (1 : Int).toNat = 1 from rfl, etas] at *)
      all_goals (try simp only [decide_eq_true_eq, decide_eq_false_iff_not] at *)
      all_goals first | done | trivial | assumption | omega | grind
  · have hok : mPiecesOk p = true ∧ mNum pos = true ∧ mIn text.length 1 200 = true ∧ mNextOf p - pos < (text.length : Int) := ⟨h1, h2, h3, by omega⟩
    have hxb := ppX_bd (text := text) (pos := pos) hok.1 hp (mNum_iff.1 hok.2.1) (by have := (mIn_iff.1 hok.2.2.1).2; omega)
    have hx0 : ppX p pos text = ⟨pos, text⟩ := by unfold ppX; rw [if_neg (by omega)]
    repeat' ((conv => whnf); first | refine toOb2 ?_ | (refine fun y hy => ?_; (try simp only [Ctr.reads, Ctr.parts, h1, h2, h3, hN, hwd, hwa, ge_iff_le, gt_iff_lt, hC, hB, spps, reduceCtorEq, ETy.frm, if_true, if_false, implies_true, nbls, etas] at hy); subst hy) | (refine And.intro (fun h => ?_) (fun h => ?_) <;> (try simp only [h1, h2, h3, hN, hwd, hwa, ge_iff_le, gt_iff_lt, hC, hB, spps, reduceCtorEq, ETy.frm, if_true, if_false, implies_true, nbls, etas] at h)) | refine And.intro (toOb2 ?_) ?_ | refine And.intro (?_ : drawOk _ _ _ = true) ?_ | (refine And.intro ⟨?_, ?_⟩ ?_; fail) | intro _)
    (all_goals first | (refine Ob2.mk ?_; (try simp only [allP, side, Ctr.reads, Ctr.parts, h1, h2, h3, hN, hwd, hwa, ge_iff_le, gt_iff_lt, hC, hB, spps, reduceCtorEq, ETy.frm, if_true, if_false, implies_true, nbls, etas] at *); first | done | trivial | assumption | omega | ((repeat' (first | assumption | refine And.intro ?_ ?_ | omega | intro _)); done) | grind []) | (show drawOk _ _ _ = true; exact rfl) | skip)
    conv => whnf
    refine And.intro ⟨((0, [], ppX p pos text, false) : Nat × List DPiece × DPiece × Bool), Ob.mk ?_, ?_⟩ (fun (z : Nat × List DPiece × DPiece × Bool) hi => ?_)
    · exact And.intro (Nat.zero_le _) (And.intro rfl (And.intro ⟨hxb.1, hxb.2.1⟩ (And.intro (by have := hxb.2.2; simp only []; omega) (And.intro (Nat.le_refl _) (And.intro (TB_nil _) (fun h => by cases h))))))
    · conv => whnf
      refine Ob.mk ?_
      all_goals (try simp only [allP, side, Ctr.reads, etas]); all_goals repeat' (first | exact sp1 | refine And.intro ?_ ?_)
      all_goals first | done | rfl | exact trivial | (rw [hx0]; done) | (simp only [hx0]; done) | grind
    obtain ⟨i, out, x, laid⟩ := z
    obtain ⟨hi, hm, ⟨hxp, hxp2⟩, hxl, hol, hTB, hld⟩ := hi
    have hi : i ≤ p.list.length := hi
    have hm : ppF (p.list.drop i) out x laid = ppF p.list [] (ppX p pos text) false := hm
    have hxp : 0 ≤ x.pos := hxp
    have hxp2 : x.pos ≤ 2073741824 := hxp2
    have hxl : x.text.length ≤ 200 + i * 1073741824 := hxl
    have hol : out.length ≤ 2 * i := hol
    have hTB : TB i out := hTB
    have hld : laid = true → 0 < out.length := hld
    clear hx0 hxb
    rcases Nat.lt_or_ge i p.list.length with hlt | hge
    · obtain ⟨y, hx, hxi, hd⟩ := at_step p.list i (ETy.zero .piece) hlt
      rw [hd, ppF] at hm
      have hw := w64_succ hlt hs2
      have hym := List.mem_of_getElem? hxi
      have hyp := pieces_pos hok.1 hp y hym
      have hyl := hs3 y hym
      have hmb := mMerge_bd (a := y) (b := x) ⟨by omega, by omega, by omega⟩ ⟨by omega, by omega, by omega⟩
      have hPy : PB y := ⟨by omega, by omega, by omega⟩
      have hPx : PB x := ⟨by omega, by omega, by omega⟩
      have hwy : w64 (y.pos + (y.text.length : Int)) = y.pos + y.text.length := w64_id (by omega) (by omega)
      have hT3 : TB (i + 1) out := TB_mono hTB (by omega)
      have hT1 : TB (i + 1) (out ++ [y]) := TB_app hTB (by omega) (by omega)
      have hT2 : TB (i + 1) (out ++ [x] ++ [y]) := TB_app (TB_app hTB hxl (Nat.le_refl _)) (by omega) (by omega)
      clear hd hxi hym
      repeat' ((conv => whnf); first | refine toOb2 ?_ | refine And.intro (fun _ => ?_) (fun _ => ?_) | refine And.intro ?_ ?_ | refine toEx2 ?_ | refine toY ?_ | intro _)
      all_goals try (exfalso; exact Nat.lt_irrefl _ (Nat.lt_of_lt_of_le hlt (ge_of_dec (by assumption))))
      all_goals first | refine Ob2.mk ?_ | (show drawOk _ _ _ = true; exact rfl) | refine Ex2.of ((i + 1, (if w64 (y.pos + (y.text.length : Int)) < x.pos then out ++ [y] else if w64 (x.pos + (x.text.length : Int)) < y.pos then (if laid = true then out ++ [y] else out ++ [x] ++ [y]) else out), (if w64 (y.pos + (y.text.length : Int)) < x.pos then x else if w64 (x.pos + (x.text.length : Int)) < y.pos then x else mMerge y x), (if w64 (y.pos + (y.text.length : Int)) < x.pos then laid else if w64 (x.pos + (x.text.length : Int)) < y.pos then true else laid)) : Nat × List DPiece × DPiece × Bool) ?_ ?_ | skip
      all_goals try ((conv => whnf); refine Ob.mk ?_)
      all_goals (try simp only [allP, side, Ctr.reads, etas]); all_goals repeat' (first | exact sp1 | refine And.intro ?_ ?_)
      all_goals (try simp only [hx, ETy.frm, Ctr.reads, etas] at *)
      all_goals (try simp only [nbls] at *)
      all_goals (try simp only [decide_eq_true_eq, decide_eq_false_iff_not] at *)
      all_goals first | done | omega | grind
    · have hl : i = p.list.length := by omega
      subst hl
      rw [List.drop_length, ppF] at hm
      have hps := ppF_pos [] out x laid hld
      have hlen20 := (piecesOk_bd hok.1).2
      have hG1 := TB_getD hTB
      have hG2 : ((out ++ [x]).getD 0 (ETy.zero .piece)).text.length ≤ 200 + p.list.length * 1073741824 := TB_getD (TB_app (n := p.list.length) (m := p.list.length) hTB hxl (Nat.le_refl _))
      have hE : ppEnd (ppF p.list [] (ppX p pos text) false) = if laid = true then out else out ++ [x] := by rw [← hm]; rfl
      have hPP : mPutPiece p pos text = if mPiecesOk (ppOut p pos text) = true then ppOut p pos text else p := by unfold mPutPiece; rw [if_pos hok]
      have hO : ppOut p pos text = if ((if laid = true then out else out ++ [x]).getD 0 (ETy.zero .piece)).pos = mNextOf p then
          ⟨p.read, p.ready ++ ((if laid = true then out else out ++ [x]).getD 0 (ETy.zero .piece)).text, (if laid = true then out else out ++ [x]).drop 1⟩ else ⟨p.read, p.ready, if laid = true then out else out ++ [x]⟩ := by unfold ppOut; rw [hE]
      have hnp : mNextOf ⟨p.read, p.ready, if laid = true then out else out ++ [x]⟩ = mNextOf p := rfl
      have hnp2 : ∀ l, mNextOf ⟨p.read, p.ready, l⟩ = mNextOf p := fun _ => rfl
      clear hm hE
      repeat' ((conv => whnf); first | refine toOb2 ?_ | refine And.intro (fun _ => ?_) (fun _ => ?_) | refine And.intro ?_ ?_ | refine toEx2 ?_ | refine toY ?_ | intro _)
      all_goals try (exfalso; exact Nat.lt_irrefl _ (Nat.lt_of_lt_of_le (lt_of_dec (by assumption)) hge))
      all_goals first | refine Ob2.mk ?_ | (show drawOk _ _ _ = true; exact rfl) | skip
      all_goals (try simp only [allP, side, Ctr.reads, Ctr.parts, hPP, hO, hnp2, show (0 : Int).toNat = 0 from rfl, show (1 : Int).toNat = 1 from rfl, etas] at *)
      all_goals (try simp only [decide_eq_true_eq, decide_eq_false_iff_not] at *)
      all_goals first | done | trivial | assumption | omega | grind
theorem h_spec_HearData : Ctr.holds E 112 (.reads [aEnd, aLetter] [aEnd, aRow .letter] (fun ((e : DEnd), (x : DLetter), _) => e.B ∧ e.inn.S) fun ((e : DEnd), (x : DLetter), _) => ((mHearData e x).1, (mHearData e x).2, ())) := by
  refine fn_ok prgOk (gcons h_spec_l17Copy (gcons h_spec_l20On (gcons h_spec_PutPiece (gcons h_spec_NextOf (gcons h_spec_RoadOf (gcons h_spec_Between gnil)))))) Tryz.func112 rfl rfl rfl rfl ?_
  rintro ty ⟨(e : DEnd), (x : DLetter), _⟩ (hp : e.B ∧ e.inn.S)
  obtain ⟨hp, hpS⟩ := hp
  obtain ⟨hb1, hb2, hb3, hb4, hb5, hb6, hb7⟩ := id hp
  have hgb := mSignedOn_bd e x
  have hpl := mPutPiece_len (p := e.inn) (pos := x.pos) (text := x.text) hb5
  refine ⟨[], ?_⟩
  repeat' ((conv => whnf); first | refine toOb2 ?_ | refine And.intro (fun _ => ?_) (fun _ => ?_) | refine And.intro ?_ ?_ | refine toEx2 ?_ | refine toY ?_ | intro _)
  all_goals first | refine Ob2.mk ?_ | (show drawOk _ _ _ = true; exact rfl)
  all_goals (try simp only [allP, side, Ctr.reads, Ctr.parts, etas]); all_goals repeat' (first | exact sp1 | refine And.intro ?_ ?_)
  all_goals (try simp only [ETy.frm, dTag_beq, List.set_set, List.length_set, List.nil_append, Ctr.reads, Ctr.parts, etas] at *)
  all_goals (try simp only [nbls] at *)
  all_goals first | done | with_reducible assumption | with_reducible rfl | omega | grind [mHearData, mL20On, ltr, mBetween, setSub, gSub]
theorem h_spec_Hear : Ctr.holds E 21 (.reads [aEnd, aLetter] [aEnd, aRow .letter] (fun ((e : DEnd), (x : DLetter), _) => e.B ∧ e.inn.S) fun ((e : DEnd), (x : DLetter), _) => ((mHear e x).1, (mHear e x).2, ())) := by
  refine fn_ok prgOk (gcons h_spec_EndOk (gcons h_spec_LetterOk (gcons h_spec_OwnsAddr (gcons h_spec_l17Copy (gcons h_spec_HearHello (gcons h_spec_HearBack (gcons h_spec_HearJoin (gcons h_spec_HearJoinBack (gcons h_spec_HearJoinDone (gcons h_spec_HearJoinAck (gcons h_spec_HearAddr (gcons h_spec_HearEcho (gcons h_spec_HearGone (gcons h_spec_HearData (gcons h_spec_HearCame (gcons h_spec_HearReset gnil)))))))))))))))) Tryz.func21 rfl rfl rfl rfl ?_
  rintro ty ⟨(e : DEnd), (x : DLetter), _⟩ (hp : e.B ∧ e.inn.S)
  obtain ⟨hp, hpS⟩ := hp
  obtain ⟨hb1, hb2, hb3, hb4, hb5, hb6, hb7⟩ := id hp
  refine ⟨[], ?_⟩
  repeat' ((conv => whnf); first | refine toOb2 ?_ | refine And.intro (fun _ => ?_) (fun _ => ?_) | refine And.intro ?_ ?_ | refine toEx2 ?_ | refine toY ?_ | intro _)
  all_goals first | refine Ob2.mk ?_ | (show drawOk _ _ _ = true; exact rfl)
  all_goals (try simp only [allP, side, Ctr.reads, Ctr.parts, etas]); all_goals repeat' (first | exact sp1 | refine And.intro ?_ ?_)
  all_goals (try simp only [ETy.frm, dTag_beq, List.set_set, List.length_set, List.nil_append, Ctr.reads, Ctr.parts, etas] at *)
  all_goals (try simp only [nbls] at *)
  all_goals first | done | with_reducible assumption | with_reducible rfl | omega | grind [mHear]
theorem h_impl_merged : Ctr.holds E 214 (.reads [aPiece, aPiece] [aPiece] (fun ((a : DPiece), (b : DPiece), _) => PB a ∧ PB b ∧ b.pos ≤ a.pos + a.text.length) fun ((a : DPiece), (b : DPiece), _) => (mMerge a b, ())) := by
  refine fn_ok prgOk gnil Tryz.func214 rfl rfl rfl rfl ?_
  rintro ty ⟨(a : DPiece), (b : DPiece), _⟩ (hp : PB a ∧ PB b ∧ b.pos ≤ a.pos + a.text.length)
  obtain ⟨⟨a1, a2, a3⟩, ⟨b1, b2, b3⟩, h4⟩ := hp
  refine ⟨[], ?_⟩
  by_cases hok : b.pos < a.pos
  · obtain ⟨n, hn⟩ : ∃ n : Nat, a.pos - b.pos = (n : Int) := ⟨(a.pos - b.pos).toNat, by omega⟩
    have hM : mMerge a b = ⟨b.pos, b.text.take n ++ a.text ++ b.text.drop (n + a.text.length)⟩ := by unfold mMerge; rw [if_pos hok, hn, Int.toNat_natCast]
    have hn2 : a.pos = b.pos + n := by omega
    have hT1 : b.text.length ≤ n → b.text.take n = b.text := fun h => List.take_of_length_le h
    have hD1 : b.text.length ≤ n + a.text.length → b.text.drop (n + a.text.length) = [] := fun h => List.drop_eq_nil_iff.2 h
    have hX1 : (n : Int) < b.text.length → min n b.text.length = n := fun h => by omega
    have hX2 : ((n : Int) + (a.text.length : Int)).toNat = n + a.text.length := by omega
    have hX3 : (b.pos + ((n + a.text.length : Nat) : Int) - b.pos).toNat = n + a.text.length := by omega
    have hX4 : (b.pos + ((b.text.length + a.text.length : Nat) : Int) - b.pos).toNat = b.text.length + a.text.length := by omega
    repeat' ((conv => whnf); first | refine toOb2 ?_ | refine And.intro (fun _ => ?_) (fun _ => ?_) | refine And.intro ?_ ?_ | refine toEx2 ?_ | intro _)
    all_goals first | refine Ob2.mk ?_ | (show drawOk _ _ _ = true; exact rfl)
    all_goals (try simp only [allP, side, Ctr.reads, etas]); all_goals repeat' (first | exact sp1 | refine And.intro ?_ ?_)
    all_goals (try simp only [hn, hM, Int.toNat_natCast, List.append_nil, Ctr.reads, etas] at *)
    all_goals (try simp only [nbls] at *)
    all_goals (try simp only [decide_eq_true_eq, decide_eq_false_iff_not] at *)
    all_goals (try simp (disch := omega) only [w64_id] at *)
    all_goals (try simp (disch := omega) only [w64_id] at *)
    all_goals (try simp (disch := omega) only [w64_id, List.length_append, List.length_take, List.length_drop, Int.toNat_natCast] at *)
    all_goals (try split)
    all_goals (try simp (disch := omega) only [w64_id, List.length_append, List.length_take, List.length_drop, Int.toNat_natCast] at *)
    all_goals first | done | with_reducible assumption | with_reducible rfl | omega | grind []
  · have hM : mMerge a b = ⟨a.pos, a.text ++ b.text.drop (a.pos + a.text.length - b.pos).toNat⟩ := by unfold mMerge; rw [if_neg hok]
    have hD2 : b.pos + b.text.length ≤ a.pos + a.text.length → b.text.drop (a.pos + a.text.length - b.pos).toNat = [] := fun h => List.drop_eq_nil_iff.2 (by omega)
    have hD3 : b.pos + b.text.length ≤ a.pos + a.text.length → (⟨a.pos, a.text ++ b.text.drop (a.pos + a.text.length - b.pos).toNat⟩ : DPiece) = a := fun h => by rw [hD2 h, List.append_nil]
    have hX5 : ((b.text.length : Int) - (b.pos - a.pos + b.text.length - a.text.length)).toNat = (a.pos + a.text.length - b.pos).toNat := by omega
    repeat' ((conv => whnf); first | refine toOb2 ?_ | refine And.intro (fun _ => ?_) (fun _ => ?_) | refine And.intro ?_ ?_ | refine toEx2 ?_ | intro _)
    all_goals first | refine Ob2.mk ?_ | (show drawOk _ _ _ = true; exact rfl)
    all_goals (try simp only [allP, side, Ctr.reads, etas]); all_goals repeat' (first | exact sp1 | refine And.intro ?_ ?_)
    all_goals (try simp only [hM, List.append_nil, Ctr.reads, etas] at *)
    all_goals (try simp only [nbls] at *)
    all_goals (try simp only [decide_eq_true_eq, decide_eq_false_iff_not] at *)
    all_goals (try simp (disch := omega) only [w64_id] at *)
    all_goals (try simp (disch := omega) only [w64_id] at *)
    all_goals (try simp (disch := omega) only [w64_id, List.length_append, List.length_take, List.length_drop, Int.toNat_natCast] at *)
    all_goals first | done | with_reducible assumption | with_reducible rfl | omega | grind []
theorem h_impl_PutPiece : Ctr.holds E 153 (.reads [aPieces, aInt, aStr] [aPieces] (fun ((p : DPieces), (pos : Int), (text : List UInt8), _) => p.S) fun ((p : DPieces), (pos : Int), (text : List UInt8), _) => (mPutPiece p pos text, ())) := by
  refine fn_ok prgOk (gcons h_impl_PiecesOk (gcons h_impl_isNumber (gcons h_impl_within (gcons h_impl_copyPieces (gcons h_impl_NextOf (gcons h_impl_merged gnil)))))) Tryz.func153 rfl rfl rfl rfl ?_
  rintro ty ⟨(p : DPieces), (pos : Int), (text : List UInt8), _⟩ (hp : p.S)
  obtain ⟨hs1, hs2, hs3⟩ := id hp
  have hnx := fun h : mPiecesOk p = true => next_id h hs1
  refine ⟨[(13, { X := Nat × List DPiece × DPiece × Bool, inv := fun z => z.1 ≤ p.list.length ∧ ppF (p.list.drop z.1) z.2.1 z.2.2.1 z.2.2.2 = ppF p.list [] (ppX p pos text) false ∧ (0 ≤ z.2.2.1.pos ∧ z.2.2.1.pos ≤ 2073741824) ∧ z.2.2.1.text.length ≤ 200 + z.1 * 1073741824 ∧ z.2.1.length ≤ 2 * z.1 ∧ TB z.1 z.2.1 ∧ (z.2.2.2 = true → 0 < z.2.1.length), mu := fun z => p.list.length - z.1, vk := [59, 10], ov := fun z => [.a (.c (.leaf (.int (z.1 : Int)))), .a (.c (.leaf (.bool z.2.2.2)))], bk := [7, 9], ob := fun z => [[.leaf (.int p.read), .leaf (.str p.ready), .row 200000], [.leaf (.int z.2.2.1.pos), .leaf (.str z.2.2.1.text)]], rk := [200000], orr := fun z => [⟨.piece, z.2.1, true, none⟩] })], ?_⟩
  cases h1 : mPiecesOk p
  · have hM : mPutPiece p pos text = p := by unfold mPutPiece; rw [if_neg (by rw [h1]; simp)]
    repeat' ((conv => whnf); first | refine toOb2 ?_ | (refine fun y hy => ?_; (try simp only [Ctr.reads, Ctr.parts, h1, hM, spps, reduceCtorEq, ETy.frm, if_true, if_false, implies_true, nbls, etas] at hy); subst hy) | (refine And.intro (fun h => ?_) (fun h => ?_) <;> (try simp only [h1, hM, spps, reduceCtorEq, ETy.frm, if_true, if_false, implies_true, nbls, etas] at h)) | refine And.intro (toOb2 ?_) ?_ | refine And.intro (?_ : drawOk _ _ _ = true) ?_ | (refine And.intro ⟨?_, ?_⟩ ?_; fail) | intro _)
    (all_goals first | (refine Ob2.mk ?_; (try simp only [allP, side, Ctr.reads, Ctr.parts, h1, hM, spps, reduceCtorEq, ETy.frm, if_true, if_false, implies_true, nbls, etas] at *); first | done | trivial | assumption | omega | ((repeat' (first | assumption | refine And.intro ?_ ?_ | omega | intro _)); done) | grind []) | (show drawOk _ _ _ = true; exact rfl) | skip)
    
  cases h2 : mNum pos
  · have hM : mPutPiece p pos text = p := by unfold mPutPiece; rw [if_neg (by rw [h2]; simp)]
    repeat' ((conv => whnf); first | refine toOb2 ?_ | (refine fun y hy => ?_; (try simp only [Ctr.reads, Ctr.parts, h1, h2, hM, spps, reduceCtorEq, ETy.frm, if_true, if_false, implies_true, nbls, etas] at hy); subst hy) | (refine And.intro (fun h => ?_) (fun h => ?_) <;> (try simp only [h1, h2, hM, spps, reduceCtorEq, ETy.frm, if_true, if_false, implies_true, nbls, etas] at h)) | refine And.intro (toOb2 ?_) ?_ | refine And.intro (?_ : drawOk _ _ _ = true) ?_ | (refine And.intro ⟨?_, ?_⟩ ?_; fail) | intro _)
    (all_goals first | (refine Ob2.mk ?_; (try simp only [allP, side, Ctr.reads, Ctr.parts, h1, h2, hM, spps, reduceCtorEq, ETy.frm, if_true, if_false, implies_true, nbls, etas] at *); first | done | trivial | assumption | omega | ((repeat' (first | assumption | refine And.intro ?_ ?_ | omega | intro _)); done) | grind []) | (show drawOk _ _ _ = true; exact rfl) | skip)
    
  cases h3 : mIn text.length 1 200
  · have hM : mPutPiece p pos text = p := by unfold mPutPiece; rw [if_neg (by rw [h3]; simp)]
    repeat' ((conv => whnf); first | refine toOb2 ?_ | (refine fun y hy => ?_; (try simp only [Ctr.reads, Ctr.parts, h1, h2, h3, hM, spps, reduceCtorEq, ETy.frm, if_true, if_false, implies_true, nbls, etas] at hy); subst hy) | (refine And.intro (fun h => ?_) (fun h => ?_) <;> (try simp only [h1, h2, h3, hM, spps, reduceCtorEq, ETy.frm, if_true, if_false, implies_true, nbls, etas] at h)) | refine And.intro (toOb2 ?_) ?_ | refine And.intro (?_ : drawOk _ _ _ = true) ?_ | (refine And.intro ⟨?_, ?_⟩ ?_; fail) | intro _)
    (all_goals first | (refine Ob2.mk ?_; (try simp only [allP, side, Ctr.reads, Ctr.parts, h1, h2, h3, hM, spps, reduceCtorEq, ETy.frm, if_true, if_false, implies_true, nbls, etas] at *); first | done | trivial | assumption | omega | ((repeat' (first | assumption | refine And.intro ?_ ?_ | omega | intro _)); done) | grind []) | (show drawOk _ _ _ = true; exact rfl) | skip)
    
  obtain ⟨hn0, hn1, hn2⟩ := hnx h1
  have hq := mNum_iff.1 h2
  have ht := mIn_iff.1 h3
  have hwd : w64 (mNextOf p - pos) = mNextOf p - pos := w64_id (by omega) (by omega)
  by_cases hB : pos < mNextOf p
  · by_cases hC : mNextOf p - pos < (text.length : Int)
    · have hC2 : ¬ (text.length ≤ (mNextOf p - pos).toNat) := by omega
      have hsl : 0 ≤ mNextOf p - pos ∧ mNextOf p - pos ≤ (text.length : Int) := by omega
      have hok : mPiecesOk p = true ∧ mNum pos = true ∧ mIn text.length 1 200 = true ∧ mNextOf p - pos < (text.length : Int) := ⟨h1, h2, h3, by omega⟩
      have hxb := ppX_bd (text := text) (pos := pos) hok.1 hp (mNum_iff.1 hok.2.1) (by have := (mIn_iff.1 hok.2.2.1).2; omega)
      have hx0 : ppX p pos text = ⟨mNextOf p, text.drop (mNextOf p - pos).toNat⟩ := by unfold ppX; rw [if_pos hB]
      repeat' ((conv => whnf); first | refine toOb2 ?_ | (refine fun y hy => ?_; (try simp only [Ctr.reads, Ctr.parts, h1, h2, h3, hwd, hB, hC, hC2, spps, reduceCtorEq, ETy.frm, if_true, if_false, implies_true, nbls, etas] at hy); subst hy) | (refine And.intro (fun h => ?_) (fun h => ?_) <;> (try simp only [h1, h2, h3, hwd, hB, hC, hC2, spps, reduceCtorEq, ETy.frm, if_true, if_false, implies_true, nbls, etas] at h)) | refine And.intro (toOb2 ?_) ?_ | refine And.intro (?_ : drawOk _ _ _ = true) ?_ | (refine And.intro ⟨?_, ?_⟩ ?_; fail) | intro _)
      (all_goals first | (refine Ob2.mk ?_; (try simp only [allP, side, Ctr.reads, Ctr.parts, h1, h2, h3, hwd, hB, hC, hC2, spps, reduceCtorEq, ETy.frm, if_true, if_false, implies_true, nbls, etas] at *); first | done | trivial | assumption | omega | ((repeat' (first | assumption | refine And.intro ?_ ?_ | omega | intro _)); done) | grind []) | (show drawOk _ _ _ = true; exact rfl) | skip)
      conv => whnf
      refine And.intro ⟨((0, [], ppX p pos text, false) : Nat × List DPiece × DPiece × Bool), Ob.mk ?_, ?_⟩ (fun (z : Nat × List DPiece × DPiece × Bool) hi => ?_)
      · exact And.intro (Nat.zero_le _) (And.intro rfl (And.intro ⟨hxb.1, hxb.2.1⟩ (And.intro (by have := hxb.2.2; simp only []; omega) (And.intro (Nat.le_refl _) (And.intro (TB_nil _) (fun h => by cases h))))))
      · conv => whnf
        refine Ob.mk ?_
        all_goals (try simp only [allP, side, Ctr.reads, etas]); all_goals repeat' (first | exact sp1 | refine And.intro ?_ ?_)
        all_goals first | done | rfl | exact trivial | (rw [hx0]; done) | (simp only [hx0]; done) | grind
      obtain ⟨i, out, x, laid⟩ := z
      obtain ⟨hi, hm, ⟨hxp, hxp2⟩, hxl, hol, hTB, hld⟩ := hi
      have hi : i ≤ p.list.length := hi
      have hm : ppF (p.list.drop i) out x laid = ppF p.list [] (ppX p pos text) false := hm
      have hxp : 0 ≤ x.pos := hxp
      have hxp2 : x.pos ≤ 2073741824 := hxp2
      have hxl : x.text.length ≤ 200 + i * 1073741824 := hxl
      have hol : out.length ≤ 2 * i := hol
      have hTB : TB i out := hTB
      have hld : laid = true → 0 < out.length := hld
      clear hx0 hxb
      rcases Nat.lt_or_ge i p.list.length with hlt | hge
      · obtain ⟨y, hx, hxi, hd⟩ := at_step p.list i (ETy.zero .piece) hlt
        rw [hd, ppF] at hm
        have hw := w64_succ hlt hs2
        have hym := List.mem_of_getElem? hxi
        have hyp := pieces_pos hok.1 hp y hym
        have hyl := hs3 y hym
        have hmb := mMerge_bd (a := y) (b := x) ⟨by omega, by omega, by omega⟩ ⟨by omega, by omega, by omega⟩
        have hPy : PB y := ⟨by omega, by omega, by omega⟩
        have hPx : PB x := ⟨by omega, by omega, by omega⟩
        have hwy : w64 (y.pos + (y.text.length : Int)) = y.pos + y.text.length := w64_id (by omega) (by omega)
        have hT3 : TB (i + 1) out := TB_mono hTB (by omega)
        have hT1 : TB (i + 1) (out ++ [y]) := TB_app hTB (by omega) (by omega)
        have hT2 : TB (i + 1) (out ++ [x] ++ [y]) := TB_app (TB_app hTB hxl (Nat.le_refl _)) (by omega) (by omega)
        clear hd hxi hym
        repeat' ((conv => whnf); first | refine toOb2 ?_ | refine And.intro (fun _ => ?_) (fun _ => ?_) | refine And.intro ?_ ?_ | refine toEx2 ?_ | refine toY ?_ | intro _)
        all_goals try (exfalso; exact Nat.lt_irrefl _ (Nat.lt_of_lt_of_le hlt (ge_of_dec (by assumption))))
        all_goals first | refine Ob2.mk ?_ | (show drawOk _ _ _ = true; exact rfl) | refine Ex2.of ((i + 1, (if w64 (y.pos + (y.text.length : Int)) < x.pos then out ++ [y] else if w64 (x.pos + (x.text.length : Int)) < y.pos then (if laid = true then out ++ [y] else out ++ [x] ++ [y]) else out), (if w64 (y.pos + (y.text.length : Int)) < x.pos then x else if w64 (x.pos + (x.text.length : Int)) < y.pos then x else mMerge y x), (if w64 (y.pos + (y.text.length : Int)) < x.pos then laid else if w64 (x.pos + (x.text.length : Int)) < y.pos then true else laid)) : Nat × List DPiece × DPiece × Bool) ?_ ?_ | skip
        all_goals try ((conv => whnf); refine Ob.mk ?_)
        all_goals (try simp only [allP, side, Ctr.reads, etas]); all_goals repeat' (first | exact sp1 | refine And.intro ?_ ?_)
        all_goals (try simp only [hx, ETy.frm, Ctr.reads, etas] at *)
        all_goals (try simp only [nbls] at *)
        all_goals (try simp only [decide_eq_true_eq, decide_eq_false_iff_not] at *)
        all_goals first | done | omega | grind
      · have hl : i = p.list.length := by omega
        subst hl
        rw [List.drop_length, ppF] at hm
        have hps := ppF_pos [] out x laid hld
        have hlen20 := (piecesOk_bd hok.1).2
        have hG1 := TB_getD hTB
        have hG2 : ((out ++ [x]).getD 0 (ETy.zero .piece)).text.length ≤ 200 + p.list.length * 1073741824 := TB_getD (TB_app (n := p.list.length) (m := p.list.length) hTB hxl (Nat.le_refl _))
        have hE : ppEnd (ppF p.list [] (ppX p pos text) false) = if laid = true then out else out ++ [x] := by rw [← hm]; rfl
        have hPP : mPutPiece p pos text = if mPiecesOk (ppOut p pos text) = true then ppOut p pos text else p := by unfold mPutPiece; rw [if_pos hok]
        have hO : ppOut p pos text = if ((if laid = true then out else out ++ [x]).getD 0 (ETy.zero .piece)).pos = mNextOf p then
            ⟨p.read, p.ready ++ ((if laid = true then out else out ++ [x]).getD 0 (ETy.zero .piece)).text, (if laid = true then out else out ++ [x]).drop 1⟩ else ⟨p.read, p.ready, if laid = true then out else out ++ [x]⟩ := by unfold ppOut; rw [hE]
        have hnp : mNextOf ⟨p.read, p.ready, if laid = true then out else out ++ [x]⟩ = mNextOf p := rfl
        have hnp2 : ∀ l, mNextOf ⟨p.read, p.ready, l⟩ = mNextOf p := fun _ => rfl
        clear hm hE
        repeat' ((conv => whnf); first | refine toOb2 ?_ | refine And.intro (fun _ => ?_) (fun _ => ?_) | refine And.intro ?_ ?_ | refine toEx2 ?_ | refine toY ?_ | intro _)
        all_goals try (exfalso; exact Nat.lt_irrefl _ (Nat.lt_of_lt_of_le (lt_of_dec (by assumption)) hge))
        all_goals first | refine Ob2.mk ?_ | (show drawOk _ _ _ = true; exact rfl) | skip
        all_goals (try simp only [allP, side, Ctr.reads, Ctr.parts, hPP, hO, hnp2, show (0 : Int).toNat = 0 from rfl, show (1 : Int).toNat = 1 from rfl, etas] at *)
        all_goals (try simp only [decide_eq_true_eq, decide_eq_false_iff_not] at *)
        all_goals first | done | trivial | assumption | omega | grind
    · have hM : mPutPiece p pos text = p := by unfold mPutPiece; rw [if_neg (fun h => hC h.2.2.2)]
      have hC2 : text.length ≤ ((text.length : Int)).toNat := by omega
      have hsl : 0 ≤ (text.length : Int) ∧ (text.length : Int) ≤ (text.length : Int) := by omega
      repeat' ((conv => whnf); first | refine toOb2 ?_ | (refine fun y hy => ?_; (try simp only [Ctr.reads, Ctr.parts, h1, h2, h3, hwd, hB, hC, hC2, spps, reduceCtorEq, ETy.frm, if_true, if_false, implies_true, nbls, etas] at hy); subst hy) | (refine And.intro (fun h => ?_) (fun h => ?_) <;> (try simp only [h1, h2, h3, hwd, hB, hC, hC2, spps, reduceCtorEq, ETy.frm, if_true, if_false, implies_true, nbls, etas] at h)) | refine And.intro (toOb2 ?_) ?_ | refine And.intro (?_ : drawOk _ _ _ = true) ?_ | (refine And.intro ⟨?_, ?_⟩ ?_; fail) | intro _)
      (all_goals first | (refine Ob2.mk ?_; (try simp only [allP, side, Ctr.reads, Ctr.parts, h1, h2, h3, hwd, hB, hC, hC2, hM, spps, reduceCtorEq, ETy.frm, if_true, if_false, implies_true, nbls, etas] at *); first | done | trivial | assumption | omega | ((repeat' (first | assumption | refine And.intro ?_ ?_ | omega | intro _)); done) | grind []) | (show drawOk _ _ _ = true; exact rfl) | skip)
      
  · have hC2 : ¬ (text = []) := fun h => by rw [h] at ht; simp at ht
    have hok : mPiecesOk p = true ∧ mNum pos = true ∧ mIn text.length 1 200 = true ∧ mNextOf p - pos < (text.length : Int) := ⟨h1, h2, h3, by omega⟩
    have hxb := ppX_bd (text := text) (pos := pos) hok.1 hp (mNum_iff.1 hok.2.1) (by have := (mIn_iff.1 hok.2.2.1).2; omega)
    have hx0 : ppX p pos text = ⟨pos, text⟩ := by unfold ppX; rw [if_neg hB]
    repeat' ((conv => whnf); first | refine toOb2 ?_ | (refine fun y hy => ?_; (try simp only [Ctr.reads, Ctr.parts, h1, h2, h3, hwd, hB, hC2, beq_iff_eq, beq_eq_false_iff_ne, ne_eq, spps, reduceCtorEq, ETy.frm, if_true, if_false, implies_true, nbls, etas] at hy); subst hy) | (refine And.intro (fun h => ?_) (fun h => ?_) <;> (try simp only [h1, h2, h3, hwd, hB, hC2, beq_iff_eq, beq_eq_false_iff_ne, ne_eq, spps, reduceCtorEq, ETy.frm, if_true, if_false, implies_true, nbls, etas] at h)) | refine And.intro (toOb2 ?_) ?_ | refine And.intro (?_ : drawOk _ _ _ = true) ?_ | (refine And.intro ⟨?_, ?_⟩ ?_; fail) | intro _)
    (all_goals first | (refine Ob2.mk ?_; (try simp only [allP, side, Ctr.reads, Ctr.parts, h1, h2, h3, hwd, hB, hC2, beq_iff_eq, beq_eq_false_iff_ne, ne_eq, spps, reduceCtorEq, ETy.frm, if_true, if_false, implies_true, nbls, etas] at *); first | done | trivial | assumption | omega | ((repeat' (first | assumption | refine And.intro ?_ ?_ | omega | intro _)); done) | grind []) | (show drawOk _ _ _ = true; exact rfl) | skip)
    conv => whnf
    refine And.intro ⟨((0, [], ppX p pos text, false) : Nat × List DPiece × DPiece × Bool), Ob.mk ?_, ?_⟩ (fun (z : Nat × List DPiece × DPiece × Bool) hi => ?_)
    · exact And.intro (Nat.zero_le _) (And.intro rfl (And.intro ⟨hxb.1, hxb.2.1⟩ (And.intro (by have := hxb.2.2; simp only []; omega) (And.intro (Nat.le_refl _) (And.intro (TB_nil _) (fun h => by cases h))))))
    · conv => whnf
      refine Ob.mk ?_
      all_goals (try simp only [allP, side, Ctr.reads, etas]); all_goals repeat' (first | exact sp1 | refine And.intro ?_ ?_)
      all_goals first | done | rfl | exact trivial | (rw [hx0]; done) | (simp only [hx0]; done) | grind
    obtain ⟨i, out, x, laid⟩ := z
    obtain ⟨hi, hm, ⟨hxp, hxp2⟩, hxl, hol, hTB, hld⟩ := hi
    have hi : i ≤ p.list.length := hi
    have hm : ppF (p.list.drop i) out x laid = ppF p.list [] (ppX p pos text) false := hm
    have hxp : 0 ≤ x.pos := hxp
    have hxp2 : x.pos ≤ 2073741824 := hxp2
    have hxl : x.text.length ≤ 200 + i * 1073741824 := hxl
    have hol : out.length ≤ 2 * i := hol
    have hTB : TB i out := hTB
    have hld : laid = true → 0 < out.length := hld
    clear hx0 hxb
    rcases Nat.lt_or_ge i p.list.length with hlt | hge
    · obtain ⟨y, hx, hxi, hd⟩ := at_step p.list i (ETy.zero .piece) hlt
      rw [hd, ppF] at hm
      have hw := w64_succ hlt hs2
      have hym := List.mem_of_getElem? hxi
      have hyp := pieces_pos hok.1 hp y hym
      have hyl := hs3 y hym
      have hmb := mMerge_bd (a := y) (b := x) ⟨by omega, by omega, by omega⟩ ⟨by omega, by omega, by omega⟩
      have hPy : PB y := ⟨by omega, by omega, by omega⟩
      have hPx : PB x := ⟨by omega, by omega, by omega⟩
      have hwy : w64 (y.pos + (y.text.length : Int)) = y.pos + y.text.length := w64_id (by omega) (by omega)
      have hT3 : TB (i + 1) out := TB_mono hTB (by omega)
      have hT1 : TB (i + 1) (out ++ [y]) := TB_app hTB (by omega) (by omega)
      have hT2 : TB (i + 1) (out ++ [x] ++ [y]) := TB_app (TB_app hTB hxl (Nat.le_refl _)) (by omega) (by omega)
      clear hd hxi hym
      repeat' ((conv => whnf); first | refine toOb2 ?_ | refine And.intro (fun _ => ?_) (fun _ => ?_) | refine And.intro ?_ ?_ | refine toEx2 ?_ | refine toY ?_ | intro _)
      all_goals try (exfalso; exact Nat.lt_irrefl _ (Nat.lt_of_lt_of_le hlt (ge_of_dec (by assumption))))
      all_goals first | refine Ob2.mk ?_ | (show drawOk _ _ _ = true; exact rfl) | refine Ex2.of ((i + 1, (if w64 (y.pos + (y.text.length : Int)) < x.pos then out ++ [y] else if w64 (x.pos + (x.text.length : Int)) < y.pos then (if laid = true then out ++ [y] else out ++ [x] ++ [y]) else out), (if w64 (y.pos + (y.text.length : Int)) < x.pos then x else if w64 (x.pos + (x.text.length : Int)) < y.pos then x else mMerge y x), (if w64 (y.pos + (y.text.length : Int)) < x.pos then laid else if w64 (x.pos + (x.text.length : Int)) < y.pos then true else laid)) : Nat × List DPiece × DPiece × Bool) ?_ ?_ | skip
      all_goals try ((conv => whnf); refine Ob.mk ?_)
      all_goals (try simp only [allP, side, Ctr.reads, etas]); all_goals repeat' (first | exact sp1 | refine And.intro ?_ ?_)
      all_goals (try simp only [hx, ETy.frm, Ctr.reads, etas] at *)
      all_goals (try simp only [nbls] at *)
      all_goals (try simp only [decide_eq_true_eq, decide_eq_false_iff_not] at *)
      all_goals first | done | omega | grind
    · have hl : i = p.list.length := by omega
      subst hl
      rw [List.drop_length, ppF] at hm
      have hps := ppF_pos [] out x laid hld
      have hlen20 := (piecesOk_bd hok.1).2
      have hG1 := TB_getD hTB
      have hG2 : ((out ++ [x]).getD 0 (ETy.zero .piece)).text.length ≤ 200 + p.list.length * 1073741824 := TB_getD (TB_app (n := p.list.length) (m := p.list.length) hTB hxl (Nat.le_refl _))
      have hE : ppEnd (ppF p.list [] (ppX p pos text) false) = if laid = true then out else out ++ [x] := by rw [← hm]; rfl
      have hPP : mPutPiece p pos text = if mPiecesOk (ppOut p pos text) = true then ppOut p pos text else p := by unfold mPutPiece; rw [if_pos hok]
      have hO : ppOut p pos text = if ((if laid = true then out else out ++ [x]).getD 0 (ETy.zero .piece)).pos = mNextOf p then
          ⟨p.read, p.ready ++ ((if laid = true then out else out ++ [x]).getD 0 (ETy.zero .piece)).text, (if laid = true then out else out ++ [x]).drop 1⟩ else ⟨p.read, p.ready, if laid = true then out else out ++ [x]⟩ := by unfold ppOut; rw [hE]
      have hnp : mNextOf ⟨p.read, p.ready, if laid = true then out else out ++ [x]⟩ = mNextOf p := rfl
      have hnp2 : ∀ l, mNextOf ⟨p.read, p.ready, l⟩ = mNextOf p := fun _ => rfl
      clear hm hE
      repeat' ((conv => whnf); first | refine toOb2 ?_ | refine And.intro (fun _ => ?_) (fun _ => ?_) | refine And.intro ?_ ?_ | refine toEx2 ?_ | refine toY ?_ | intro _)
      all_goals try (exfalso; exact Nat.lt_irrefl _ (Nat.lt_of_lt_of_le (lt_of_dec (by assumption)) hge))
      all_goals first | refine Ob2.mk ?_ | (show drawOk _ _ _ = true; exact rfl) | skip
      all_goals (try simp only [allP, side, Ctr.reads, Ctr.parts, hPP, hO, hnp2, show (0 : Int).toNat = 0 from rfl, show (1 : Int).toNat = 1 from rfl, etas] at *)
      all_goals (try simp only [decide_eq_true_eq, decide_eq_false_iff_not] at *)
      all_goals first | done | trivial | assumption | omega | grind
theorem h_impl_HearData : Ctr.holds E 60 (.reads [aEnd, aLetter] [aEnd, aRow .letter] (fun ((e : DEnd), (x : DLetter), _) => e.B ∧ e.inn.S) fun ((e : DEnd), (x : DLetter), _) => ((mHearData e x).1, (mHearData e x).2, ())) := by
  refine fn_ok prgOk (gcons h_impl_copyEnd (gcons h_impl_SignedOn (gcons h_impl_EndOk (gcons h_impl_LetterOk (gcons h_impl_PutPiece (gcons h_impl_NextOf (gcons h_impl_RoadOf (gcons h_impl_Between gnil)))))))) Tryz.func60 rfl rfl rfl rfl ?_
  rintro ty ⟨(e : DEnd), (x : DLetter), _⟩ (hp : e.B ∧ e.inn.S)
  obtain ⟨hp, hpS⟩ := hp
  obtain ⟨hb1, hb2, hb3, hb4, hb5, hb6, hb7⟩ := id hp
  have hgb := mSignedOn_bd e x
  have hpl := mPutPiece_len (p := e.inn) (pos := x.pos) (text := x.text) hb5
  refine ⟨[], ?_⟩
  repeat' ((conv => whnf); first | refine toOb2 ?_ | refine And.intro (fun _ => ?_) (fun _ => ?_) | refine And.intro ?_ ?_ | refine toEx2 ?_ | refine toY ?_ | intro _)
  all_goals first | refine Ob2.mk ?_ | (show drawOk _ _ _ = true; exact rfl)
  all_goals (try simp only [allP, side, Ctr.reads, etas]); all_goals repeat' (first | exact sp1 | refine And.intro ?_ ?_)
  all_goals (try simp only [ETy.frm, dTag_beq, List.set_set, List.length_set, List.nil_append, Ctr.reads, etas] at *)
  all_goals (try simp only [nbls] at *)
  all_goals first | done | with_reducible assumption | with_reducible rfl | omega | grind [mHearData, mL20On, ltr, mBetween, setSub, gSub]
theorem h_impl_Hear : Ctr.holds E 20 (.reads [aEnd, aLetter] [aEnd, aRow .letter] (fun ((e : DEnd), (x : DLetter), _) => e.B ∧ e.inn.S) fun ((e : DEnd), (x : DLetter), _) => ((mHear e x).1, (mHear e x).2, ())) := by
  refine fn_ok prgOk (gcons h_impl_EndOk (gcons h_impl_LetterOk (gcons h_impl_OwnsAddr (gcons h_impl_copyEnd (gcons h_impl_HearHello (gcons h_impl_HearBack (gcons h_impl_HearJoin (gcons h_impl_HearJoinBack (gcons h_impl_HearJoinDone (gcons h_impl_HearJoinAck (gcons h_impl_HearAddr (gcons h_impl_HearEcho (gcons h_impl_HearGone (gcons h_impl_HearData (gcons h_impl_HearCame (gcons h_impl_HearReset gnil)))))))))))))))) Tryz.func20 rfl rfl rfl rfl ?_
  rintro ty ⟨(e : DEnd), (x : DLetter), _⟩ (hp : e.B ∧ e.inn.S)
  obtain ⟨hp, hpS⟩ := hp
  obtain ⟨hb1, hb2, hb3, hb4, hb5, hb6, hb7⟩ := id hp
  refine ⟨[], ?_⟩
  repeat' ((conv => whnf); first | refine toOb2 ?_ | refine And.intro (fun _ => ?_) (fun _ => ?_) | refine And.intro ?_ ?_ | refine toEx2 ?_ | refine toY ?_ | intro _)
  all_goals first | refine Ob2.mk ?_ | (show drawOk _ _ _ = true; exact rfl)
  all_goals (try simp only [allP, side, Ctr.reads, etas]); all_goals repeat' (first | exact sp1 | refine And.intro ?_ ?_)
  all_goals (try simp only [ETy.frm, dTag_beq, List.set_set, List.length_set, List.nil_append, Ctr.reads, etas] at *)
  all_goals (try simp only [nbls] at *)
  all_goals first | done | with_reducible assumption | with_reducible rfl | omega | grind [mHear]
end Go.Proofs.YtnpeomhpbakgnaaGreat
