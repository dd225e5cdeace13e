/- Contracts of functions of the program, each shown over the text. -/
import Derived.Test.YtnpeomhpbakgnaaGreatFun1
set_option linter.unusedVariables false
set_option linter.unusedSimpArgs false
set_option maxRecDepth 100000
set_option maxHeartbeats 1000000
namespace Go.Proofs.YtnpeomhpbakgnaaGreat
open Go.Eng
theorem h_spec_AddrAt : Ctr.holds E 34 (.reads [aRow .addr, aInt] [aInt] (fun ((l : List DAddr), _) => l.length ≤ 1073741824) fun ((l : List DAddr), (n : Int), _) => (mAddrAt l n, ())) := by
  refine fn_ok prgOk gnil Tryz.func34 rfl rfl rfl rfl ?_
  rintro ty ⟨(l : List DAddr), (n : Int), _⟩ (hp : l.length ≤ 1073741824)
  refine ⟨[(2, { X := Nat, inv := fun i => i ≤ l.length ∧ findL (fun a : DAddr => a.id == n) (l.drop i) i = mAddrAt l n, mu := fun i => l.length - i, vk := [5], ov := fun i => [.a (.c (.leaf (.int (i : Int))))], bk := [], ob := fun i => [], rk := [], orr := fun i => [] })], ?_⟩
  conv => whnf
  refine And.intro ⟨(0 : Nat), Ob.mk ?_, ?_⟩ (fun (i : Nat) hi => ?_)
  · exact And.intro (Nat.zero_le _) rfl
  · conv => whnf
    refine Ob.mk ?_
    all_goals (try simp only [allP, side, Ctr.reads, etas]); all_goals repeat' (first | exact sp1 | refine And.intro ?_ ?_)
  obtain ⟨hi, hm⟩ := hi
  have hi : i ≤ l.length := hi
  have hm : findL (fun a : DAddr => a.id == n) (l.drop i) i = mAddrAt l n := hm
  rcases Nat.lt_or_ge i l.length with hlt | hge
  · obtain ⟨x, hx, hxi, hd⟩ := at_step l i (ETy.zero .addr) hlt
    rw [hd, findL] at hm
    have hw := w64_succ hlt (hp)
    repeat' ((conv => whnf); first | refine toOb2 ?_ | refine And.intro (fun _ => ?_) (fun _ => ?_) | refine And.intro ?_ ?_ | refine toEx2 ?_ | intro _)
    all_goals try (exfalso; exact Nat.lt_irrefl _ (Nat.lt_of_lt_of_le hlt (ge_of_dec (by assumption))))
    all_goals first | refine Ob2.mk ?_ | refine Ex2.of (i + 1) ?_ ?_ | skip
    all_goals try ((conv => whnf); refine Ob.mk ?_)
    all_goals (try simp only [allP, side, Ctr.reads, etas]); all_goals repeat' (first | exact sp1 | refine And.intro ?_ ?_)
    all_goals (try simp only [hx, Ctr.reads, etas] at *)
    all_goals first | done | grind [mAddrAt]
  · have hl : i = l.length := by omega
    subst hl
    rw [List.drop_length, findL] at hm
    repeat' ((conv => whnf); first | refine toOb2 ?_ | refine And.intro (fun _ => ?_) (fun _ => ?_) | refine And.intro ?_ ?_ | refine toEx2 ?_ | intro _)
    all_goals try (exfalso; exact Nat.lt_irrefl _ (Nat.lt_of_lt_of_le (lt_of_dec (by assumption)) hge))
    all_goals first | refine Ob2.mk ?_ | refine Ex2.of (l.length + 1) ?_ ?_ | skip
    all_goals try ((conv => whnf); refine Ob.mk ?_)
    all_goals (try simp only [allP, side, Ctr.reads, etas]); all_goals repeat' (first | exact sp1 | refine And.intro ?_ ?_)
    all_goals (try simp only [Ctr.reads, etas] at *)
    all_goals first | done | grind [mAddrAt]
theorem h_spec_l01In : Ctr.holds E 87 (.reads [aInt, aInt, aInt] [aBool] (fun _ => True) fun ((n : Int), (l : Int), (h : Int), _) => (mIn n l h, ())) := by
  refine fn_ok prgOk gnil Tryz.func87 rfl rfl rfl rfl ?_
  rintro ty ⟨(n : Int), (l : Int), (h : Int), _⟩ hp
  refine ⟨[], ?_⟩
  repeat' ((conv => whnf); first | refine toOb2 ?_ | refine And.intro (fun _ => ?_) (fun _ => ?_) | refine And.intro ?_ ?_ | refine toEx2 ?_ | intro _)
  all_goals first | refine Ob2.mk ?_ | (show drawOk _ _ _ = true; exact rfl)
  all_goals (try simp only [allP, side, Ctr.reads, etas]); all_goals repeat' (first | exact sp1 | refine And.intro ?_ ?_)
  all_goals (try simp only [Ctr.reads, etas] at *)
  all_goals first | done | with_reducible assumption | with_reducible rfl | grind [mIn]
theorem h_spec_AddrsOk : Ctr.holds E 89 (.reads [aRow .addr] [aBool] (fun ((l : List DAddr), _) => l.length ≤ 1073741824) fun ((l : List DAddr), _) => (mAddrsOk l, ())) := by
  refine fn_ok prgOk (gcons h_spec_l01In gnil) Tryz.func89 rfl rfl rfl rfl ?_
  rintro ty ⟨(l : List DAddr), _⟩ (hp : l.length ≤ 1073741824)
  refine ⟨[(4, { X := Nat, inv := fun i => i ≤ l.length ∧ allI (pAddr l) (l.length - i) i = allI (pAddr l) l.length 0, mu := fun i => l.length - i, vk := [3], ov := fun i => [.a (.c (.leaf (.int (i : Int))))], bk := [], ob := fun i => [], rk := [], orr := fun i => [] }), (10, { X := Nat × Nat, inv := fun x => x.1 < l.length ∧ x.2 ≤ x.1 ∧ allI (pDiff l x.1) (x.1 - x.2) x.2 = allI (pDiff l x.1) x.1 0, mu := fun x => x.1 - x.2, vk := [5], ov := fun x => [.a (.c (.leaf (.int (x.2 : Int))))], bk := [], ob := fun x => [], rk := [], orr := fun x => [], rel := some fun a b => a.1 = b.1 })], ?_⟩
  repeat' ((conv => whnf); first | refine toOb2 ?_ | refine toY ?_ | refine And.intro (fun _ => ?_) (fun _ => ?_) | refine And.intro (toOb2 ?_) ?_ | refine And.intro (?_ : drawOk _ _ _ = true) ?_ | (refine And.intro ⟨?_, ?_⟩ ?_; fail) | intro _)
  (all_goals first | (refine Ob2.mk ?_; (try simp only [allP, side, Ctr.reads, etas] at *); (try simp only [nbls, imp_self, implies_true, and_self, and_true, true_and] at *); first | done | trivial | assumption | omega | grind [mAddrsOk]) | (show drawOk _ _ _ = true; exact rfl) | skip)
  conv => whnf
  refine And.intro ⟨(0 : Nat), Ob.mk ?_, ?_⟩ (fun (i : Nat) hi => ?_)
  · exact And.intro (Nat.zero_le _) rfl
  · conv => whnf
    refine Ob.mk ?_
    all_goals (try simp only [allP, side, Ctr.reads, etas]); all_goals repeat' (first | exact sp1 | refine And.intro ?_ ?_)
  obtain ⟨hi, hm⟩ := hi
  have hi : i ≤ l.length := hi
  have hm : allI (pAddr l) (l.length - i) i = allI (pAddr l) l.length 0 := hm
  rcases Nat.lt_or_ge i l.length with hlt | hge
  · have hw := w64_succ hlt hp
    have hw2 : 0 < i → (w64 ((i : Int) - 1)).toNat = i - 1 := fun h => by rw [w64_id (by omega) (by omega)]; omega
    have hw3 : 0 < i → 0 ≤ w64 ((i : Int) - 1) ∧ w64 ((i : Int) - 1) < (l.length : Int) := fun h => by rw [w64_id (by omega) (by omega)]; omega
    repeat' ((conv => whnf); first | refine toOb2 ?_ | refine toY ?_ | refine And.intro (fun _ => ?_) (fun _ => ?_) | refine And.intro (toOb2 ?_) ?_ | refine And.intro (?_ : drawOk _ _ _ = true) ?_ | (refine And.intro ⟨?_, ?_⟩ ?_; fail) | intro _)
    all_goals try (exfalso; exact Nat.lt_irrefl _ (Nat.lt_of_lt_of_le hlt (ge_of_dec (by assumption))))
    all_goals first | (refine Ob2.mk ?_; (try simp only [allP, side, Ctr.reads, etas, Int.toNat_natCast] at *); first | done | trivial | assumption | (rw [allI_step _ hlt] at hm; grind [pAddr, pAddr0, mAddrsOk])) | (show drawOk _ _ _ = true; exact rfl) | skip
    conv => whnf
    rename_i hcond
    have hp0 : pAddr0 l i = true := by (first | (simp only [Ctr.reads, Int.toNat_natCast] at *; grind [pAddr0]) | grind [pAddr0])
    clear hcond
    refine ⟨((i, 0) : Nat × Nat), And.intro (And.intro (Ob.mk ?_) ?_) (fun (x : Nat × Nat) hx hr => ?_)⟩
    · exact And.intro (And.intro hlt (And.intro (Nat.zero_le _) rfl)) rfl
    · conv => whnf
      refine Ob.mk ?_
      all_goals (try simp only [allP, side, Ctr.reads, etas]); all_goals repeat' (first | exact sp1 | refine And.intro ?_ ?_)
      all_goals first | done | (simp; done) | (simp; omega)
    obtain ⟨k, j⟩ := x
    have hr : i = k := hr
    subst hr
    obtain ⟨_, hj, hmj⟩ := hx
    have hj : j ≤ i := hj
    have hmj : allI (pDiff l i) (i - j) j = allI (pDiff l i) i 0 := hmj
    have hwj := w64_succ (Nat.lt_of_le_of_lt hj hlt) hp
    have htl : (l.take i).length = i := by simp; omega
    have hgt : j < i → (l.take i).getD j (ETy.zero .addr) = gA l j := fun h => by simp [gA, List.getD, List.getElem?_take, h]
    clear hw2 hw3
    rcases Nat.lt_or_ge j i with hlj | hgj
    · rw [allI_step _ hlj] at hmj
      rw [allI_step _ hlt] at hm
      repeat' ((conv => whnf); first | refine toOb2 ?_ | refine And.intro (fun _ => ?_) (fun _ => ?_) | refine And.intro ?_ ?_ | refine toEx2 ?_ | refine toY ?_ | intro _)
      all_goals first | refine Ob2.mk ?_ | refine Ex2.of ((i, j + 1) : Nat × Nat) ?_ ?_ | refine Ex2.of (i + 1) ?_ ?_ | skip
      all_goals try ((conv => whnf); refine Ob.mk ?_)
      all_goals (try simp only [allP, side, Ctr.reads, etas]); all_goals repeat' (first | exact sp1 | refine And.intro ?_ ?_)
      all_goals (try simp only [htl, Int.toNat_natCast, Ctr.reads, etas] at *)
      all_goals first | done | omega | grind [pAddr, pDiff, mAddrsOk]
    · have hl : j = i := by omega
      subst hl
      rw [allI_end] at hmj
      rw [allI_step _ hlt] at hm
      have hpa : pAddr l j = true := by simp [pAddr, hp0, ← hmj]
      rw [if_pos hpa] at hm
      clear hmj hp0 hgt
      repeat' ((conv => whnf); first | refine toOb2 ?_ | refine And.intro (fun _ => ?_) (fun _ => ?_) | refine And.intro ?_ ?_ | refine toEx2 ?_ | refine toY ?_ | intro _)
      all_goals try (exfalso; exact Nat.lt_irrefl j (lt_of_dec (i := j) (n := j) (by assumption)))
      all_goals first | refine Ob2.mk ?_ | refine Ex2.of ((j, j) : Nat × Nat) ?_ ?_ | refine Ex2.of (j + 1) ?_ ?_ | skip
      all_goals try ((conv => whnf); refine Ob.mk ?_)
      all_goals (try simp only [allP, side, Ctr.reads, etas]); all_goals repeat' (first | exact sp1 | refine And.intro ?_ ?_)
      all_goals (try simp only [htl, Int.toNat_natCast, Ctr.reads, etas] at *)
      all_goals first | done | omega | (exact And.intro (And.intro hlt hm) (by omega)) | (exfalso; simp at *; omega) | grind
  · have hl : i = l.length := by omega
    subst hl
    rw [allI_end] at hm
    repeat' ((conv => whnf); first | refine toOb2 ?_ | refine And.intro (fun _ => ?_) (fun _ => ?_) | refine And.intro ?_ ?_ | refine toEx2 ?_ | refine toY ?_ | intro _)
    all_goals try (exfalso; exact Nat.lt_irrefl _ (Nat.lt_of_lt_of_le (lt_of_dec (by assumption)) hge))
    all_goals first | refine Ob2.mk ?_ | refine Ex2.of (l.length) ?_ ?_ | skip
    all_goals try ((conv => whnf); refine Ob.mk ?_)
    all_goals (try simp only [allP, side, Ctr.reads, etas]); all_goals repeat' (first | exact sp1 | refine And.intro ?_ ?_)
    all_goals (try simp only [Ctr.reads, etas] at *)
    all_goals first | done | grind [mAddrsOk]
theorem h_spec_PolicyOk : Ctr.holds E 88 (.reads [aPolicy] [aBool] (fun _ => True) fun ((p : DPolicy), _) => (mPolicyOk p, ())) := by
  refine fn_ok prgOk (gcons h_spec_l01In gnil) Tryz.func88 rfl rfl rfl rfl ?_
  rintro ty ⟨(p : DPolicy), _⟩ hp
  refine ⟨[], ?_⟩
  repeat' ((conv => whnf); first | refine toOb2 ?_ | refine And.intro (fun _ => ?_) (fun _ => ?_) | refine And.intro ?_ ?_ | refine toEx2 ?_ | refine toY ?_ | intro _)
  all_goals first | refine Ob2.mk ?_ | (show drawOk _ _ _ = true; exact rfl)
  all_goals (try simp only [allP, side, Ctr.reads, etas]); all_goals repeat' (first | exact sp1 | refine And.intro ?_ ?_)
  all_goals (try simp only [Ctr.reads, etas] at *)
  all_goals first | done | with_reducible assumption | with_reducible rfl | grind [mPolicyOk]
theorem h_spec_BucketOk : Ctr.holds E 91 (.reads [aBucket] [aBool] (fun _ => True) fun ((b : DBucket), _) => (mBucketOk b, ())) := by
  refine fn_ok prgOk (gcons h_spec_l01In gnil) Tryz.func91 rfl rfl rfl rfl ?_
  rintro ty ⟨(b : DBucket), _⟩ hp
  refine ⟨[], ?_⟩
  repeat' ((conv => whnf); first | refine toOb2 ?_ | refine And.intro (fun _ => ?_) (fun _ => ?_) | refine And.intro ?_ ?_ | refine toEx2 ?_ | refine toY ?_ | intro _)
  all_goals first | refine Ob2.mk ?_ | (show drawOk _ _ _ = true; exact rfl)
  all_goals (try simp only [allP, side, Ctr.reads, etas]); all_goals repeat' (first | exact sp1 | refine And.intro ?_ ?_)
  all_goals (try simp only [Ctr.reads, etas] at *)
  all_goals first | done | with_reducible assumption | with_reducible rfl | grind [mBucketOk]
theorem h_spec_BucketNew : Ctr.holds E 227 (.reads [aInt, aInt] [aBucket, aBool] (fun _ => True) fun ((r : Int), (u : Int), _) => ((mBucketNew r u).1, (mBucketNew r u).2, ())) := by
  refine fn_ok prgOk (gcons h_spec_BucketOk gnil) Tryz.func227 rfl rfl rfl rfl ?_
  rintro ty ⟨(r : Int), (u : Int), _⟩ hp
  refine ⟨[], ?_⟩
  repeat' ((conv => whnf); first | refine toOb2 ?_ | refine And.intro (fun _ => ?_) (fun _ => ?_) | refine And.intro ?_ ?_ | refine toEx2 ?_ | refine toY ?_ | intro _)
  all_goals first | refine Ob2.mk ?_ | (show drawOk _ _ _ = true; exact rfl)
  all_goals (try simp only [allP, side, Ctr.reads, etas]); all_goals repeat' (first | exact sp1 | refine And.intro ?_ ?_)
  all_goals (try simp only [Ctr.reads, etas] at *)
  all_goals first | done | with_reducible assumption | with_reducible rfl | grind [mBucketNew]
theorem h_spec_l09Copy : Ctr.holds E 176 (.reads [aPieces] [aPieces] (fun ((p : DPieces), _) => p.list.length ≤ 1073741824) fun (p, _) => (p, ())) := by
  refine fn_ok prgOk gnil Tryz.func176 rfl rfl rfl rfl ?_
  rintro ty ⟨(p : DPieces), _⟩ (hp : p.list.length ≤ 1073741824)
  refine ⟨[(3, { X := Nat × List DPiece, inv := fun x => x.1 ≤ p.list.length ∧ x.2 ++ colL fAll (p.list.drop x.1) x.1 = p.list ∧ x.2.length ≤ x.1, mu := fun x => p.list.length - x.1, vk := [4, 3, 5], ov := fun x => [.a (.c (.leaf (.int (x.1 : Int)))), .a (.c (.row 320)), .any], bk := [], ob := fun x => [], rk := [320], orr := fun x => [⟨.piece, x.2, true, none⟩] })], ?_⟩
  conv => whnf
  refine And.intro ⟨((0, []) : Nat × List DPiece), Ob.mk ?_, ?_⟩ (fun (x : Nat × List DPiece) hi => ?_)
  · exact And.intro (Nat.zero_le _) (And.intro (colL_all _ _) (Nat.le_refl _))
  · conv => whnf
    refine Ob.mk ?_
    all_goals (try simp only [allP, side, Ctr.reads, etas]); all_goals repeat' (first | exact sp1 | refine And.intro ?_ ?_)
  obtain ⟨i, acc⟩ := x
  obtain ⟨hi, hm⟩ := hi
  have hi : i ≤ p.list.length := hi
  have hm : acc ++ colL fAll (p.list.drop i) i = p.list ∧ acc.length ≤ i := hm
  rcases Nat.lt_or_ge i p.list.length with hlt | hge
  · obtain ⟨x, hx, hxi, hd⟩ := at_step p.list i (ETy.zero .piece) hlt
    rw [hd, colL] at hm
    have hw := w64_succ hlt (hp)
    repeat' ((conv => whnf); first | refine toOb2 ?_ | refine And.intro (fun _ => ?_) (fun _ => ?_) | refine And.intro ?_ ?_ | refine toEx2 ?_ | intro _)
    all_goals try (exfalso; exact Nat.lt_irrefl _ (Nat.lt_of_lt_of_le hlt (ge_of_dec (by assumption))))
    all_goals first | refine Ob2.mk ?_ | refine Ex2.of ((i + 1, acc ++ [x])) ?_ ?_ | skip
    all_goals try ((conv => whnf); refine Ob.mk ?_)
    all_goals (try simp only [allP, side, Ctr.reads, etas]); all_goals repeat' (first | exact sp1 | refine And.intro ?_ ?_)
    all_goals (try simp only [hx, Ctr.reads, etas] at *)
    all_goals first | done | (have hq := hm.1; rw [List.append_nil] at hq; simp only [hq]; done) | grind [fAll]
  · have hl : i = p.list.length := by omega
    subst hl
    rw [List.drop_length, colL] at hm
    repeat' ((conv => whnf); first | refine toOb2 ?_ | refine And.intro (fun _ => ?_) (fun _ => ?_) | refine And.intro ?_ ?_ | refine toEx2 ?_ | intro _)
    all_goals try (exfalso; exact Nat.lt_irrefl _ (Nat.lt_of_lt_of_le (lt_of_dec (by assumption)) hge))
    all_goals first | refine Ob2.mk ?_ | refine Ex2.of ((p.list.length, acc)) ?_ ?_ | skip
    all_goals try ((conv => whnf); refine Ob.mk ?_)
    all_goals (try simp only [allP, side, Ctr.reads, etas]); all_goals repeat' (first | exact sp1 | refine And.intro ?_ ?_)
    all_goals (try simp only [Ctr.reads, etas] at *)
    all_goals first | done | (have hq := hm.1; rw [List.append_nil] at hq; simp only [hq]; done) | grind [fAll]
theorem h_spec_l17Copy : Ctr.holds E 78 (.reads [aEnd] [aEnd] (fun ((e : DEnd), _) => e.B) fun (e, _) => (e, ())) := by
  refine fn_ok prgOk (gcons h_spec_l09Copy gnil) Tryz.func78 rfl rfl rfl rfl ?_
  rintro ty ⟨(e : DEnd), _⟩ (hp : e.B)
  obtain ⟨hb1, hb2, hb3, hb4, hb5, hb6, hb7⟩ := hp
  refine ⟨[], ?_⟩
  repeat' ((conv => whnf); first | refine toOb2 ?_ | refine And.intro (fun _ => ?_) (fun _ => ?_) | refine And.intro ?_ ?_ | refine toEx2 ?_ | refine toY ?_ | intro _)
  all_goals first | refine Ob2.mk ?_ | (show drawOk _ _ _ = true; exact rfl)
  all_goals (try simp only [allP, side, Ctr.reads, etas]); all_goals repeat' (first | exact sp1 | refine And.intro ?_ ?_)
  all_goals (try simp only [List.nil_append, Ctr.reads, etas] at *)
  all_goals first | done | with_reducible assumption | with_reducible rfl | grind []
theorem h_spec_l14Num : Ctr.holds E 95 (.reads [aInt] [aBool] (fun _ => True) fun ((n : Int), _) => (mNum n, ())) := by
  refine fn_ok prgOk (gcons h_spec_l01In gnil) Tryz.func95 rfl rfl rfl rfl ?_
  rintro ty ⟨(n : Int), _⟩ hp
  refine ⟨[], ?_⟩
  repeat' ((conv => whnf); first | refine toOb2 ?_ | refine And.intro (fun _ => ?_) (fun _ => ?_) | refine And.intro ?_ ?_ | refine toEx2 ?_ | refine toY ?_ | intro _)
  all_goals first | refine Ob2.mk ?_ | (show drawOk _ _ _ = true; exact rfl)
  all_goals (try simp only [allP, side, Ctr.reads, etas]); all_goals repeat' (first | exact sp1 | refine And.intro ?_ ?_)
  all_goals (try simp only [Ctr.reads, etas] at *)
  all_goals first | done | with_reducible assumption | with_reducible rfl | grind [mNum]
theorem h_spec_l14Road : Ctr.holds E 94 (.reads [aRoad] [aBool] (fun _ => True) fun ((r : DRoad), _) => (mRoadNum r, ())) := by
  refine fn_ok prgOk (gcons h_spec_l14Num gnil) Tryz.func94 rfl rfl rfl rfl ?_
  rintro ty ⟨(r : DRoad), _⟩ hp
  refine ⟨[], ?_⟩
  repeat' ((conv => whnf); first | refine toOb2 ?_ | refine And.intro (fun _ => ?_) (fun _ => ?_) | refine And.intro ?_ ?_ | refine toEx2 ?_ | refine toY ?_ | intro _)
  all_goals first | refine Ob2.mk ?_ | (show drawOk _ _ _ = true; exact rfl)
  all_goals (try simp only [allP, side, Ctr.reads, etas]); all_goals repeat' (first | exact sp1 | refine And.intro ?_ ?_)
  all_goals (try simp only [Ctr.reads, etas] at *)
  all_goals first | done | with_reducible assumption | with_reducible rfl | grind [mRoadNum]
theorem h_spec_HalfAt : Ctr.holds E 185 (.reads [aRow .half, aRoad] [aInt] (fun ((l : List DHalf), _) => l.length ≤ 1073741824) fun ((l : List DHalf), (r : DRoad), _) => (mHalfAt l r, ())) := by
  refine fn_ok prgOk gnil Tryz.func185 rfl rfl rfl rfl ?_
  rintro ty ⟨(l : List DHalf), (r : DRoad), _⟩ (hp : l.length ≤ 1073741824)
  refine ⟨[(2, { X := Nat, inv := fun i => i ≤ l.length ∧ findL (fun h : DHalf => decide (h.road = r)) (l.drop i) i = mHalfAt l r, mu := fun i => l.length - i, vk := [5], ov := fun i => [.a (.c (.leaf (.int (i : Int))))], bk := [], ob := fun i => [], rk := [], orr := fun i => [] })], ?_⟩
  conv => whnf
  refine And.intro ⟨(0 : Nat), Ob.mk ?_, ?_⟩ (fun (i : Nat) hi => ?_)
  · exact And.intro (Nat.zero_le _) rfl
  · conv => whnf
    refine Ob.mk ?_
    all_goals (try simp only [allP, side, Ctr.reads, etas]); all_goals repeat' (first | exact sp1 | refine And.intro ?_ ?_)
  obtain ⟨hi, hm⟩ := hi
  have hi : i ≤ l.length := hi
  have hm : findL (fun h : DHalf => decide (h.road = r)) (l.drop i) i = mHalfAt l r := hm
  rcases Nat.lt_or_ge i l.length with hlt | hge
  · obtain ⟨x, hx, hxi, hd⟩ := at_step l i (ETy.zero .half) hlt
    rw [hd, findL] at hm
    have hw := w64_succ hlt (hp)
    repeat' ((conv => whnf); first | refine toOb2 ?_ | refine And.intro (fun _ => ?_) (fun _ => ?_) | refine And.intro ?_ ?_ | refine toEx2 ?_ | intro _)
    all_goals try (exfalso; exact Nat.lt_irrefl _ (Nat.lt_of_lt_of_le hlt (ge_of_dec (by assumption))))
    all_goals first | refine Ob2.mk ?_ | refine Ex2.of (i + 1) ?_ ?_ | skip
    all_goals try ((conv => whnf); refine Ob.mk ?_)
    all_goals (try simp only [allP, side, Ctr.reads, etas]); all_goals repeat' (first | exact sp1 | refine And.intro ?_ ?_)
    all_goals (try simp only [hx, Ctr.reads, etas] at *)
    all_goals first | done | grind [mHalfAt, dRoad_iff]
  · have hl : i = l.length := by omega
    subst hl
    rw [List.drop_length, findL] at hm
    repeat' ((conv => whnf); first | refine toOb2 ?_ | refine And.intro (fun _ => ?_) (fun _ => ?_) | refine And.intro ?_ ?_ | refine toEx2 ?_ | intro _)
    all_goals try (exfalso; exact Nat.lt_irrefl _ (Nat.lt_of_lt_of_le (lt_of_dec (by assumption)) hge))
    all_goals first | refine Ob2.mk ?_ | refine Ex2.of (l.length + 1) ?_ ?_ | skip
    all_goals try ((conv => whnf); refine Ob.mk ?_)
    all_goals (try simp only [allP, side, Ctr.reads, etas]); all_goals repeat' (first | exact sp1 | refine And.intro ?_ ?_)
    all_goals (try simp only [Ctr.reads, etas] at *)
    all_goals first | done | grind [mHalfAt, dRoad_iff]
theorem h_spec_HalfsOk : Ctr.holds E 90 (.reads [aRow .half] [aBool] (fun ((l : List DHalf), _) => l.length ≤ 1073741824) fun ((l : List DHalf), _) => (mHalfsOk l, ())) := by
  refine fn_ok prgOk (gcons h_spec_l14Road (gcons h_spec_l14Num (gcons h_spec_HalfAt gnil))) Tryz.func90 rfl rfl rfl rfl ?_
  rintro ty ⟨(l : List DHalf), _⟩ (hp : l.length ≤ 1073741824)
  refine ⟨[(4, { X := Nat, inv := fun i => i ≤ l.length ∧ allI (pHalf l) (l.length - i) i = mHalfsOk l, mu := fun i => l.length - i, vk := [3], ov := fun i => [.a (.c (.leaf (.int (i : Int))))], bk := [], ob := fun i => [], rk := [], orr := fun i => [] })], ?_⟩
  repeat' ((conv => whnf); first | refine toOb2 ?_ | refine toY ?_ | refine And.intro (fun _ => ?_) (fun _ => ?_) | refine And.intro (toOb2 ?_) ?_ | refine And.intro (?_ : drawOk _ _ _ = true) ?_ | (refine And.intro ⟨?_, ?_⟩ ?_; fail) | intro _)
  (all_goals first | (refine Ob2.mk ?_; (try simp only [allP, side, Ctr.reads, etas] at *); (try simp only [nbls, imp_self, implies_true, and_self, and_true, true_and] at *); first | done | trivial | assumption | omega | grind [mHalfsOk]) | (show drawOk _ _ _ = true; exact rfl) | skip)
  conv => whnf
  refine And.intro ⟨(0 : Nat), Ob.mk ?_, ?_⟩ (fun (i : Nat) hi => ?_)
  · exact And.intro (Nat.zero_le _) (by grind [mHalfsOk])
  · conv => whnf
    refine Ob.mk ?_
    all_goals (try simp only [allP, side, Ctr.reads, etas]); all_goals repeat' (first | exact sp1 | refine And.intro ?_ ?_)
  obtain ⟨hi, hm⟩ := hi
  have hi : i ≤ l.length := hi
  have hm : allI (pHalf l) (l.length - i) i = mHalfsOk l := hm
  rcases Nat.lt_or_ge i l.length with hlt | hge
  · obtain ⟨x, hx, hxi, hd⟩ := at_step l i (ETy.zero .half) hlt
    have hg : gH l i = x := by rw [← hx, Int.toNat_natCast]
    rw [allI_step _ hlt] at hm
    have hw := w64_succ hlt (hp)
    clear hd
    repeat' ((conv => whnf); first | refine toOb2 ?_ | refine And.intro (fun _ => ?_) (fun _ => ?_) | refine And.intro ?_ ?_ | refine toEx2 ?_ | refine toY ?_ | intro _)
    all_goals try (exfalso; exact Nat.lt_irrefl _ (Nat.lt_of_lt_of_le hlt (ge_of_dec (by assumption))))
    all_goals first | refine Ob2.mk ?_ | refine Ex2.of (i + 1) ?_ ?_ | skip
    all_goals try ((conv => whnf); refine Ob.mk ?_)
    all_goals (try simp only [allP, side, Ctr.reads, etas]); all_goals repeat' (first | exact sp1 | refine And.intro ?_ ?_)
    all_goals (try simp only [hx, Ctr.reads, etas] at *)
    all_goals first | done | grind [mHalfsOk, pHalf, mNums, allL]
  · have hl : i = l.length := by omega
    subst hl
    rw [allI_end] at hm
    repeat' ((conv => whnf); first | refine toOb2 ?_ | refine And.intro (fun _ => ?_) (fun _ => ?_) | refine And.intro ?_ ?_ | refine toEx2 ?_ | refine toY ?_ | intro _)
    all_goals try (exfalso; exact Nat.lt_irrefl _ (Nat.lt_of_lt_of_le (lt_of_dec (by assumption)) hge))
    all_goals first | refine Ob2.mk ?_ | refine Ex2.of (l.length) ?_ ?_ | skip
    all_goals try ((conv => whnf); refine Ob.mk ?_)
    all_goals (try simp only [allP, side, Ctr.reads, etas]); all_goals repeat' (first | exact sp1 | refine And.intro ?_ ?_)
    all_goals (try simp only [Ctr.reads, etas] at *)
    all_goals first | done | grind [mHalfsOk, pHalf, mNums, allL]
theorem h_spec_OutOk : Ctr.holds E 92 (.reads [aOut] [aBool] (fun _ => True) fun ((o : DOut), _) => (mOutOk o, ())) := by
  refine fn_ok prgOk (gcons h_spec_l01In gnil) Tryz.func92 rfl rfl rfl rfl ?_
  rintro ty ⟨(o : DOut), _⟩ hp
  refine ⟨[], ?_⟩
  repeat' ((conv => whnf); first | refine toOb2 ?_ | refine And.intro (fun _ => ?_) (fun _ => ?_) | refine And.intro ?_ ?_ | refine toEx2 ?_ | refine toY ?_ | intro _)
  all_goals first | refine Ob2.mk ?_ | (show drawOk _ _ _ = true; exact rfl)
  all_goals (try simp only [allP, side, Ctr.reads, etas]); all_goals repeat' (first | exact sp1 | refine And.intro ?_ ?_)
  all_goals (try simp only [Ctr.reads, etas] at *)
  all_goals first | done | with_reducible assumption | with_reducible rfl | grind [mOutOk, mNum]
theorem h_spec_HeldOf : Ctr.holds E 55 (.reads [aPieces] [aInt] (fun ((p : DPieces), _) => p.list.length ≤ 1073741824) fun ((p : DPieces), _) => (mHeldOf p, ())) := by
  refine fn_ok prgOk gnil Tryz.func55 rfl rfl rfl rfl ?_
  rintro ty ⟨(p : DPieces), _⟩ (hp : p.list.length ≤ 1073741824)
  refine ⟨[(3, { X := Nat × Int, inv := fun x => x.1 ≤ p.list.length ∧ hdW (p.list.drop x.1) x.2 = mHeldOf p, mu := fun x => p.list.length - x.1, vk := [3, 4], ov := fun x => [.a (.c (.leaf (.int x.2))), .a (.c (.leaf (.int (x.1 : Int))))], bk := [], ob := fun x => [], rk := [], orr := fun x => [] })], ?_⟩
  repeat' ((conv => whnf); first | refine toOb2 ?_ | refine toY ?_ | refine And.intro (fun _ => ?_) (fun _ => ?_) | refine And.intro (toOb2 ?_) ?_ | refine And.intro (?_ : drawOk _ _ _ = true) ?_ | (refine And.intro ⟨?_, ?_⟩ ?_; fail) | intro _)
  (all_goals first | (refine Ob2.mk ?_; (try simp only [allP, side, Ctr.reads, etas] at *); (try simp only [nbls, imp_self, implies_true, and_self, and_true, true_and] at *); first | done | trivial | assumption | omega | grind []) | (show drawOk _ _ _ = true; exact rfl) | skip)
  conv => whnf
  refine And.intro ⟨((0, (p.ready.length : Int)) : Nat × Int), Ob.mk ?_, ?_⟩ (fun (x : Nat × Int) hi => ?_)
  · exact And.intro (Nat.zero_le _) rfl
  · conv => whnf
    refine Ob.mk ?_
    all_goals (try simp only [allP, side, Ctr.reads, etas]); all_goals repeat' (first | exact sp1 | refine And.intro ?_ ?_)
  obtain ⟨i, acc⟩ := x
  obtain ⟨hi, hm⟩ := hi
  have hi : i ≤ p.list.length := hi
  have hm : hdW (p.list.drop i) acc = mHeldOf p := hm
  rcases Nat.lt_or_ge i p.list.length with hlt | hge
  · obtain ⟨x, hx, hxi, hd⟩ := at_step p.list i (ETy.zero .piece) hlt
    rw [hd, hdW] at hm
    have hw := w64_succ hlt (hp)
    repeat' ((conv => whnf); first | refine toOb2 ?_ | refine And.intro (fun _ => ?_) (fun _ => ?_) | refine And.intro ?_ ?_ | refine toEx2 ?_ | intro _)
    all_goals try (exfalso; exact Nat.lt_irrefl _ (Nat.lt_of_lt_of_le hlt (ge_of_dec (by assumption))))
    all_goals first | refine Ob2.mk ?_ | refine Ex2.of ((i + 1, w64 (acc + (x.text.length : Int)))) ?_ ?_ | skip
    all_goals try ((conv => whnf); refine Ob.mk ?_)
    all_goals (try simp only [allP, side, Ctr.reads, etas]); all_goals repeat' (first | exact sp1 | refine And.intro ?_ ?_)
    all_goals (try simp only [hx, Ctr.reads, etas] at *)
    all_goals first | done | grind [mHeldOf]
  · have hl : i = p.list.length := by omega
    subst hl
    rw [List.drop_length, hdW] at hm
    repeat' ((conv => whnf); first | refine toOb2 ?_ | refine And.intro (fun _ => ?_) (fun _ => ?_) | refine And.intro ?_ ?_ | refine toEx2 ?_ | intro _)
    all_goals try (exfalso; exact Nat.lt_irrefl _ (Nat.lt_of_lt_of_le (lt_of_dec (by assumption)) hge))
    all_goals first | refine Ob2.mk ?_ | refine Ex2.of ((p.list.length, acc)) ?_ ?_ | skip
    all_goals try ((conv => whnf); refine Ob.mk ?_)
    all_goals (try simp only [allP, side, Ctr.reads, etas]); all_goals repeat' (first | exact sp1 | refine And.intro ?_ ?_)
    all_goals (try simp only [Ctr.reads, etas] at *)
    all_goals first | done | grind [mHeldOf]
theorem h_spec_NextOf : Ctr.holds E 63 (.reads [aPieces] [aInt] (fun _ => True) fun ((p : DPieces), _) => (mNextOf p, ())) := by
  refine fn_ok prgOk gnil Tryz.func63 rfl rfl rfl rfl ?_
  rintro ty ⟨(p : DPieces), _⟩ hp
  refine ⟨[], ?_⟩
  repeat' ((conv => whnf); first | refine toOb2 ?_ | refine And.intro (fun _ => ?_) (fun _ => ?_) | refine And.intro ?_ ?_ | refine toEx2 ?_ | intro _)
  all_goals first | refine Ob2.mk ?_ | (show drawOk _ _ _ = true; exact rfl)
  all_goals (try simp only [allP, side, Ctr.reads, etas]); all_goals repeat' (first | exact sp1 | refine And.intro ?_ ?_)
  all_goals (try simp only [Ctr.reads, etas] at *)
  all_goals first | done | with_reducible assumption | with_reducible rfl | grind [mNextOf]
theorem h_spec_PiecesOk : Ctr.holds E 93 (.reads [aPieces] [aBool] (fun ((p : DPieces), _) => p.list.length ≤ 1073741824) fun ((p : DPieces), _) => (mPiecesOk p, ())) := by
  refine fn_ok prgOk (gcons h_spec_l01In (gcons h_spec_HeldOf (gcons h_spec_NextOf gnil))) Tryz.func93 rfl rfl rfl rfl ?_
  rintro ty ⟨(p : DPieces), _⟩ (hp : p.list.length ≤ 1073741824)
  refine ⟨[(5, { X := Nat × Int, inv := fun x => x.1 ≤ p.list.length ∧ ordL (p.list.drop x.1) x.2 = ordL p.list (mNextOf p), mu := fun x => p.list.length - x.1, vk := [3, 4], ov := fun x => [.a (.c (.leaf (.int x.2))), .a (.c (.leaf (.int (x.1 : Int))))], bk := [], ob := fun x => [], rk := [], orr := fun x => [] })], ?_⟩
  repeat' ((conv => whnf); first | refine toOb2 ?_ | refine toY ?_ | refine And.intro (fun _ => ?_) (fun _ => ?_) | refine And.intro (toOb2 ?_) ?_ | refine And.intro (?_ : drawOk _ _ _ = true) ?_ | (refine And.intro ⟨?_, ?_⟩ ?_; fail) | intro _)
  (all_goals first | (refine Ob2.mk ?_; (try simp only [allP, side, Ctr.reads, etas] at *); (try simp only [nbls, imp_self, implies_true, and_self, and_true, true_and] at *); first | done | trivial | assumption | omega | grind [mPiecesOk, mNums, allL, mNum]) | (show drawOk _ _ _ = true; exact rfl) | skip)
  conv => whnf
  refine And.intro ⟨((0, mNextOf p) : Nat × Int), Ob.mk ?_, ?_⟩ (fun (x : Nat × Int) hi => ?_)
  · exact And.intro (Nat.zero_le _) rfl
  · conv => whnf
    refine Ob.mk ?_
    all_goals (try simp only [allP, side, Ctr.reads, etas]); all_goals repeat' (first | exact sp1 | refine And.intro ?_ ?_)
  obtain ⟨i, acc⟩ := x
  obtain ⟨hi, hm⟩ := hi
  have hi : i ≤ p.list.length := hi
  have hm : ordL (p.list.drop i) acc = ordL p.list (mNextOf p) := hm
  rcases Nat.lt_or_ge i p.list.length with hlt | hge
  · obtain ⟨x, hx, hxi, hd⟩ := at_step p.list i (ETy.zero .piece) hlt
    rw [hd, ordL] at hm
    have hw := w64_succ hlt (hp)
    repeat' ((conv => whnf); first | refine toOb2 ?_ | refine And.intro (fun _ => ?_) (fun _ => ?_) | refine And.intro ?_ ?_ | refine toEx2 ?_ | refine toY ?_ | intro _)
    all_goals try (exfalso; exact Nat.lt_irrefl _ (Nat.lt_of_lt_of_le hlt (ge_of_dec (by assumption))))
    all_goals first | refine Ob2.mk ?_ | refine Ex2.of ((i + 1, w64 (x.pos + (x.text.length : Int)))) ?_ ?_ | skip
    all_goals try ((conv => whnf); refine Ob.mk ?_)
    all_goals (try simp only [allP, side, Ctr.reads, etas]); all_goals repeat' (first | exact sp1 | refine And.intro ?_ ?_)
    all_goals (try simp only [hx, Ctr.reads, etas] at *)
    all_goals first | done | grind [mPiecesOk, pOrd, mNums, allL, mNum]
  · have hl : i = p.list.length := by omega
    subst hl
    rw [List.drop_length, ordL] at hm
    repeat' ((conv => whnf); first | refine toOb2 ?_ | refine And.intro (fun _ => ?_) (fun _ => ?_) | refine And.intro ?_ ?_ | refine toEx2 ?_ | refine toY ?_ | intro _)
    all_goals try (exfalso; exact Nat.lt_irrefl _ (Nat.lt_of_lt_of_le (lt_of_dec (by assumption)) hge))
    all_goals first | refine Ob2.mk ?_ | refine Ex2.of ((p.list.length, acc)) ?_ ?_ | skip
    all_goals try ((conv => whnf); refine Ob.mk ?_)
    all_goals (try simp only [allP, side, Ctr.reads, etas]); all_goals repeat' (first | exact sp1 | refine And.intro ?_ ?_)
    all_goals (try simp only [Ctr.reads, etas] at *)
    all_goals first | done | grind [mPiecesOk, pOrd, mNums, allL, mNum]
theorem h_spec_l17Ids : Ctr.holds E 96 (.reads [aRow .int, aRow .addr] [aBool] (fun ((l : List Int), (t : List DAddr), _) => l.length ≤ 1073741824 ∧ t.length ≤ 1073741824) fun ((l : List Int), (t : List DAddr), _) => (mGone l t, ())) := by
  refine fn_ok prgOk (gcons h_spec_l01In (gcons h_spec_AddrAt gnil)) Tryz.func96 rfl rfl rfl rfl ?_
  rintro ty ⟨(l : List Int), (t : List DAddr), _⟩ (hp : l.length ≤ 1073741824 ∧ t.length ≤ 1073741824)
  obtain ⟨hp, hp2⟩ := hp
  refine ⟨[(2, { X := Nat, inv := fun i => i ≤ l.length ∧ allI (pGone l t) (l.length - i) i = mGone l t, mu := fun i => l.length - i, vk := [5], ov := fun i => [.a (.c (.leaf (.int (i : Int))))], bk := [], ob := fun i => [], rk := [], orr := fun i => [] })], ?_⟩
  conv => whnf
  refine And.intro ⟨(0 : Nat), Ob.mk ?_, ?_⟩ (fun (i : Nat) hi => ?_)
  · exact And.intro (Nat.zero_le _) rfl
  · conv => whnf
    refine Ob.mk ?_
    all_goals (try simp only [allP, side, Ctr.reads, etas]); all_goals repeat' (first | exact sp1 | refine And.intro ?_ ?_)
  obtain ⟨hi, hm⟩ := hi
  have hi : i ≤ l.length := hi
  have hm : allI (pGone l t) (l.length - i) i = mGone l t := hm
  rcases Nat.lt_or_ge i l.length with hlt | hge
  · obtain ⟨x, hx, hxi, hd⟩ := at_step l i (ETy.zero .int) hlt
    have hg : l.getD i (ETy.zero .int) = x := by rw [← hx, Int.toNat_natCast]
    rw [allI_step _ hlt] at hm
    have hw := w64_succ hlt (hp)
    clear hd
    have hw2 : 0 < i → (w64 ((i : Int) - 1)).toNat = i - 1 := fun h => by rw [w64_id (by omega) (by omega)]; omega
    have hw3 : 0 < i → 0 ≤ w64 ((i : Int) - 1) ∧ w64 ((i : Int) - 1) < (l.length : Int) := fun h => by rw [w64_id (by omega) (by omega)]; omega
    repeat' ((conv => whnf); first | refine toOb2 ?_ | refine And.intro (fun _ => ?_) (fun _ => ?_) | refine And.intro ?_ ?_ | refine toEx2 ?_ | refine toY ?_ | intro _)
    all_goals try (exfalso; exact Nat.lt_irrefl _ (Nat.lt_of_lt_of_le hlt (ge_of_dec (by assumption))))
    all_goals first | refine Ob2.mk ?_ | refine Ex2.of (i + 1) ?_ ?_ | skip
    all_goals try ((conv => whnf); refine Ob.mk ?_)
    all_goals (try simp only [allP, side, Ctr.reads, etas]); all_goals repeat' (first | exact sp1 | refine And.intro ?_ ?_)
    all_goals (try simp only [hx, Ctr.reads, etas] at *)
    all_goals first | done | grind [mGone, pGone, pId, pRise]
  · have hl : i = l.length := by omega
    subst hl
    rw [allI_end] at hm
    repeat' ((conv => whnf); first | refine toOb2 ?_ | refine And.intro (fun _ => ?_) (fun _ => ?_) | refine And.intro ?_ ?_ | refine toEx2 ?_ | refine toY ?_ | intro _)
    all_goals try (exfalso; exact Nat.lt_irrefl _ (Nat.lt_of_lt_of_le (lt_of_dec (by assumption)) hge))
    all_goals first | refine Ob2.mk ?_ | refine Ex2.of (l.length) ?_ ?_ | skip
    all_goals try ((conv => whnf); refine Ob.mk ?_)
    all_goals (try simp only [allP, side, Ctr.reads, etas]); all_goals repeat' (first | exact sp1 | refine And.intro ?_ ?_)
    all_goals (try simp only [Ctr.reads, etas] at *)
    all_goals first | done | grind [mGone, pGone, pId, pRise]
theorem h_spec_EndOk : Ctr.holds E 17 (.reads [aEnd] [aBool] (fun ((e : DEnd), _) => e.B) fun ((e : DEnd), _) => (mEndOk e, ())) := by
  refine fn_ok prgOk (gcons h_spec_l01In (gcons h_spec_PolicyOk (gcons h_spec_AddrsOk (gcons h_spec_HalfsOk (gcons h_spec_BucketOk (gcons h_spec_OutOk (gcons h_spec_PiecesOk (gcons h_spec_SubAt (gcons h_spec_l14Road (gcons h_spec_l14Num (gcons h_spec_l17Ids gnil))))))))))) Tryz.func17 rfl rfl rfl rfl ?_
  rintro ty ⟨(e : DEnd), _⟩ (hp : e.B)
  have hB := hp
  obtain ⟨hb1, hb2, hb3, hb4, hb5, hb6, hb7⟩ := hp
  refine ⟨[(4, { X := Nat, inv := fun i => i ≤ e.subs.length ∧ allI (pSubOk e) (e.subs.length - i) i = allI (pSubOk e) e.subs.length 0, mu := fun i => e.subs.length - i, vk := [3], ov := fun i => [.a (.c (.leaf (.int (i : Int))))], bk := [], ob := fun i => [], rk := [], orr := fun i => [] })], ?_⟩
  repeat' ((conv => whnf); first | refine toOb2 ?_ | refine toY ?_ | refine And.intro (fun _ => ?_) (fun _ => ?_) | refine And.intro (toOb2 ?_) ?_ | refine And.intro (?_ : drawOk _ _ _ = true) ?_ | (refine And.intro ⟨?_, ?_⟩ ?_; fail) | intro _)
  (all_goals first | (refine Ob2.mk ?_; (try simp only [allP, side, Ctr.reads, etas] at *); (try simp only [nbls, imp_self, implies_true, and_self, and_true, true_and] at *); first | done | trivial | assumption | omega | grind [mEndOk, mEndOk0, mEndOk1, mNums, allL]) | (show drawOk _ _ _ = true; exact rfl) | skip)
  conv => whnf
  refine And.intro ⟨(0 : Nat), Ob.mk ?_, ?_⟩ (fun (i : Nat) hi => ?_)
  · exact And.intro (Nat.zero_le _) rfl
  · conv => whnf
    refine Ob.mk ?_
    all_goals (try simp only [allP, side, Ctr.reads, etas]); all_goals repeat' (first | exact sp1 | refine And.intro ?_ ?_)
  obtain ⟨hi, hm⟩ := hi
  have hi : i ≤ e.subs.length := hi
  have hm : allI (pSubOk e) (e.subs.length - i) i = allI (pSubOk e) e.subs.length 0 := hm
  rcases Nat.lt_or_ge i e.subs.length with hlt | hge
  · obtain ⟨x, hx, hxi, hd⟩ := at_step e.subs i (ETy.zero .sub) hlt
    have hg : gS e.subs i = x := by rw [← hx, Int.toNat_natCast]
    rw [allI_step _ hlt] at hm
    have hw := w64_succ hlt (hb3)
    clear hd
    repeat' ((conv => whnf); first | refine toOb2 ?_ | refine And.intro (fun _ => ?_) (fun _ => ?_) | refine And.intro ?_ ?_ | refine toEx2 ?_ | refine toY ?_ | intro _)
    all_goals try (exfalso; exact Nat.lt_irrefl _ (Nat.lt_of_lt_of_le hlt (ge_of_dec (by assumption))))
    all_goals first | refine Ob2.mk ?_ | refine Ex2.of (i + 1) ?_ ?_ | skip
    all_goals try ((conv => whnf); refine Ob.mk ?_)
    all_goals (try simp only [allP, side, Ctr.reads, etas]); all_goals repeat' (first | exact sp1 | refine And.intro ?_ ?_)
    all_goals (try simp only [hx, Ctr.reads, etas] at *)
    all_goals (try simp only [nbls] at *)
    all_goals first | done | grind [pSubOk, mEndOk, mEndOk0, mEndOk1, mNums, allL]
  · have hl : i = e.subs.length := by omega
    subst hl
    rw [allI_end] at hm
    repeat' ((conv => whnf); first | refine toOb2 ?_ | refine And.intro (fun _ => ?_) (fun _ => ?_) | refine And.intro ?_ ?_ | refine toEx2 ?_ | refine toY ?_ | intro _)
    all_goals try (exfalso; exact Nat.lt_irrefl _ (Nat.lt_of_lt_of_le (lt_of_dec (by assumption)) hge))
    all_goals first | refine Ob2.mk ?_ | refine Ex2.of (e.subs.length) ?_ ?_ | skip
    all_goals try ((conv => whnf); refine Ob.mk ?_)
    all_goals (try simp only [allP, side, Ctr.reads, etas]); all_goals repeat' (first | exact sp1 | refine And.intro ?_ ?_)
    all_goals (try simp only [Ctr.reads, etas] at *)
    all_goals (try simp only [nbls] at *)
    all_goals first | done | grind [mEndOk, mEndOk0, mEndOk1, mNums, allL]
theorem h_spec_Drawn : Ctr.holds E 211 (.reads [aEnd] [aEnd, aInt] (fun ((e : DEnd), _) => e.B) fun ((e : DEnd), _) => ((mDrawn e).1, (mDrawn e).2, ())) := by
  refine fn_ok prgOk (gcons h_spec_l17Copy (gcons h_spec_l01In gnil)) Tryz.func211 rfl rfl rfl rfl ?_
  rintro ty ⟨(e : DEnd), _⟩ (hp : e.B)
  refine ⟨[], ?_⟩
  repeat' ((conv => whnf); first | refine toOb2 ?_ | refine And.intro (fun _ => ?_) (fun _ => ?_) | refine And.intro ?_ ?_ | refine toEx2 ?_ | refine toY ?_ | intro _)
  all_goals first | refine Ob2.mk ?_ | (show drawOk _ _ _ = true; exact rfl)
  all_goals (try simp only [allP, side, Ctr.reads, etas]); all_goals repeat' (first | exact sp1 | refine And.intro ?_ ?_)
  all_goals (try simp only [Ctr.reads, etas] at *)
  all_goals first | done | with_reducible assumption | with_reducible rfl | grind [mDrawn]
theorem h_spec_TokenFor : Ctr.holds E 179 (.reads [aInt] [aInt] (fun _ => True) fun ((s : Int), _) => (mTokenFor s, ())) := by
  refine fn_ok prgOk (gcons h_spec_l01In gnil) Tryz.func179 rfl rfl rfl rfl ?_
  rintro ty ⟨(s : Int), _⟩ hp
  refine ⟨[], ?_⟩
  repeat' ((conv => whnf); first | refine toOb2 ?_ | refine And.intro (fun _ => ?_) (fun _ => ?_) | refine And.intro ?_ ?_ | refine toEx2 ?_ | refine toY ?_ | intro _)
  all_goals first | refine Ob2.mk ?_ | (show drawOk _ _ _ = true; exact rfl)
  all_goals (try simp only [allP, side, Ctr.reads, etas]); all_goals repeat' (first | exact sp1 | refine And.intro ?_ ?_)
  all_goals (try simp only [Ctr.reads, etas] at *)
  all_goals first | done | with_reducible assumption | with_reducible rfl | grind [mTokenFor]
theorem h_impl_within : Ctr.holds E 117 (.reads [aInt, aInt, aInt] [aBool] (fun _ => True) fun ((n : Int), (l : Int), (h : Int), _) => (mIn n l h, ())) := by
  refine fn_ok prgOk gnil Tryz.func117 rfl rfl rfl rfl ?_
  rintro ty ⟨(n : Int), (l : Int), (h : Int), _⟩ hp
  refine ⟨[], ?_⟩
  repeat' ((conv => whnf); first | refine toOb2 ?_ | refine And.intro (fun _ => ?_) (fun _ => ?_) | refine And.intro ?_ ?_ | refine toEx2 ?_ | intro _)
  all_goals first | refine Ob2.mk ?_ | (show drawOk _ _ _ = true; exact rfl)
  all_goals (try simp only [allP, side, Ctr.reads, etas]); all_goals repeat' (first | exact sp1 | refine And.intro ?_ ?_)
  all_goals (try simp only [Ctr.reads, etas] at *)
  all_goals first | done | with_reducible assumption | with_reducible rfl | grind [mIn]
theorem h_impl_PolicyOk : Ctr.holds E 133 (.reads [aPolicy] [aBool] (fun _ => True) fun ((p : DPolicy), _) => (mPolicyOk p, ())) := by
  refine fn_ok prgOk (gcons h_impl_within gnil) Tryz.func133 rfl rfl rfl rfl ?_
  rintro ty ⟨(p : DPolicy), _⟩ hp
  refine ⟨[], ?_⟩
  repeat' ((conv => whnf); first | refine toOb2 ?_ | refine And.intro (fun _ => ?_) (fun _ => ?_) | refine And.intro ?_ ?_ | refine toEx2 ?_ | refine toY ?_ | intro _)
  all_goals first | refine Ob2.mk ?_ | (show drawOk _ _ _ = true; exact rfl)
  all_goals (try simp only [allP, side, Ctr.reads, etas]); all_goals repeat' (first | exact sp1 | refine And.intro ?_ ?_)
  all_goals (try simp only [Ctr.reads, etas] at *)
  all_goals first | done | with_reducible assumption | with_reducible rfl | grind [mPolicyOk]
theorem h_impl_AddrsOk : Ctr.holds E 168 (.reads [aRow .addr] [aBool] (fun ((l : List DAddr), _) => l.length ≤ 1073741824) fun ((l : List DAddr), _) => (mAddrsOk l, ())) := by
  refine fn_ok prgOk (gcons h_impl_within gnil) Tryz.func168 rfl rfl rfl rfl ?_
  rintro ty ⟨(l : List DAddr), _⟩ (hp : l.length ≤ 1073741824)
  refine ⟨[(4, { X := Nat, inv := fun i => i ≤ l.length ∧ allI (pAddr l) (l.length - i) i = allI (pAddr l) l.length 0, mu := fun i => l.length - i, vk := [12], ov := fun i => [.a (.c (.leaf (.int (i : Int))))], bk := [], ob := fun i => [], rk := [], orr := fun i => [] }), (9, { X := Nat × Nat, inv := fun x => x.1 < l.length ∧ x.2 ≤ x.1 ∧ allI (pDiff l x.1) (x.1 - x.2) x.2 = allI (pDiff l x.1) x.1 0, mu := fun x => x.1 - x.2, vk := [46], ov := fun x => [.a (.c (.leaf (.int (x.2 : Int))))], bk := [], ob := fun x => [], rk := [], orr := fun x => [], rel := some fun a b => a.1 = b.1 })], ?_⟩
  repeat' ((conv => whnf); first | refine toOb2 ?_ | refine toY ?_ | refine And.intro (fun _ => ?_) (fun _ => ?_) | refine And.intro (toOb2 ?_) ?_ | refine And.intro (?_ : drawOk _ _ _ = true) ?_ | (refine And.intro ⟨?_, ?_⟩ ?_; fail) | intro _)
  (all_goals first | (refine Ob2.mk ?_; (try simp only [allP, side, Ctr.reads, etas] at *); (try simp only [nbls, imp_self, implies_true, and_self, and_true, true_and] at *); first | done | trivial | assumption | omega | grind [mAddrsOk]) | (show drawOk _ _ _ = true; exact rfl) | skip)
  conv => whnf
  refine And.intro ⟨(0 : Nat), Ob.mk ?_, ?_⟩ (fun (i : Nat) hi => ?_)
  · exact And.intro (Nat.zero_le _) rfl
  · conv => whnf
    refine Ob.mk ?_
    all_goals (try simp only [allP, side, Ctr.reads, etas]); all_goals repeat' (first | exact sp1 | refine And.intro ?_ ?_)
  obtain ⟨hi, hm⟩ := hi
  have hi : i ≤ l.length := hi
  have hm : allI (pAddr l) (l.length - i) i = allI (pAddr l) l.length 0 := hm
  rcases Nat.lt_or_ge i l.length with hlt | hge
  · have hw := w64_succ hlt hp
    have hw2 : 0 < i → (w64 ((i : Int) - 1)).toNat = i - 1 := fun h => by rw [w64_id (by omega) (by omega)]; omega
    have hw3 : 0 < i → 0 ≤ w64 ((i : Int) - 1) ∧ w64 ((i : Int) - 1) < (l.length : Int) := fun h => by rw [w64_id (by omega) (by omega)]; omega
    repeat' ((conv => whnf); first | refine toOb2 ?_ | refine toY ?_ | refine And.intro (fun _ => ?_) (fun _ => ?_) | refine And.intro (toOb2 ?_) ?_ | refine And.intro (?_ : drawOk _ _ _ = true) ?_ | (refine And.intro ⟨?_, ?_⟩ ?_; fail) | intro _)
    all_goals try (exfalso; exact Nat.lt_irrefl _ (Nat.lt_of_lt_of_le hlt (ge_of_dec (by assumption))))
    all_goals first | (refine Ob2.mk ?_; (try simp only [allP, side, Ctr.reads, etas, Int.toNat_natCast] at *); first | done | trivial | assumption | (rw [allI_step _ hlt] at hm; grind [pAddr, pAddr0, mAddrsOk])) | (show drawOk _ _ _ = true; exact rfl) | skip
    conv => whnf
    rename_i hcond
    have hp0 : pAddr0 l i = true := by (first | (simp only [Ctr.reads, Int.toNat_natCast] at *; grind [pAddr0]) | grind [pAddr0])
    clear hcond
    refine ⟨((i, 0) : Nat × Nat), And.intro (And.intro (Ob.mk ?_) ?_) (fun (x : Nat × Nat) hx hr => ?_)⟩
    · exact And.intro (And.intro hlt (And.intro (Nat.zero_le _) rfl)) rfl
    · conv => whnf
      refine Ob.mk ?_
      all_goals (try simp only [allP, side, Ctr.reads, etas]); all_goals repeat' (first | exact sp1 | refine And.intro ?_ ?_)
      all_goals first | done | (simp; done) | (simp; omega)
    obtain ⟨k, j⟩ := x
    have hr : i = k := hr
    subst hr
    obtain ⟨_, hj, hmj⟩ := hx
    have hj : j ≤ i := hj
    have hmj : allI (pDiff l i) (i - j) j = allI (pDiff l i) i 0 := hmj
    have hwj := w64_succ (Nat.lt_of_le_of_lt hj hlt) hp
    have htl : (l.take i).length = i := by simp; omega
    have hgt : j < i → (l.take i).getD j (ETy.zero .addr) = gA l j := fun h => by simp [gA, List.getD, List.getElem?_take, h]
    clear hw2 hw3
    rcases Nat.lt_or_ge j i with hlj | hgj
    · rw [allI_step _ hlj] at hmj
      rw [allI_step _ hlt] at hm
      repeat' ((conv => whnf); first | refine toOb2 ?_ | refine And.intro (fun _ => ?_) (fun _ => ?_) | refine And.intro ?_ ?_ | refine toEx2 ?_ | refine toY ?_ | intro _)
      all_goals first | refine Ob2.mk ?_ | refine Ex2.of ((i, j + 1) : Nat × Nat) ?_ ?_ | refine Ex2.of (i + 1) ?_ ?_ | skip
      all_goals try ((conv => whnf); refine Ob.mk ?_)
      all_goals (try simp only [allP, side, Ctr.reads, etas]); all_goals repeat' (first | exact sp1 | refine And.intro ?_ ?_)
      all_goals (try simp only [htl, Int.toNat_natCast, Ctr.reads, etas] at *)
      all_goals first | done | omega | grind [pAddr, pDiff, mAddrsOk]
    · have hl : j = i := by omega
      subst hl
      rw [allI_end] at hmj
      rw [allI_step _ hlt] at hm
      have hpa : pAddr l j = true := by simp [pAddr, hp0, ← hmj]
      rw [if_pos hpa] at hm
      clear hmj hp0 hgt
      repeat' ((conv => whnf); first | refine toOb2 ?_ | refine And.intro (fun _ => ?_) (fun _ => ?_) | refine And.intro ?_ ?_ | refine toEx2 ?_ | refine toY ?_ | intro _)
      all_goals try (exfalso; exact Nat.lt_irrefl j (lt_of_dec (i := j) (n := j) (by assumption)))
      all_goals first | refine Ob2.mk ?_ | refine Ex2.of ((j, j) : Nat × Nat) ?_ ?_ | refine Ex2.of (j + 1) ?_ ?_ | skip
      all_goals try ((conv => whnf); refine Ob.mk ?_)
      all_goals (try simp only [allP, side, Ctr.reads, etas]); all_goals repeat' (first | exact sp1 | refine And.intro ?_ ?_)
      all_goals (try simp only [htl, Int.toNat_natCast, Ctr.reads, etas] at *)
      all_goals first | done | omega | (exact And.intro (And.intro hlt hm) (by omega)) | (exfalso; simp at *; omega) | grind
  · have hl : i = l.length := by omega
    subst hl
    rw [allI_end] at hm
    repeat' ((conv => whnf); first | refine toOb2 ?_ | refine And.intro (fun _ => ?_) (fun _ => ?_) | refine And.intro ?_ ?_ | refine toEx2 ?_ | refine toY ?_ | intro _)
    all_goals try (exfalso; exact Nat.lt_irrefl _ (Nat.lt_of_lt_of_le (lt_of_dec (by assumption)) hge))
    all_goals first | refine Ob2.mk ?_ | refine Ex2.of (l.length) ?_ ?_ | skip
    all_goals try ((conv => whnf); refine Ob.mk ?_)
    all_goals (try simp only [allP, side, Ctr.reads, etas]); all_goals repeat' (first | exact sp1 | refine And.intro ?_ ?_)
    all_goals (try simp only [Ctr.reads, etas] at *)
    all_goals first | done | grind [mAddrsOk]
theorem h_impl_HalfAt : Ctr.holds E 141 (.reads [aRow .half, aRoad] [aInt] (fun ((l : List DHalf), _) => l.length ≤ 1073741824) fun ((l : List DHalf), (r : DRoad), _) => (mHalfAt l r, ())) := by
  refine fn_ok prgOk gnil Tryz.func141 rfl rfl rfl rfl ?_
  rintro ty ⟨(l : List DHalf), (r : DRoad), _⟩ (hp : l.length ≤ 1073741824)
  refine ⟨[(2, { X := Nat, inv := fun i => i ≤ l.length ∧ findL (fun h : DHalf => decide (h.road = r)) (l.drop i) i = mHalfAt l r, mu := fun i => l.length - i, vk := [9], ov := fun i => [.a (.c (.leaf (.int (i : Int))))], bk := [], ob := fun i => [], rk := [], orr := fun i => [] })], ?_⟩
  conv => whnf
  refine And.intro ⟨(0 : Nat), Ob.mk ?_, ?_⟩ (fun (i : Nat) hi => ?_)
  · exact And.intro (Nat.zero_le _) rfl
  · conv => whnf
    refine Ob.mk ?_
    all_goals (try simp only [allP, side, Ctr.reads, etas]); all_goals repeat' (first | exact sp1 | refine And.intro ?_ ?_)
  obtain ⟨hi, hm⟩ := hi
  have hi : i ≤ l.length := hi
  have hm : findL (fun h : DHalf => decide (h.road = r)) (l.drop i) i = mHalfAt l r := hm
  rcases Nat.lt_or_ge i l.length with hlt | hge
  · obtain ⟨x, hx, hxi, hd⟩ := at_step l i (ETy.zero .half) hlt
    rw [hd, findL] at hm
    have hw := w64_succ hlt (hp)
    repeat' ((conv => whnf); first | refine toOb2 ?_ | refine And.intro (fun _ => ?_) (fun _ => ?_) | refine And.intro ?_ ?_ | refine toEx2 ?_ | intro _)
    all_goals try (exfalso; exact Nat.lt_irrefl _ (Nat.lt_of_lt_of_le hlt (ge_of_dec (by assumption))))
    all_goals first | refine Ob2.mk ?_ | refine Ex2.of (i + 1) ?_ ?_ | skip
    all_goals try ((conv => whnf); refine Ob.mk ?_)
    all_goals (try simp only [allP, side, Ctr.reads, etas]); all_goals repeat' (first | exact sp1 | refine And.intro ?_ ?_)
    all_goals (try simp only [hx, Ctr.reads, etas] at *)
    all_goals first | done | grind [mHalfAt, dRoad_iff]
  · have hl : i = l.length := by omega
    subst hl
    rw [List.drop_length, findL] at hm
    repeat' ((conv => whnf); first | refine toOb2 ?_ | refine And.intro (fun _ => ?_) (fun _ => ?_) | refine And.intro ?_ ?_ | refine toEx2 ?_ | intro _)
    all_goals try (exfalso; exact Nat.lt_irrefl _ (Nat.lt_of_lt_of_le (lt_of_dec (by assumption)) hge))
    all_goals first | refine Ob2.mk ?_ | refine Ex2.of (l.length + 1) ?_ ?_ | skip
    all_goals try ((conv => whnf); refine Ob.mk ?_)
    all_goals (try simp only [allP, side, Ctr.reads, etas]); all_goals repeat' (first | exact sp1 | refine And.intro ?_ ?_)
    all_goals (try simp only [Ctr.reads, etas] at *)
    all_goals first | done | grind [mHalfAt, dRoad_iff]
theorem h_impl_isNumber : Ctr.holds E 174 (.reads [aRow .int] [aBool] (fun ((l : List Int), _) => l.length ≤ 1073741824) fun ((l : List Int), _) => (mNums l, ())) := by
  refine fn_ok prgOk (gcons h_impl_within gnil) Tryz.func174 rfl rfl rfl rfl ?_
  rintro ty ⟨(l : List Int), _⟩ (hp : l.length ≤ 1073741824)
  refine ⟨[(2, { X := Nat, inv := fun i => i ≤ l.length ∧ allL mNum (l.drop i) = mNums l, mu := fun i => l.length - i, vk := [7], ov := fun i => [.a (.c (.leaf (.int (i : Int))))], bk := [], ob := fun i => [], rk := [], orr := fun i => [] })], ?_⟩
  conv => whnf
  refine And.intro ⟨(0 : Nat), Ob.mk ?_, ?_⟩ (fun (i : Nat) hi => ?_)
  · exact And.intro (Nat.zero_le _) rfl
  · conv => whnf
    refine Ob.mk ?_
    all_goals (try simp only [allP, side, Ctr.reads, etas]); all_goals repeat' (first | exact sp1 | refine And.intro ?_ ?_)
  obtain ⟨hi, hm⟩ := hi
  have hi : i ≤ l.length := hi
  have hm : allL mNum (l.drop i) = mNums l := hm
  rcases Nat.lt_or_ge i l.length with hlt | hge
  · obtain ⟨x, hx, hxi, hd⟩ := at_step l i (ETy.zero .int) hlt
    rw [hd, allL] at hm
    have hw := w64_succ hlt (hp)
    repeat' ((conv => whnf); first | refine toOb2 ?_ | refine And.intro (fun _ => ?_) (fun _ => ?_) | refine And.intro ?_ ?_ | refine toEx2 ?_ | refine toY ?_ | intro _)
    all_goals try (exfalso; exact Nat.lt_irrefl _ (Nat.lt_of_lt_of_le hlt (ge_of_dec (by assumption))))
    all_goals first | refine Ob2.mk ?_ | refine Ex2.of (i + 1) ?_ ?_ | skip
    all_goals try ((conv => whnf); refine Ob.mk ?_)
    all_goals (try simp only [allP, side, Ctr.reads, etas]); all_goals repeat' (first | exact sp1 | refine And.intro ?_ ?_)
    all_goals (try simp only [hx, Ctr.reads, etas] at *)
    all_goals first | done | grind [mNum, mNums]
  · have hl : i = l.length := by omega
    subst hl
    rw [List.drop_length, allL] at hm
    repeat' ((conv => whnf); first | refine toOb2 ?_ | refine And.intro (fun _ => ?_) (fun _ => ?_) | refine And.intro ?_ ?_ | refine toEx2 ?_ | refine toY ?_ | intro _)
    all_goals try (exfalso; exact Nat.lt_irrefl _ (Nat.lt_of_lt_of_le (lt_of_dec (by assumption)) hge))
    all_goals first | refine Ob2.mk ?_ | refine Ex2.of (l.length + 1) ?_ ?_ | skip
    all_goals try ((conv => whnf); refine Ob.mk ?_)
    all_goals (try simp only [allP, side, Ctr.reads, etas]); all_goals repeat' (first | exact sp1 | refine And.intro ?_ ?_)
    all_goals (try simp only [Ctr.reads, etas] at *)
    all_goals first | done | grind [mNum, mNums]
theorem h_impl_roadIsNumber : Ctr.holds E 134 (.reads [aRoad] [aBool] (fun _ => True) fun ((r : DRoad), _) => (mRoadNum r, ())) := by
  refine fn_ok prgOk (gcons h_impl_isNumber gnil) Tryz.func134 rfl rfl rfl rfl ?_
  rintro ty ⟨(r : DRoad), _⟩ hp
  refine ⟨[], ?_⟩
  repeat' ((conv => whnf); first | refine toOb2 ?_ | refine And.intro (fun _ => ?_) (fun _ => ?_) | refine And.intro ?_ ?_ | refine toEx2 ?_ | refine toY ?_ | intro _)
  all_goals first | refine Ob2.mk ?_ | (show drawOk _ _ _ = true; exact rfl)
  all_goals (try simp only [allP, side, Ctr.reads, etas]); all_goals repeat' (first | exact sp1 | refine And.intro ?_ ?_)
  all_goals (try simp only [Ctr.reads, etas] at *)
  all_goals first | done | with_reducible assumption | with_reducible rfl | grind [mRoadNum, mNums, allL]
theorem h_impl_HalfsOk : Ctr.holds E 169 (.reads [aRow .half] [aBool] (fun ((l : List DHalf), _) => l.length ≤ 1073741824) fun ((l : List DHalf), _) => (mHalfsOk l, ())) := by
  refine fn_ok prgOk (gcons h_impl_HalfAt (gcons h_impl_roadIsNumber (gcons h_impl_isNumber gnil))) Tryz.func169 rfl rfl rfl rfl ?_
  rintro ty ⟨(l : List DHalf), _⟩ (hp : l.length ≤ 1073741824)
  refine ⟨[(4, { X := Nat, inv := fun i => i ≤ l.length ∧ allI (pHalf l) (l.length - i) i = mHalfsOk l, mu := fun i => l.length - i, vk := [10], ov := fun i => [.a (.c (.leaf (.int (i : Int))))], bk := [], ob := fun i => [], rk := [], orr := fun i => [] })], ?_⟩
  repeat' ((conv => whnf); first | refine toOb2 ?_ | refine toY ?_ | refine And.intro (fun _ => ?_) (fun _ => ?_) | refine And.intro (toOb2 ?_) ?_ | refine And.intro (?_ : drawOk _ _ _ = true) ?_ | (refine And.intro ⟨?_, ?_⟩ ?_; fail) | intro _)
  (all_goals first | (refine Ob2.mk ?_; (try simp only [allP, side, Ctr.reads, etas] at *); (try simp only [nbls, imp_self, implies_true, and_self, and_true, true_and] at *); first | done | trivial | assumption | omega | grind [mHalfsOk]) | (show drawOk _ _ _ = true; exact rfl) | skip)
  conv => whnf
  refine And.intro ⟨(0 : Nat), Ob.mk ?_, ?_⟩ (fun (i : Nat) hi => ?_)
  · exact And.intro (Nat.zero_le _) (by grind [mHalfsOk])
  · conv => whnf
    refine Ob.mk ?_
    all_goals (try simp only [allP, side, Ctr.reads, etas]); all_goals repeat' (first | exact sp1 | refine And.intro ?_ ?_)
  obtain ⟨hi, hm⟩ := hi
  have hi : i ≤ l.length := hi
  have hm : allI (pHalf l) (l.length - i) i = mHalfsOk l := hm
  rcases Nat.lt_or_ge i l.length with hlt | hge
  · obtain ⟨x, hx, hxi, hd⟩ := at_step l i (ETy.zero .half) hlt
    have hg : gH l i = x := by rw [← hx, Int.toNat_natCast]
    rw [allI_step _ hlt] at hm
    have hw := w64_succ hlt (hp)
    clear hd
    repeat' ((conv => whnf); first | refine toOb2 ?_ | refine And.intro (fun _ => ?_) (fun _ => ?_) | refine And.intro ?_ ?_ | refine toEx2 ?_ | refine toY ?_ | intro _)
    all_goals try (exfalso; exact Nat.lt_irrefl _ (Nat.lt_of_lt_of_le hlt (ge_of_dec (by assumption))))
    all_goals first | refine Ob2.mk ?_ | refine Ex2.of (i + 1) ?_ ?_ | skip
    all_goals try ((conv => whnf); refine Ob.mk ?_)
    all_goals (try simp only [allP, side, Ctr.reads, etas]); all_goals repeat' (first | exact sp1 | refine And.intro ?_ ?_)
    all_goals (try simp only [hx, Ctr.reads, etas] at *)
    all_goals first | done | grind [mHalfsOk, pHalf, mNums, allL]
  · have hl : i = l.length := by omega
    subst hl
    rw [allI_end] at hm
    repeat' ((conv => whnf); first | refine toOb2 ?_ | refine And.intro (fun _ => ?_) (fun _ => ?_) | refine And.intro ?_ ?_ | refine toEx2 ?_ | refine toY ?_ | intro _)
    all_goals try (exfalso; exact Nat.lt_irrefl _ (Nat.lt_of_lt_of_le (lt_of_dec (by assumption)) hge))
    all_goals first | refine Ob2.mk ?_ | refine Ex2.of (l.length) ?_ ?_ | skip
    all_goals try ((conv => whnf); refine Ob.mk ?_)
    all_goals (try simp only [allP, side, Ctr.reads, etas]); all_goals repeat' (first | exact sp1 | refine And.intro ?_ ?_)
    all_goals (try simp only [Ctr.reads, etas] at *)
    all_goals first | done | grind [mHalfsOk, pHalf, mNums, allL]
theorem h_impl_BucketOk : Ctr.holds E 170 (.reads [aBucket] [aBool] (fun _ => True) fun ((b : DBucket), _) => (mBucketOk b, ())) := by
  refine fn_ok prgOk (gcons h_impl_within gnil) Tryz.func170 rfl rfl rfl rfl ?_
  rintro ty ⟨(b : DBucket), _⟩ hp
  refine ⟨[], ?_⟩
  repeat' ((conv => whnf); first | refine toOb2 ?_ | refine And.intro (fun _ => ?_) (fun _ => ?_) | refine And.intro ?_ ?_ | refine toEx2 ?_ | refine toY ?_ | intro _)
  all_goals first | refine Ob2.mk ?_ | (show drawOk _ _ _ = true; exact rfl)
  all_goals (try simp only [allP, side, Ctr.reads, etas]); all_goals repeat' (first | exact sp1 | refine And.intro ?_ ?_)
  all_goals (try simp only [Ctr.reads, etas] at *)
  all_goals first | done | with_reducible assumption | with_reducible rfl | grind [mBucketOk]
theorem h_impl_OutOk : Ctr.holds E 171 (.reads [aOut] [aBool] (fun _ => True) fun ((o : DOut), _) => (mOutOk o, ())) := by
  refine fn_ok prgOk (gcons h_impl_isNumber (gcons h_impl_within gnil)) Tryz.func171 rfl rfl rfl rfl ?_
  rintro ty ⟨(o : DOut), _⟩ hp
  refine ⟨[], ?_⟩
  repeat' ((conv => whnf); first | refine toOb2 ?_ | refine And.intro (fun _ => ?_) (fun _ => ?_) | refine And.intro ?_ ?_ | refine toEx2 ?_ | refine toY ?_ | intro _)
  all_goals first | refine Ob2.mk ?_ | (show drawOk _ _ _ = true; exact rfl)
  all_goals (try simp only [allP, side, Ctr.reads, etas]); all_goals repeat' (first | exact sp1 | refine And.intro ?_ ?_)
  all_goals (try simp only [Ctr.reads, etas] at *)
  all_goals first | done | with_reducible assumption | with_reducible rfl | grind [mOutOk, mNums, allL, mNum]
theorem h_impl_NextOf : Ctr.holds E 154 (.reads [aPieces] [aInt] (fun _ => True) fun ((p : DPieces), _) => (mNextOf p, ())) := by
  refine fn_ok prgOk gnil Tryz.func154 rfl rfl rfl rfl ?_
  rintro ty ⟨(p : DPieces), _⟩ hp
  refine ⟨[], ?_⟩
  repeat' ((conv => whnf); first | refine toOb2 ?_ | refine And.intro (fun _ => ?_) (fun _ => ?_) | refine And.intro ?_ ?_ | refine toEx2 ?_ | intro _)
  all_goals first | refine Ob2.mk ?_ | (show drawOk _ _ _ = true; exact rfl)
  all_goals (try simp only [allP, side, Ctr.reads, etas]); all_goals repeat' (first | exact sp1 | refine And.intro ?_ ?_)
  all_goals (try simp only [Ctr.reads, etas] at *)
  all_goals first | done | with_reducible assumption | with_reducible rfl | grind [mNextOf]
theorem h_impl_HeldOf : Ctr.holds E 222 (.reads [aPieces] [aInt] (fun ((p : DPieces), _) => p.list.length ≤ 1073741824) fun ((p : DPieces), _) => (mHeldOf p, ())) := by
  refine fn_ok prgOk gnil Tryz.func222 rfl rfl rfl rfl ?_
  rintro ty ⟨(p : DPieces), _⟩ (hp : p.list.length ≤ 1073741824)
  refine ⟨[(3, { X := Nat × Int, inv := fun x => x.1 ≤ p.list.length ∧ hdW (p.list.drop x.1) x.2 = mHeldOf p, mu := fun x => p.list.length - x.1, vk := [3, 12], ov := fun x => [.a (.c (.leaf (.int x.2))), .a (.c (.leaf (.int (x.1 : Int))))], bk := [], ob := fun x => [], rk := [], orr := fun x => [] })], ?_⟩
  repeat' ((conv => whnf); first | refine toOb2 ?_ | refine toY ?_ | refine And.intro (fun _ => ?_) (fun _ => ?_) | refine And.intro (toOb2 ?_) ?_ | refine And.intro (?_ : drawOk _ _ _ = true) ?_ | (refine And.intro ⟨?_, ?_⟩ ?_; fail) | intro _)
  (all_goals first | (refine Ob2.mk ?_; (try simp only [allP, side, Ctr.reads, etas] at *); (try simp only [nbls, imp_self, implies_true, and_self, and_true, true_and] at *); first | done | trivial | assumption | omega | grind []) | (show drawOk _ _ _ = true; exact rfl) | skip)
  conv => whnf
  refine And.intro ⟨((0, (p.ready.length : Int)) : Nat × Int), Ob.mk ?_, ?_⟩ (fun (x : Nat × Int) hi => ?_)
  · exact And.intro (Nat.zero_le _) rfl
  · conv => whnf
    refine Ob.mk ?_
    all_goals (try simp only [allP, side, Ctr.reads, etas]); all_goals repeat' (first | exact sp1 | refine And.intro ?_ ?_)
  obtain ⟨i, acc⟩ := x
  obtain ⟨hi, hm⟩ := hi
  have hi : i ≤ p.list.length := hi
  have hm : hdW (p.list.drop i) acc = mHeldOf p := hm
  rcases Nat.lt_or_ge i p.list.length with hlt | hge
  · obtain ⟨x, hx, hxi, hd⟩ := at_step p.list i (ETy.zero .piece) hlt
    rw [hd, hdW] at hm
    have hw := w64_succ hlt (hp)
    repeat' ((conv => whnf); first | refine toOb2 ?_ | refine And.intro (fun _ => ?_) (fun _ => ?_) | refine And.intro ?_ ?_ | refine toEx2 ?_ | intro _)
    all_goals try (exfalso; exact Nat.lt_irrefl _ (Nat.lt_of_lt_of_le hlt (ge_of_dec (by assumption))))
    all_goals first | refine Ob2.mk ?_ | refine Ex2.of ((i + 1, w64 (acc + (x.text.length : Int)))) ?_ ?_ | skip
    all_goals try ((conv => whnf); refine Ob.mk ?_)
    all_goals (try simp only [allP, side, Ctr.reads, etas]); all_goals repeat' (first | exact sp1 | refine And.intro ?_ ?_)
    all_goals (try simp only [hx, Ctr.reads, etas] at *)
    all_goals first | done | grind [mHeldOf]
  · have hl : i = p.list.length := by omega
    subst hl
    rw [List.drop_length, hdW] at hm
    repeat' ((conv => whnf); first | refine toOb2 ?_ | refine And.intro (fun _ => ?_) (fun _ => ?_) | refine And.intro ?_ ?_ | refine toEx2 ?_ | intro _)
    all_goals try (exfalso; exact Nat.lt_irrefl _ (Nat.lt_of_lt_of_le (lt_of_dec (by assumption)) hge))
    all_goals first | refine Ob2.mk ?_ | refine Ex2.of ((p.list.length, acc)) ?_ ?_ | skip
    all_goals try ((conv => whnf); refine Ob.mk ?_)
    all_goals (try simp only [allP, side, Ctr.reads, etas]); all_goals repeat' (first | exact sp1 | refine And.intro ?_ ?_)
    all_goals (try simp only [Ctr.reads, etas] at *)
    all_goals first | done | grind [mHeldOf]
theorem h_impl_PiecesOk : Ctr.holds E 172 (.reads [aPieces] [aBool] (fun ((p : DPieces), _) => p.list.length ≤ 1073741824) fun ((p : DPieces), _) => (mPiecesOk p, ())) := by
  refine fn_ok prgOk (gcons h_impl_isNumber (gcons h_impl_NextOf (gcons h_impl_HeldOf gnil))) Tryz.func172 rfl rfl rfl rfl ?_
  rintro ty ⟨(p : DPieces), _⟩ (hp : p.list.length ≤ 1073741824)
  refine ⟨[(5, { X := Nat × Int, inv := fun x => x.1 ≤ p.list.length ∧ ordL (p.list.drop x.1) x.2 = ordL p.list (mNextOf p), mu := fun x => p.list.length - x.1, vk := [3, 22], ov := fun x => [.a (.c (.leaf (.int x.2))), .a (.c (.leaf (.int (x.1 : Int))))], bk := [], ob := fun x => [], rk := [], orr := fun x => [] })], ?_⟩
  repeat' ((conv => whnf); first | refine toOb2 ?_ | refine toY ?_ | refine And.intro (fun _ => ?_) (fun _ => ?_) | refine And.intro (toOb2 ?_) ?_ | refine And.intro (?_ : drawOk _ _ _ = true) ?_ | (refine And.intro ⟨?_, ?_⟩ ?_; fail) | intro _)
  (all_goals first | (refine Ob2.mk ?_; (try simp only [allP, side, Ctr.reads, etas] at *); (try simp only [nbls, imp_self, implies_true, and_self, and_true, true_and] at *); first | done | trivial | assumption | omega | grind [mPiecesOk, mNums, allL, mNum]) | (show drawOk _ _ _ = true; exact rfl) | skip)
  conv => whnf
  refine And.intro ⟨((0, mNextOf p) : Nat × Int), Ob.mk ?_, ?_⟩ (fun (x : Nat × Int) hi => ?_)
  · exact And.intro (Nat.zero_le _) rfl
  · conv => whnf
    refine Ob.mk ?_
    all_goals (try simp only [allP, side, Ctr.reads, etas]); all_goals repeat' (first | exact sp1 | refine And.intro ?_ ?_)
  obtain ⟨i, acc⟩ := x
  obtain ⟨hi, hm⟩ := hi
  have hi : i ≤ p.list.length := hi
  have hm : ordL (p.list.drop i) acc = ordL p.list (mNextOf p) := hm
  rcases Nat.lt_or_ge i p.list.length with hlt | hge
  · obtain ⟨x, hx, hxi, hd⟩ := at_step p.list i (ETy.zero .piece) hlt
    rw [hd, ordL] at hm
    have hw := w64_succ hlt (hp)
    repeat' ((conv => whnf); first | refine toOb2 ?_ | refine And.intro (fun _ => ?_) (fun _ => ?_) | refine And.intro ?_ ?_ | refine toEx2 ?_ | refine toY ?_ | intro _)
    all_goals try (exfalso; exact Nat.lt_irrefl _ (Nat.lt_of_lt_of_le hlt (ge_of_dec (by assumption))))
    all_goals first | refine Ob2.mk ?_ | refine Ex2.of ((i + 1, w64 (x.pos + (x.text.length : Int)))) ?_ ?_ | skip
    all_goals try ((conv => whnf); refine Ob.mk ?_)
    all_goals (try simp only [allP, side, Ctr.reads, etas]); all_goals repeat' (first | exact sp1 | refine And.intro ?_ ?_)
    all_goals (try simp only [hx, Ctr.reads, etas] at *)
    all_goals first | done | grind [mPiecesOk, pOrd, mNums, allL, mNum]
  · have hl : i = p.list.length := by omega
    subst hl
    rw [List.drop_length, ordL] at hm
    repeat' ((conv => whnf); first | refine toOb2 ?_ | refine And.intro (fun _ => ?_) (fun _ => ?_) | refine And.intro ?_ ?_ | refine toEx2 ?_ | refine toY ?_ | intro _)
    all_goals try (exfalso; exact Nat.lt_irrefl _ (Nat.lt_of_lt_of_le (lt_of_dec (by assumption)) hge))
    all_goals first | refine Ob2.mk ?_ | refine Ex2.of ((p.list.length, acc)) ?_ ?_ | skip
    all_goals try ((conv => whnf); refine Ob.mk ?_)
    all_goals (try simp only [allP, side, Ctr.reads, etas]); all_goals repeat' (first | exact sp1 | refine And.intro ?_ ?_)
    all_goals (try simp only [Ctr.reads, etas] at *)
    all_goals first | done | grind [mPiecesOk, pOrd, mNums, allL, mNum]
theorem h_impl_rising : Ctr.holds E 223 (.reads [aRow .int] [aBool] (fun ((l : List Int), _) => l.length ≤ 1073741824) fun ((l : List Int), _) => (mRising l, ())) := by
  refine fn_ok prgOk gnil Tryz.func223 rfl rfl rfl rfl ?_
  rintro ty ⟨(l : List Int), _⟩ (hp : l.length ≤ 1073741824)
  refine ⟨[(2, { X := Nat, inv := fun i => 1 ≤ i ∧ i ≤ max l.length 1 ∧ allI (pRise l) (l.length - i) i = mRising l, mu := fun i => l.length - i, vk := [3], ov := fun i => [.a (.c (.leaf (.int (i : Int))))], bk := [], ob := fun i => [], rk := [], orr := fun i => [] })], ?_⟩
  conv => whnf
  refine And.intro ⟨(1 : Nat), Ob.mk ?_, ?_⟩ (fun (i : Nat) hi => ?_)
  · exact And.intro (by omega) (And.intro (by omega) rfl)
  · conv => whnf
    refine Ob.mk ?_
    all_goals (try simp only [allP, side, Ctr.reads, etas]); all_goals repeat' (first | exact sp1 | refine And.intro ?_ ?_)
    all_goals rfl
  obtain ⟨h1, hi, hm⟩ := hi
  have h1 : 1 ≤ i := h1
  have hi : i ≤ max l.length 1 := hi
  have hm : allI (pRise l) (l.length - i) i = mRising l := hm
  rcases Nat.lt_or_ge i l.length with hlt | hge
  · rw [allI_step _ hlt] at hm
    have hw := w64_succ hlt hp
    have hw2 : w64 ((i : Int) - 1) = ((i - 1 : Nat) : Int) := by rw [w64_id (by omega) (by omega)]; omega
    repeat' ((conv => whnf); first | refine toOb2 ?_ | refine And.intro (fun _ => ?_) (fun _ => ?_) | refine And.intro ?_ ?_ | refine toEx2 ?_ | intro _)
    all_goals try (exfalso; exact Nat.lt_irrefl _ (Nat.lt_of_lt_of_le hlt (ge_of_dec (by assumption))))
    all_goals first | refine Ob2.mk ?_ | refine Ex2.of (i + 1) ?_ ?_ | skip
    all_goals try ((conv => whnf); refine Ob.mk ?_)
    all_goals (try simp only [allP, side, Ctr.reads, etas]); all_goals repeat' (first | exact sp1 | refine And.intro ?_ ?_)
    all_goals (try simp only [hw2, Int.toNat_natCast, Ctr.reads, etas] at *)
    all_goals first | done | omega | grind [pRise]
  · rw [show l.length - i = 0 by omega, allI] at hm
    repeat' ((conv => whnf); first | refine toOb2 ?_ | refine And.intro (fun _ => ?_) (fun _ => ?_) | refine And.intro ?_ ?_ | refine toEx2 ?_ | intro _)
    all_goals try (exfalso; exact Nat.lt_irrefl _ (Nat.lt_of_lt_of_le (lt_of_dec (by assumption)) hge))
    all_goals first | refine Ob2.mk ?_ | refine Ex2.of (i + 1) ?_ ?_ | skip
    all_goals try ((conv => whnf); refine Ob.mk ?_)
    all_goals (try simp only [allP, side, Ctr.reads, etas]); all_goals repeat' (first | exact sp1 | refine And.intro ?_ ?_)
    all_goals (try simp only [Ctr.reads, etas] at *)
    all_goals first | done | grind
theorem h_impl_AddrAt : Ctr.holds E 120 (.reads [aRow .addr, aInt] [aInt] (fun ((l : List DAddr), _) => l.length ≤ 1073741824) fun ((l : List DAddr), (n : Int), _) => (mAddrAt l n, ())) := by
  refine fn_ok prgOk gnil Tryz.func120 rfl rfl rfl rfl ?_
  rintro ty ⟨(l : List DAddr), (n : Int), _⟩ (hp : l.length ≤ 1073741824)
  refine ⟨[(2, { X := Nat, inv := fun i => i ≤ l.length ∧ findL (fun a : DAddr => a.id == n) (l.drop i) i = mAddrAt l n, mu := fun i => l.length - i, vk := [9], ov := fun i => [.a (.c (.leaf (.int (i : Int))))], bk := [], ob := fun i => [], rk := [], orr := fun i => [] })], ?_⟩
  conv => whnf
  refine And.intro ⟨(0 : Nat), Ob.mk ?_, ?_⟩ (fun (i : Nat) hi => ?_)
  · exact And.intro (Nat.zero_le _) rfl
  · conv => whnf
    refine Ob.mk ?_
    all_goals (try simp only [allP, side, Ctr.reads, etas]); all_goals repeat' (first | exact sp1 | refine And.intro ?_ ?_)
  obtain ⟨hi, hm⟩ := hi
  have hi : i ≤ l.length := hi
  have hm : findL (fun a : DAddr => a.id == n) (l.drop i) i = mAddrAt l n := hm
  rcases Nat.lt_or_ge i l.length with hlt | hge
  · obtain ⟨x, hx, hxi, hd⟩ := at_step l i (ETy.zero .addr) hlt
    rw [hd, findL] at hm
    have hw := w64_succ hlt (hp)
    repeat' ((conv => whnf); first | refine toOb2 ?_ | refine And.intro (fun _ => ?_) (fun _ => ?_) | refine And.intro ?_ ?_ | refine toEx2 ?_ | intro _)
    all_goals try (exfalso; exact Nat.lt_irrefl _ (Nat.lt_of_lt_of_le hlt (ge_of_dec (by assumption))))
    all_goals first | refine Ob2.mk ?_ | refine Ex2.of (i + 1) ?_ ?_ | skip
    all_goals try ((conv => whnf); refine Ob.mk ?_)
    all_goals (try simp only [allP, side, Ctr.reads, etas]); all_goals repeat' (first | exact sp1 | refine And.intro ?_ ?_)
    all_goals (try simp only [hx, Ctr.reads, etas] at *)
    all_goals first | done | grind [mAddrAt]
  · have hl : i = l.length := by omega
    subst hl
    rw [List.drop_length, findL] at hm
    repeat' ((conv => whnf); first | refine toOb2 ?_ | refine And.intro (fun _ => ?_) (fun _ => ?_) | refine And.intro ?_ ?_ | refine toEx2 ?_ | intro _)
    all_goals try (exfalso; exact Nat.lt_irrefl _ (Nat.lt_of_lt_of_le (lt_of_dec (by assumption)) hge))
    all_goals first | refine Ob2.mk ?_ | refine Ex2.of (l.length + 1) ?_ ?_ | skip
    all_goals try ((conv => whnf); refine Ob.mk ?_)
    all_goals (try simp only [allP, side, Ctr.reads, etas]); all_goals repeat' (first | exact sp1 | refine And.intro ?_ ?_)
    all_goals (try simp only [Ctr.reads, etas] at *)
    all_goals first | done | grind [mAddrAt]
theorem h_impl_goneOk : Ctr.holds E 173 (.reads [aRow .int, aRow .addr] [aBool] (fun ((l : List Int), (t : List DAddr), _) => l.length ≤ 1073741824 ∧ t.length ≤ 1073741824) fun ((l : List Int), (t : List DAddr), _) => (mGone l t, ())) := by
  refine fn_ok prgOk (gcons h_impl_rising (gcons h_impl_within (gcons h_impl_AddrAt gnil))) Tryz.func173 rfl rfl rfl rfl ?_
  rintro ty ⟨(l : List Int), (t : List DAddr), _⟩ (hp : l.length ≤ 1073741824 ∧ t.length ≤ 1073741824)
  obtain ⟨hp, hp2⟩ := hp
  refine ⟨[(4, { X := Nat, inv := fun i => i ≤ l.length ∧ allL (pId t) (l.drop i) = mGone l t, mu := fun i => l.length - i, vk := [12], ov := fun i => [.a (.c (.leaf (.int (i : Int))))], bk := [], ob := fun i => [], rk := [], orr := fun i => [] })], ?_⟩
  have hge := mGone_eq l t
  repeat' ((conv => whnf); first | refine toOb2 ?_ | refine toY ?_ | refine And.intro (fun _ => ?_) (fun _ => ?_) | refine And.intro (toOb2 ?_) ?_ | refine And.intro (?_ : drawOk _ _ _ = true) ?_ | (refine And.intro ⟨?_, ?_⟩ ?_; fail) | intro _)
  (all_goals first | (refine Ob2.mk ?_; (try simp only [allP, side, Ctr.reads, etas] at *); (try simp only [nbls, imp_self, implies_true, and_self, and_true, true_and] at *); first | done | trivial | assumption | omega | grind []) | (show drawOk _ _ _ = true; exact rfl) | skip)
  conv => whnf
  refine And.intro ⟨(0 : Nat), Ob.mk ?_, ?_⟩ (fun (i : Nat) hi => ?_)
  · exact And.intro (Nat.zero_le _) (by grind)
  · conv => whnf
    refine Ob.mk ?_
    all_goals (try simp only [allP, side, Ctr.reads, etas]); all_goals repeat' (first | exact sp1 | refine And.intro ?_ ?_)
  obtain ⟨hi, hm⟩ := hi
  have hi : i ≤ l.length := hi
  have hm : allL (pId t) (l.drop i) = mGone l t := hm
  rcases Nat.lt_or_ge i l.length with hlt | hge
  · obtain ⟨x, hx, hxi, hd⟩ := at_step l i (ETy.zero .int) hlt
    rw [hd, allL] at hm
    have hw := w64_succ hlt (hp)
    repeat' ((conv => whnf); first | refine toOb2 ?_ | refine And.intro (fun _ => ?_) (fun _ => ?_) | refine And.intro ?_ ?_ | refine toEx2 ?_ | refine toY ?_ | intro _)
    all_goals try (exfalso; exact Nat.lt_irrefl _ (Nat.lt_of_lt_of_le hlt (ge_of_dec (by assumption))))
    all_goals first | refine Ob2.mk ?_ | refine Ex2.of (i + 1) ?_ ?_ | skip
    all_goals try ((conv => whnf); refine Ob.mk ?_)
    all_goals (try simp only [allP, side, Ctr.reads, etas]); all_goals repeat' (first | exact sp1 | refine And.intro ?_ ?_)
    all_goals (try simp only [hx, Ctr.reads, etas] at *)
    all_goals first | done | grind [pId]
  · have hl : i = l.length := by omega
    subst hl
    rw [List.drop_length, allL] at hm
    repeat' ((conv => whnf); first | refine toOb2 ?_ | refine And.intro (fun _ => ?_) (fun _ => ?_) | refine And.intro ?_ ?_ | refine toEx2 ?_ | refine toY ?_ | intro _)
    all_goals try (exfalso; exact Nat.lt_irrefl _ (Nat.lt_of_lt_of_le (lt_of_dec (by assumption)) hge))
    all_goals first | refine Ob2.mk ?_ | refine Ex2.of (l.length + 1) ?_ ?_ | skip
    all_goals try ((conv => whnf); refine Ob.mk ?_)
    all_goals (try simp only [allP, side, Ctr.reads, etas]); all_goals repeat' (first | exact sp1 | refine And.intro ?_ ?_)
    all_goals (try simp only [Ctr.reads, etas] at *)
    all_goals first | done | grind [pId]
theorem h_impl_EndOk : Ctr.holds E 71 (.reads [aEnd] [aBool] (fun ((e : DEnd), _) => e.B) fun ((e : DEnd), _) => (mEndOk e, ())) := by
  refine fn_ok prgOk (gcons h_impl_within (gcons h_impl_PolicyOk (gcons h_impl_AddrsOk (gcons h_impl_HalfsOk (gcons h_impl_BucketOk (gcons h_impl_OutOk (gcons h_impl_PiecesOk (gcons h_impl_goneOk (gcons h_impl_isNumber (gcons h_impl_roadIsNumber (gcons h_impl_SubAt gnil))))))))))) Tryz.func71 rfl rfl rfl rfl ?_
  rintro ty ⟨(e : DEnd), _⟩ (hp : e.B)
  have hB := hp
  obtain ⟨hb1, hb2, hb3, hb4, hb5, hb6, hb7⟩ := hp
  refine ⟨[(6, { X := Nat, inv := fun i => i ≤ e.subs.length ∧ allI (pSubOk e) (e.subs.length - i) i = allI (pSubOk e) e.subs.length 0, mu := fun i => e.subs.length - i, vk := [95], ov := fun i => [.a (.c (.leaf (.int (i : Int))))], bk := [], ob := fun i => [], rk := [], orr := fun i => [] })], ?_⟩
  repeat' ((conv => whnf); first | refine toOb2 ?_ | refine toY ?_ | refine And.intro (fun _ => ?_) (fun _ => ?_) | refine And.intro (toOb2 ?_) ?_ | refine And.intro (?_ : drawOk _ _ _ = true) ?_ | (refine And.intro ⟨?_, ?_⟩ ?_; fail) | intro _)
  (all_goals first | (refine Ob2.mk ?_; (try simp only [allP, side, Ctr.reads, etas] at *); (try simp only [nbls, imp_self, implies_true, and_self, and_true, true_and] at *); first | done | trivial | assumption | omega | grind [mEndOk, mEndOk0, mEndOk1, mNums, allL]) | (show drawOk _ _ _ = true; exact rfl) | skip)
  conv => whnf
  refine And.intro ⟨(0 : Nat), Ob.mk ?_, ?_⟩ (fun (i : Nat) hi => ?_)
  · exact And.intro (Nat.zero_le _) rfl
  · conv => whnf
    refine Ob.mk ?_
    all_goals (try simp only [allP, side, Ctr.reads, etas]); all_goals repeat' (first | exact sp1 | refine And.intro ?_ ?_)
  obtain ⟨hi, hm⟩ := hi
  have hi : i ≤ e.subs.length := hi
  have hm : allI (pSubOk e) (e.subs.length - i) i = allI (pSubOk e) e.subs.length 0 := hm
  rcases Nat.lt_or_ge i e.subs.length with hlt | hge
  · obtain ⟨x, hx, hxi, hd⟩ := at_step e.subs i (ETy.zero .sub) hlt
    have hg : gS e.subs i = x := by rw [← hx, Int.toNat_natCast]
    rw [allI_step _ hlt] at hm
    have hw := w64_succ hlt (hb3)
    clear hd
    repeat' ((conv => whnf); first | refine toOb2 ?_ | refine And.intro (fun _ => ?_) (fun _ => ?_) | refine And.intro ?_ ?_ | refine toEx2 ?_ | refine toY ?_ | intro _)
    all_goals try (exfalso; exact Nat.lt_irrefl _ (Nat.lt_of_lt_of_le hlt (ge_of_dec (by assumption))))
    all_goals first | refine Ob2.mk ?_ | refine Ex2.of (i + 1) ?_ ?_ | skip
    all_goals try ((conv => whnf); refine Ob.mk ?_)
    all_goals (try simp only [allP, side, Ctr.reads, etas]); all_goals repeat' (first | exact sp1 | refine And.intro ?_ ?_)
    all_goals (try simp only [hx, Ctr.reads, etas] at *)
    all_goals (try simp only [nbls] at *)
    all_goals first | done | grind [pSubOk, mEndOk, mEndOk0, mEndOk1, mNums, allL]
  · have hl : i = e.subs.length := by omega
    subst hl
    rw [allI_end] at hm
    repeat' ((conv => whnf); first | refine toOb2 ?_ | refine And.intro (fun _ => ?_) (fun _ => ?_) | refine And.intro ?_ ?_ | refine toEx2 ?_ | refine toY ?_ | intro _)
    all_goals try (exfalso; exact Nat.lt_irrefl _ (Nat.lt_of_lt_of_le (lt_of_dec (by assumption)) hge))
    all_goals first | refine Ob2.mk ?_ | refine Ex2.of (e.subs.length) ?_ ?_ | skip
    all_goals try ((conv => whnf); refine Ob.mk ?_)
    all_goals (try simp only [allP, side, Ctr.reads, etas]); all_goals repeat' (first | exact sp1 | refine And.intro ?_ ?_)
    all_goals (try simp only [Ctr.reads, etas] at *)
    all_goals (try simp only [nbls] at *)
    all_goals first | done | grind [mEndOk, mEndOk0, mEndOk1, mNums, allL]
theorem h_impl_copyAddrs : Ctr.holds E 164 (.reads [aRow .addr] [aRow .addr] (fun ((a : List DAddr), _) => a.length ≤ 1073741824) fun (a, _) => (a, ())) := by
  refine fn_ok prgOk gnil Tryz.func164 rfl rfl rfl rfl ?_
  rintro ty ⟨(a : List DAddr), _⟩ (hp : a.length ≤ 1073741824)
  refine ⟨[], ?_⟩
  repeat' ((conv => whnf); first | refine toOb2 ?_ | refine And.intro (fun _ => ?_) (fun _ => ?_) | refine And.intro ?_ ?_ | refine toEx2 ?_ | intro _)
  all_goals first | refine Ob2.mk ?_ | (show drawOk _ _ _ = true; exact rfl)
  all_goals (try simp only [allP, side, Ctr.reads, etas]); all_goals repeat' (first | exact sp1 | refine And.intro ?_ ?_)
  all_goals (try simp only [List.nil_append, Ctr.reads, etas] at *)
  all_goals first | done | with_reducible assumption | with_reducible rfl | grind []
theorem h_impl_copyHalfs : Ctr.holds E 165 (.reads [aRow .half] [aRow .half] (fun ((a : List DHalf), _) => a.length ≤ 1073741824) fun (a, _) => (a, ())) := by
  refine fn_ok prgOk gnil Tryz.func165 rfl rfl rfl rfl ?_
  rintro ty ⟨(a : List DHalf), _⟩ (hp : a.length ≤ 1073741824)
  refine ⟨[], ?_⟩
  repeat' ((conv => whnf); first | refine toOb2 ?_ | refine And.intro (fun _ => ?_) (fun _ => ?_) | refine And.intro ?_ ?_ | refine toEx2 ?_ | intro _)
  all_goals first | refine Ob2.mk ?_ | (show drawOk _ _ _ = true; exact rfl)
  all_goals (try simp only [allP, side, Ctr.reads, etas]); all_goals repeat' (first | exact sp1 | refine And.intro ?_ ?_)
  all_goals (try simp only [List.nil_append, Ctr.reads, etas] at *)
  all_goals first | done | with_reducible assumption | with_reducible rfl | grind []
theorem h_impl_copyPieces : Ctr.holds E 166 (.reads [aPieces] [aPieces] (fun ((p : DPieces), _) => p.list.length ≤ 1073741824) fun (p, _) => (p, ())) := by
  refine fn_ok prgOk gnil Tryz.func166 rfl rfl rfl rfl ?_
  rintro ty ⟨(p : DPieces), _⟩ (hp : p.list.length ≤ 1073741824)
  refine ⟨[], ?_⟩
  repeat' ((conv => whnf); first | refine toOb2 ?_ | refine And.intro (fun _ => ?_) (fun _ => ?_) | refine And.intro ?_ ?_ | refine toEx2 ?_ | intro _)
  all_goals first | refine Ob2.mk ?_ | (show drawOk _ _ _ = true; exact rfl)
  all_goals (try simp only [allP, side, Ctr.reads, etas]); all_goals repeat' (first | exact sp1 | refine And.intro ?_ ?_)
  all_goals (try simp only [List.nil_append, Ctr.reads, etas] at *)
  all_goals first | done | with_reducible assumption | with_reducible rfl | grind []
theorem h_impl_copyInts : Ctr.holds E 167 (.reads [aRow .int] [aRow .int] (fun ((a : List Int), _) => a.length ≤ 1073741824) fun (a, _) => (a, ())) := by
  refine fn_ok prgOk gnil Tryz.func167 rfl rfl rfl rfl ?_
  rintro ty ⟨(a : List Int), _⟩ (hp : a.length ≤ 1073741824)
  refine ⟨[], ?_⟩
  repeat' ((conv => whnf); first | refine toOb2 ?_ | refine And.intro (fun _ => ?_) (fun _ => ?_) | refine And.intro ?_ ?_ | refine toEx2 ?_ | intro _)
  all_goals first | refine Ob2.mk ?_ | (show drawOk _ _ _ = true; exact rfl)
  all_goals (try simp only [allP, side, Ctr.reads, etas]); all_goals repeat' (first | exact sp1 | refine And.intro ?_ ?_)
  all_goals (try simp only [List.nil_append, Ctr.reads, etas] at *)
  all_goals first | done | with_reducible assumption | with_reducible rfl | grind []
theorem h_impl_copyEnd : Ctr.holds E 70 (.reads [aEnd] [aEnd] (fun ((e : DEnd), _) => e.B) fun (e, _) => (e, ())) := by
  refine fn_ok prgOk (gcons h_impl_copyAddrs (gcons h_impl_copyHalfs (gcons h_impl_copyPieces (gcons h_impl_copyInts gnil)))) Tryz.func70 rfl rfl rfl rfl ?_
  rintro ty ⟨(e : DEnd), _⟩ (hp : e.B)
  obtain ⟨hb1, hb2, hb3, hb4, hb5, hb6, hb7⟩ := hp
  refine ⟨[], ?_⟩
  repeat' ((conv => whnf); first | refine toOb2 ?_ | refine And.intro (fun _ => ?_) (fun _ => ?_) | refine And.intro ?_ ?_ | refine toEx2 ?_ | refine toY ?_ | intro _)
  all_goals first | refine Ob2.mk ?_ | (show drawOk _ _ _ = true; exact rfl)
  all_goals (try simp only [allP, side, Ctr.reads, etas]); all_goals repeat' (first | exact sp1 | refine And.intro ?_ ?_)
  all_goals (try simp only [List.nil_append, Ctr.reads, etas] at *)
  all_goals first | done | with_reducible assumption | with_reducible rfl | grind []
theorem h_impl_TokenFor : Ctr.holds E 142 (.reads [aInt] [aInt] (fun _ => True) fun ((s : Int), _) => (mTokenFor s, ())) := by
  refine fn_ok prgOk (gcons h_impl_within gnil) Tryz.func142 rfl rfl rfl rfl ?_
  rintro ty ⟨(s : Int), _⟩ hp
  refine ⟨[], ?_⟩
  repeat' ((conv => whnf); first | refine toOb2 ?_ | refine And.intro (fun _ => ?_) (fun _ => ?_) | refine And.intro ?_ ?_ | refine toEx2 ?_ | refine toY ?_ | intro _)
  all_goals first | refine Ob2.mk ?_ | (show drawOk _ _ _ = true; exact rfl)
  all_goals (try simp only [allP, side, Ctr.reads, etas]); all_goals repeat' (first | exact sp1 | refine And.intro ?_ ?_)
  all_goals (try simp only [Ctr.reads, etas] at *)
  all_goals first | done | with_reducible assumption | with_reducible rfl | grind [mTokenFor]
end Go.Proofs.YtnpeomhpbakgnaaGreat
