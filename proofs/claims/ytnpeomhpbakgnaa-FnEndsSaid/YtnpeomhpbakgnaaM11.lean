/- Plain models of what the functions compute. -/
import Derived.Test.YtnpeomhpbakgnaaM10
set_option linter.unusedVariables false
set_option linter.unusedSimpArgs false
namespace Go.Eng

theorem bucketOk_bd {b : DBucket} (h : mBucketOk b = true) : (0 ≤ b.rate ∧ b.rate ≤ 100) ∧ (1 ≤ b.burst ∧ b.burst ≤ 100) ∧ 0 ≤ b.hav ∧ b.hav ≤ b.burst := by
  simp only [mBucketOk, Bool.and_eq_true, mIn_iff] at h
  omega
theorem take_w {b : DBucket} (h : mBucketOk b = true) : w64 (b.hav - 1) = b.hav - 1 := by
  have := bucketOk_bd h
  exact w64_id (by omega) (by omega)
theorem mHalfsOk_len {l : List DHalf} (h : mHalfsOk l = true) : l.length ≤ 4 := by
  simp only [mHalfsOk, Bool.and_eq_true, decide_eq_true_eq] at h
  exact h.1
theorem nextPiece_len (o : DOut) : (mNextPiece o).1.text.length ≤ 20 := by
  unfold mNextPiece
  split
  · simp; omega
  · simp
theorem mCarr_mem (e : DEnd) : ∀ k ∈ mCarr e, 0 ≤ k ∧ k < (e.subs.length : Int) := by
  intro k hk
  unfold mCarr at hk
  split at hk
  · exact mOnOf_mem e k hk
  · have : ∀ (l : List Int) (i : Nat), k ∈ colL (fCarr e) l i → k ∈ l := by
      intro l
      induction l with
      | nil => intro i h; simp [colL] at h
      | cons x l ih =>
        intro i h
        rw [colL] at h
        split at h
        · rename_i y hy
          simp only [fCarr] at hy
          split at hy
          · cases hy
          · cases hy
            rcases List.mem_cons.1 h with h | h
            · simp [h]
            · simp [ih _ h]
        · simp [ih _ h]
    exact mOnOf_mem e k (this _ _ hk)
theorem mNextSub_bd (e : DEnd) : mNextSub e = -1 ∨ (0 ≤ mNextSub e ∧ mNextSub e < (e.subs.length : Int)) := by
  unfold mNextSub
  split
  · rename_i h
    have := tmod_bd (mCarr e) (endOk_pick h.1) h.2
    right
    apply mCarr_mem
    have hlt : (e.pick.tmod ((mCarr e).length : Int)).toNat < (mCarr e).length := by omega
    rw [List.getD, List.getElem?_eq_getElem hlt]
    exact List.getElem_mem _
  · exact .inl rfl
theorem nextSub_ok {e : DEnd} (h : 0 ≤ mNextSub e) : mEndOk e = true := by
  unfold mNextSub at h
  split at h
  · rename_i h'; exact h'.1
  · omega
theorem findL_ok {α : Type} (p : α → Bool) (d : α) : ∀ (l : List α) (i : Nat), 0 ≤ findL p l i → p (l.getD (findL p l i - i).toNat d) = true
  | [], i, h => by simp [findL] at h
  | x :: l, i, h => by
    rw [findL] at h ⊢
    split
    · rename_i hp
      simpa using hp
    · rename_i hp
      rw [if_neg hp] at h
      have ih := findL_ok p d l (i + 1) h
      rcases findL_bd p l (i + 1) with h1 | ⟨h1, h2⟩
      · omega
      · have : (findL p l (i + 1) - (i : Int)).toNat = (findL p l (i + 1) - ((i + 1 : Nat) : Int)).toNat + 1 := by omega
        rw [this, List.getD_cons_succ]
        exact ih
theorem mSubAt_road {e : DEnd} {r : DRoad} (h : 0 ≤ mSubAt e r) : (gSub e (mSubAt e r)).road = r ∧ (gSub e (mSubAt e r)).state ≠ 4 := by
  have := findL_ok (pSub r) (ETy.zero .sub) e.subs 0 h
  simp only [Int.natCast_zero, Int.sub_zero, pSub, Bool.and_eq_true, decide_eq_true_eq, bne_iff_ne] at this
  exact ⟨this.2, this.1⟩
theorem mHalfAt_road {l : List DHalf} {r : DRoad} (h : 0 ≤ mHalfAt l r) : (l.getD (mHalfAt l r).toNat (ETy.zero .half)).road = r := by
  have := findL_ok (fun h : DHalf => decide (h.road = r)) (ETy.zero .half) l 0 h
  simp only [Int.natCast_zero, Int.sub_zero, decide_eq_true_eq] at this
  exact this
def mAnew (o : DOut) : DOut := if mOutOk o = true then { o with sent := o.base } else o
def mFilled (b : DBucket) : DBucket := if mBucketOk b = true then { b with hav := if b.hav + b.rate < b.burst then b.hav + b.rate else b.burst } else b
theorem nextPiece_ok {o : DOut} (h : (mNextPiece o).2 = true) : mOutOk o = true := by
  unfold mNextPiece at h
  split at h
  · rename_i h'; exact h'.1
  · cases h
theorem now_w {e : DEnd} (h : mEndOk e = true) : w64 (e.now + 6) = e.now + 6 := by
  have := endOk_nums h
  exact w64_id (by omega) (by omega)
theorem findL_same {α : Type} (p : α → Bool) : ∀ (l m : List α) (i : Nat), l.map p = m.map p → findL p l i = findL p m i
  | [], [], _, _ => rfl
  | [], _ :: _, _, h => by simp at h
  | _ :: _, [], _, h => by simp at h
  | x :: l, y :: m, i, h => by
    simp only [List.map_cons, List.cons.injEq] at h
    rw [findL, findL, h.1, findL_same p l m (i + 1) h.2]
theorem half_map (l : List DHalf) (k : Nat) (t : Int) (r : DRoad) : (l.set k { l.getD k (ETy.zero .half) with til := t }).map (fun h : DHalf => decide (h.road = r)) = l.map (fun h : DHalf => decide (h.road = r)) := by
  rw [List.map_set]
  apply List.ext_getElem?
  intro j
  rw [List.getElem?_set]
  split
  · rename_i hkj
    subst hkj
    split
    · rename_i hk
      simp only [List.length_map] at hk
      simp [List.getD, hk]
    · rename_i hk
      simp only [List.length_map] at hk
      simp [List.getElem?_eq_none (Nat.le_of_not_lt hk)]
  · rfl
theorem halfs_til {l : List DHalf} (h : mHalfsOk l = true) (k : Nat) {t : Int} (ht : mNum t = true) : mHalfsOk (l.set k { l.getD k (ETy.zero .half) with til := t }) = true := by
  simp only [mHalfsOk, Bool.and_eq_true, decide_eq_true_eq, List.length_set] at h ⊢
  refine ⟨h.1, (allI_iff _ _ _).2 fun j _ hj => ?_⟩
  have hj' : j < l.length := by omega
  have ho := (allI_iff _ _ _).1 h.2 j (by omega) hj
  have hat : ∀ r, mHalfAt (l.set k { l.getD k (ETy.zero .half) with til := t }) r = mHalfAt l r := fun r => findL_same _ _ _ 0 (half_map l k t r)
  by_cases hkj : k = j
  · subst hkj
    have hg : gH (l.set k { l.getD k (ETy.zero .half) with til := t }) k = { gH l k with til := t } := by simp [gH, List.getD, hj']
    simp only [pHalf, hg, hat] at ho ⊢
    simp only [Bool.and_eq_true] at ho ⊢
    exact ⟨ho.1, ht⟩
  · have hg : gH (l.set k { l.getD k (ETy.zero .half) with til := t }) j = gH l j := by simp [gH, List.getD, List.getElem?_set, hkj]
    simp only [pHalf, hg, hat] at ho ⊢
    exact ho
theorem putHalf_til {l : List DHalf} {r : DRoad} {t : Int} (h : mHalfsOk l = true) (hk : 0 ≤ mHalfAt l r) (ht : mNum t = true) :
    mPutHalf l { l.getD (mHalfAt l r).toNat (ETy.zero .half) with til := t } = (l.set (mHalfAt l r).toNat { l.getD (mHalfAt l r).toNat (ETy.zero .half) with til := t }, true) := by
  have hr := mHalfAt_road hk
  have hl : mPutHalfL l { l.getD (mHalfAt l r).toNat (ETy.zero .half) with til := t } = l.set (mHalfAt l r).toNat { l.getD (mHalfAt l r).toNat (ETy.zero .half) with til := t } := by
    unfold mPutHalfL
    simp only [hr]
    rw [if_pos hk]
  unfold mPutHalf
  rw [hl, if_pos (halfs_til h _ ht)]
theorem joinHalf_til {e : DEnd} {r : DRoad} (h : mEndOk e = true) (hk : 0 ≤ mHalfAt e.halfs r) (hn : e.now ≤ 999999994) :
    mPutHalf e.halfs { e.halfs.getD (mHalfAt e.halfs r).toNat (ETy.zero .half) with til := e.now + 6 } = (e.halfs.set (mHalfAt e.halfs r).toNat { e.halfs.getD (mHalfAt e.halfs r).toNat (ETy.zero .half) with til := e.now + 6 }, true) :=
  putHalf_til (endOk_parts h).2.2.1 hk (mNum_iff.2 ⟨by have := endOk_nums h; omega, by omega⟩)
end Go.Eng
