/- Plain models of what the functions compute. -/
import Derived.Test.YtnpeomhpbakgnaaM6
set_option linter.unusedVariables false
set_option linter.unusedSimpArgs false
namespace Go.Eng

theorem findL_at {α : Type} (p : α → Bool) : ∀ (l : List α) (i j : Nat) (a : α), l[j]? = some a → p a = true → (∀ k b, k < j → l[k]? = some b → p b = false) → findL p l i = ((i + j : Nat) : Int)
  | [], _, _, _, h, _, _ => by simp at h
  | x :: l, i, 0, a, h, hp, _ => by
    simp only [List.getElem?_cons_zero, Option.some.injEq] at h
    subst h
    rw [findL, if_pos hp]; rfl
  | x :: l, i, j + 1, a, h, hp, hk => by
    have h0 := hk 0 x (by omega) (by simp)
    rw [findL, if_neg (by simp [h0]), findL_at p l (i + 1) j a (by simpa using h) hp fun k b hkj hb => hk (k + 1) b (by omega) (by simpa using hb)]
    omega
theorem addrs_rise {l : List DAddr} (h : mAddrsOk l = true) : ∀ (d j : Nat), j + d + 1 < l.length → (gA l j).id < (gA l (j + d + 1)).id := by
  simp only [mAddrsOk, Bool.and_eq_true, decide_eq_true_eq] at h
  have h1 := (allI_iff (pAddr l) l.length 0).1 h.2
  have hs : ∀ j, j + 1 < l.length → (gA l j).id < (gA l (j + 1)).id := fun j hj => by
    have := h1 (j + 1) (by omega) (by omega)
    simp only [pAddr, pAddr0, Bool.and_eq_true, Bool.not_eq_true', Bool.and_eq_false_imp, decide_eq_true_eq, decide_eq_false_iff_not] at this
    have := this.1.2 (by omega)
    simp only [Nat.add_sub_cancel] at this
    omega
  intro d
  induction d with
  | zero => intro j hj; exact hs j hj
  | succ d ih =>
    intro j hj
    have h2 := ih j (by omega)
    have h3 := hs (j + d + 1) (by omega)
    rw [show j + (d + 1) + 1 = j + d + 1 + 1 by omega]
    omega
theorem addrAt_of {l : List DAddr} (h : mAddrsOk l = true) {j : Nat} {a : DAddr} (ha : l[j]? = some a) : mAddrAt l a.id = (j : Int) := by
  unfold mAddrAt
  have hj : j < l.length := (List.getElem?_eq_some_iff.1 ha).1
  have hg : gA l j = a := by simp [gA, List.getD, ha]
  rw [findL_at _ l 0 j a ha (by simp) fun k b hk hb => ?_, Nat.zero_add]
  have hgb : gA l k = b := by simp [gA, List.getD, hb]
  have := addrs_rise h (j - k - 1) k (by omega)
  rw [show k + (j - k - 1) + 1 = j by omega, hg, hgb] at this
  simp; omega
def fTellId (e : DEnd) (n : Int) (_ : Nat) : Option DLetter := some (mTellOne e (gA e.own (mAddrAt e.own n).toNat))
theorem colL_map {α β : Type} (f : α → β) : ∀ (l : List α) (i : Nat), colL (fun x _ => some (f x)) l i = l.map f
  | [], _ => rfl
  | x :: l, i => by rw [colL_some (f := fun x _ => some (f x)) (y := f x) rfl, colL_map f l]; rfl
theorem tell_eq (e : DEnd) (h : mAddrsOk e.own = true) : colL (fTellId e) (mUntold e.own) 0 = colL (fTell e) e.own 0 := by
  have gen : ∀ (m : List DAddr) (i n : Nat), (∀ j a, m[j]? = some a → mAddrAt e.own a.id = ((i + j : Nat) : Int) ∧ e.own[i + j]? = some a) → colL (fTellId e) (colL fUntold m n) 0 = colL (fTell e) m n := by
    have hm : ∀ l : List Int, ∀ i, colL (fTellId e) l i = l.map fun n => mTellOne e (gA e.own (mAddrAt e.own n).toNat) := fun l i => colL_map _ l i
    intro m
    induction m with
    | nil => intro i n _; rfl
    | cons x m ih =>
      intro i n hj
      have h0 := hj 0 x (by simp)
      have ih' := ih (i + 1) (n + 1) fun j a ha => by
        have := hj (j + 1) a (by simpa using ha)
        rw [show i + 1 + j = i + (j + 1) by omega]
        exact this
      by_cases ht : x.told = true
      · rw [colL_none (f := fUntold) (by simp [fUntold, ht]), colL_none (f := fTell e) (by simp [fTell, ht])]
        exact ih'
      · rw [colL_some (f := fUntold) (y := x.id) (by simp [fUntold, ht]), colL_some (f := fTell e) (y := mTellOne e x) (by simp [fTell, ht]), ← ih', hm, hm, List.map_cons]
        congr 2
        rw [h0.1, Int.toNat_natCast]
        have := h0.2
        simp only [gA, List.getD]
        rw [this]; rfl
  exact gen e.own 0 0 fun j a ha => by
    rw [Nat.zero_add]
    exact ⟨addrAt_of h ha, ha⟩
theorem untold_bd (e : DEnd) (h : mAddrsOk e.own = true) : ∀ n ∈ mUntold e.own, 0 ≤ mAddrAt e.own n ∧ mAddrAt e.own n < (e.own.length : Int) := by
  intro n hn
  have : ∀ (m : List DAddr) (i : Nat), n ∈ colL fUntold m i → ∃ a ∈ m, a.id = n := by
    intro m
    induction m with
    | nil => intro i h; simp [colL] at h
    | cons x m ih =>
      intro i h
      rw [colL] at h
      split at h
      · rename_i y hy
        rcases List.mem_cons.1 h with h1 | h1
        · subst h1
          simp only [fUntold] at hy
          split at hy
          · cases hy
          · cases hy; exact ⟨x, by simp, rfl⟩
        · obtain ⟨a, ha, hb⟩ := ih _ h1; exact ⟨a, by simp [ha], hb⟩
      · obtain ⟨a, ha, hb⟩ := ih _ h; exact ⟨a, by simp [ha], hb⟩
  obtain ⟨a, ha, rfl⟩ := this _ _ hn
  obtain ⟨j, hj, rfl⟩ := List.getElem_of_mem ha
  rw [addrAt_of h (List.getElem?_eq_getElem hj)]
  omega
end Go.Eng
