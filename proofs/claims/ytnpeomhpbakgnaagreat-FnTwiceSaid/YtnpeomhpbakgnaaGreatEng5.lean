/- The symbolic executor over the model of Go, with its proof; part 5. It speaks of no law by itself. -/
import Derived.Test.YtnpeomhpbakgnaaGreatEng4
set_option linter.unusedVariables false
set_option linter.unusedSimpArgs false
namespace Go.Eng
open Go.RowKit

theorem setsK_out : ∀ {l : List Nat} {r vs : List SV} {K : List SV → Prop}, setsK l r vs K → ∃ vs', K vs' ∧ vs'.length = vs.length ∧ l.length = r.length ∧
    ∀ (i : Nat) (y : SV), vs'[i]? = some y → (∃ j : Nat, l[j]? = some i ∧ r[j]? = some y) ∨ (vs[i]? = some y)
  | [], [], vs, K, h => ⟨vs, h, rfl, rfl, fun i y hy => .inr hy⟩
  | i :: l, x :: r, vs, K, h => by
    obtain ⟨hlt, h⟩ := setK_out h
    obtain ⟨vs', hK, h1, h2, h3⟩ := setsK_out h
    refine ⟨vs', hK, by rw [h1]; simp, by simp [h2], fun j y hy => ?_⟩
    rcases h3 j y hy with ⟨q, hq, hr⟩ | hy'
    · exact .inl ⟨q + 1, by simpa using hq, by simpa using hr⟩
    · rw [List.getElem?_set] at hy'
      split at hy'
      · rename_i e
        subst e
        first
          | exact .inl ⟨0, rfl, by simpa using hy'⟩
          | (split at hy'
             · exact .inl ⟨0, rfl, by simpa using hy'⟩
             · cases hy')
      · exact .inr hy'
  | [], _ :: _, vs, K, h => h.elim
  | _ :: _, [], vs, K, h => h.elim

theorem blksK_out {bs : List (Nat × Blk)} : ∀ {l : List Nat} {r : List (List SC)} {acc : List (Nat × Blk)} {K : List (Nat × Blk) → Prop}, blksK bs l r acc K → ∃ bs', K bs' ∧
    (∀ k b, find bs' k = some b → (∃ (j : Nat) (t : TypeId) (c0 cs : List SC), l[j]? = some k ∧ r[j]? = some cs ∧ find bs k = some ⟨t, c0⟩ ∧ b = ⟨t, cs⟩) ∨ find acc k = some b) ∧
    ∀ k, k ∈ l ∨ (∃ b, find acc k = some b) → ∃ b, find bs' k = some b
  | [], [], acc, K, h => ⟨acc, h, fun k b hb => .inr hb, fun k hk => hk.elim (fun h => by cases h) id⟩
  | k :: l, cs :: r, acc, K, h => by
    obtain ⟨⟨t, c0⟩, hb, h⟩ := lookK_out h
    obtain ⟨bs', hK, h1, h2⟩ := blksK_out h
    refine ⟨bs', hK, fun k' b hb' => ?_, fun k' hk => ?_⟩
    · rcases h1 k' b hb' with ⟨j, t', c', cs', e1, e2, e3, e4⟩ | hb2
      · exact .inl ⟨j + 1, t', c', cs', by simpa using e1, by simpa using e2, e3, e4⟩
      · simp only [find] at hb2
        split at hb2
        · rename_i e
          subst e
          exact .inl ⟨0, t, c0, cs, rfl, rfl, hb, (Option.some.inj hb2).symm⟩
        · exact .inr hb2
    · refine h2 k' ?_
      by_cases e : k = k'
      · exact .inr ⟨⟨t, cs⟩, by simp [find, e]⟩
      · rcases hk with hk | ⟨b, hb⟩
        · rcases List.mem_cons.1 hk with e' | hk
          · exact (e e'.symm).elim
          · exact .inl hk
        · exact .inr ⟨b, by simp [find, e, hb]⟩
  | [], _ :: _, acc, K, h => h.elim
  | _ :: _, [], acc, K, h => h.elim

theorem rowsK_out : ∀ {l : List Nat} {r : List Row} {acc : List (Nat × Option Row)} {K : List (Nat × Option Row) → Prop}, rowsK l r acc K → ∃ rs', K rs' ∧
    (∀ q e, find rs' q = some e → (∃ (j : Nat) (y : Row), l[j]? = some q ∧ r[j]? = some y ∧ e = some y) ∨ (q ∉ l ∧ find acc q = some e)) ∧
    ∀ q, q ∈ l ∨ (∃ e, find acc q = some e) → ∃ e, find rs' q = some e
  | [], [], acc, K, h => ⟨acc, h, fun k b hb => .inr ⟨by simp, hb⟩, fun k hk => hk.elim (fun h => by cases h) id⟩
  | k :: l, x :: r, acc, K, h => by
    obtain ⟨rs', hK, h1, h2⟩ := rowsK_out (l := l) (r := r) (acc := (k, some x) :: acc) h
    refine ⟨rs', hK, fun q e he => ?_, fun q hq => ?_⟩
    · rcases h1 q e he with ⟨j, y, e1, e2, e3⟩ | ⟨hn, he2⟩
      · exact .inl ⟨j + 1, y, by simpa using e1, by simpa using e2, e3⟩
      · simp only [find] at he2
        split at he2
        · rename_i e'
          subst e'
          exact .inl ⟨0, x, rfl, rfl, (Option.some.inj he2).symm⟩
        · rename_i e'
          exact .inr ⟨fun hm => (List.mem_cons.1 hm).elim (fun h => e' h.symm) hn, he2⟩
    · refine h2 q ?_
      by_cases e : k = q
      · exact .inr ⟨some x, by simp [find, e]⟩
      · rcases hq with hk | ⟨b, hb⟩
        · rcases List.mem_cons.1 hk with e' | hk
          · exact (e e'.symm).elim
          · exact .inl hk
        · exact .inr ⟨b, by simp [find, e, hb]⟩
  | [], _ :: _, acc, K, h => h.elim
  | _ :: _, [], acc, K, h => h.elim

theorem hasK_out.{u} {α : Type u} {T : List (Nat × α)} : ∀ {l : List Nat} {K : Prop}, hasK T l K → K ∧ ∀ r ∈ l, ∃ x, find T r = some x
  | [], K, h => ⟨h, fun r hr => by cases hr⟩
  | r :: l, K, h => by
    obtain ⟨x, hx, h⟩ := lookK_out h
    obtain ⟨hK, h1⟩ := hasK_out h
    refine ⟨hK, fun r' hr => ?_⟩
    rcases List.mem_cons.1 hr with rfl | hr
    · exact ⟨x, hx⟩
    · exact h1 r' hr

structure HeadIs (L : LoopSpec) (x : L.X) (bs0 : List (Nat × Blk)) (kv : List SV) (kb : List (Nat × Blk)) (kr : List (Nat × Option Row)) (S : St) : Prop where
  len : S.vs.length = kv.length
  slot : ∀ (i : Nat) (y : SV), S.vs[i]? = some y → (∃ j : Nat, L.vk[j]? = some i ∧ (L.ov x)[j]? = some y) ∨ kv[i]? = some y
  blk : ∀ k b, find S.bs k = some b → (∃ (j : Nat) (t : TypeId) (c0 cs : List SC), L.bk[j]? = some k ∧ (L.ob x)[j]? = some cs ∧ find bs0 k = some ⟨t, c0⟩ ∧ b = ⟨t, cs⟩) ∨ find kb k = some b
  blkIn : ∀ k, k ∈ L.bk ∨ (∃ b, find kb k = some b) → ∃ b, find S.bs k = some b
  row : ∀ q e, find S.rs q = some e → (∃ (j : Nat) (y : Row), L.rk[j]? = some q ∧ (L.orr x)[j]? = some y ∧ e = some y) ∨ (q ∉ L.rk ∧ find kr q = some e)
  rowIn : ∀ q, q ∈ L.rk ∨ (∃ e, find kr q = some e) → ∃ e, find S.rs q = some e

theorem headK_out {L : LoopSpec} {x : L.X} {bs0 : List (Nat × Blk)} {kv : List SV} {kb : List (Nat × Blk)} {kr : List (Nat × Option Row)} {K : St → Prop} (h : headK L x bs0 kv kb kr K) : ∃ S, K S ∧ HeadIs L x bs0 kv kb kr S := by
  obtain ⟨vs, h, l1, _, l3⟩ := setsK_out h
  obtain ⟨bs, h, b1, b2⟩ := blksK_out h
  obtain ⟨rs, h, r1, r2⟩ := rowsK_out h
  exact ⟨_, h, l1, l3, b1, b2, r1, r2⟩

section
variable {E : Env} {w0 : World} {C : List Nat} {n : Nat} {ρ : Val} {a : Act} {w : World} {fb : Nat → Option Nat} {fr : Nat → Option (Option Addr × Nat)}

def headρ (ρ : Val) (m : RMap) : Val :=
  ⟨ρ.bl, fun r => match st m r with | some s => ρ.ra s | none => none, fun r => match st m r with | some s => ρ.rc s | none => 0⟩

theorem CM.ok {kp : Keep} {A : Sides} {m : RMap} {L H : LS} {rs : List (Nat × Option Row)} (hL : ∀ r, L.r r = find rs r) (hrm : ∀ r x, H.r r = some (some x) → RM E rs (st m r) x)
    (hin : ∀ q, q ∈ kp.rk ∨ (∃ e, find kp.kr q = some e) → ∃ e, H.r q = some e) (hbin : ∀ k, k ∈ kp.bk ∨ (∃ b, find kp.kb k = some b) → ∃ b, H.b k = some b)
    (hst : ∀ r ∈ kp.rk, ∀ s, (r, s) ∈ m → s = st m r) (hk : ∀ r, r ∉ kp.rk → st m r = some r) (hs : Sd A) {x y : SC} {v : Value} (h : CM kp A m x y) (ho : SC.ok L ρ y v) : SC.ok H (headρ ρ m) x v := by
  have rowOk : ∀ r s, st m r = some s → (∃ e, H.r r = some e) → SC.ok L ρ (.row s) v → SC.ok H (headρ ρ m) (.row r) v := fun r s hrs ⟨e, he⟩ ⟨hsl, e0, he0, hx⟩ => by
    refine ⟨hsl, e, he, fun x hxe hl => ?_⟩
    subst hxe
    obtain ⟨y, h1, hw⟩ := (hrm r x he).sm s hrs
    rw [hL] at he0
    rw [h1] at he0
    have := hx y (Option.some.inj he0).symm (hw.live hl)
    simp only [headρ, hrs]
    rw [← hw.len]
    exact this
  have epOk : ∀ r i off, st m r = some r → (∃ e, H.r r = some e) → SC.ok L ρ (.ep r i off) v → SC.ok H (headρ ρ m) (.ep r i off) v := fun r i off hrs ⟨e, he⟩ ⟨hsl, e0, he0, hx⟩ => by
    refine ⟨hsl, e, he, fun x hxe hl => ?_⟩
    subst hxe
    obtain ⟨y, h1, hw⟩ := (hrm r x he).sm r hrs
    rw [hL] at he0
    rw [h1] at he0
    have := hx y (Option.some.inj he0).symm (hw.live hl)
    simp only [headρ, hrs]
    rw [← hw.len, ← hw.tn]
    exact this
  cases h with
  | leaf h => rw [h hs]; exact ho
  | nil => exact ho
  | rowIn h1 h2 => exact rowOk _ _ (hst _ h1 _ h2).symm (hin _ (.inl h1)) ho
  | rowKept h1 h2 => exact rowOk _ _ (hk _ h1) (hin _ (.inr ⟨_, h2⟩)) ho
  | rowNil h1 h2 =>
    rename_i r
    obtain rfl : v = .slice none 0 0 := ho
    obtain ⟨e, he⟩ := hin r (.inl h1)
    have hn := (hst r h1 _ h2).symm
    refine ⟨⟨_, _, _, rfl⟩, e, he, fun x hxe hl => ?_⟩
    subst hxe
    have := ((hrm r x he).nn hn).1
    simp only [headρ, hn, this, List.length_nil]
  | ptr h => exact ⟨hbin _ h, ho.2⟩
  | epIn h1 h2 => exact epOk _ _ _ (hst _ h1 _ h2).symm (hin _ (.inl h1)) ho
  | epKept h1 h2 => exact epOk _ _ _ (hk _ h1) (hin _ (.inr ⟨_, h2⟩)) ho

theorem CMs.ok {kp : Keep} {A : Sides} {m : RMap} {L H : LS} {ρ' : Val} (hc : ∀ x y v, CM kp A m x y → SC.ok L ρ y v → SC.ok H ρ' x v) {l r : List SC} (h : CMs kp A m l r) : ∀ {us : List Value}, Oks L ρ r us → Oks H ρ' l us := by
  induction h with
  | nil => intro us hu; cases hu; exact .nil
  | cons h _ ih =>
    intro us hu
    cases hu with
    | cons h1 hu => exact .cons (hc _ _ _ h h1) (ih hu)

theorem VM.ok {kp : Keep} {A : Sides} {m : RMap} {L H : LS} {ρ' : Val} (hs : Sd A) (hc : ∀ x y v, CM kp A m x y → SC.ok L ρ y v → SC.ok H ρ' x v) {x y : SV} (h : VM kp A m x y) {v : Value} (ho : SV.ok L ρ y v) : SV.ok H ρ' x v := by
  cases h with
  | any => trivial
  | c h => exact hc _ _ _ h ho
  | agg h => obtain ⟨us, hv, hu⟩ := ho; exact ⟨us, hv, h.ok hc hu⟩
  | same h k =>
    rename_i x
    rw [h hs] at ho
    cases x with
    | c x =>
      cases k with
      | cons k1 _ => exact hc _ _ _ k1 ho
    | agg l => obtain ⟨us, hv, hu⟩ := ho; exact ⟨us, hv, CMs.ok hc k hu⟩

theorem entail_sound {F B : List Nat} (hF : ∀ r h, fr r = some h → r ∈ F) (hB : ∀ k g, fb k = some g → k ∈ B) {L : LoopSpec} {x : L.X} {bs0 : List (Nat × Blk)} {kv : List SV} {kb : List (Nat × Blk)} {kr : List (Nat × Option Row)} {S H : St}
    (hrk : L.rk.Nodup) (h : entailK E F L x bs0 kv kb kr S obP) (hH : HeadIs L x bs0 kv kb kr H) (hFp : ∀ r ∈ F, ∃ e, find H.rs r = some e) (hBp : ∀ k ∈ B, ∃ b, find H.bs k = some b)
    (hn : S.vs.length = n) (hD : Den E w0 C n (lk fb fr S) ρ a w) : H.vs.length = n ∧ ∃ ρ', Den E w0 C n (lk fb fr H) ρ' a w := by
  obtain ⟨vs, bs, rs⟩ := S
  unfold entailK at h
  dsimp only at h
  obtain ⟨A1, m1, h, g1, c1⟩ := matSlotsK_out h
  obtain ⟨A2, m2, h, g2, hlen, c2⟩ := matKeptK_out h
  obtain ⟨A3, m3, h, g3, c3⟩ := matBlksK_out h
  obtain ⟨A4, m4, h, g4, c4⟩ := keptBlksK_out h
  obtain ⟨A5, T5, h, g5, hT5, hst5, c5⟩ := matRowsK_out h
  obtain ⟨A6, T6, h, g6, hT6, c6⟩ := keptRowsK_out h
  split at h
  · rename_i hnd
    have hnd := nodupB_out hnd
    have hs6 : Sd A6 := Sd_of_allP h.out
    have hs5 := hs6.mono g6
    have hs4 := hs5.mono g5
    have hkeys : ∀ p ∈ m4, p.1 ∈ L.rk := fun p hp => by
      have := (g1.trans (g2.trans (g3.trans g4))).2.2 p hp
      rcases this with h | h
      · cases h
      · exact h
    have hkept : ∀ r, r ∉ L.rk → st m4 r = some r := fun r hr => by
      unfold st
      cases hf : find m4 r with
      | none => rfl
      | some s => exact (hr (hkeys _ (mem_of_find hf))).elim
    have hrm : ∀ r y, find H.rs r = some (some y) → RM E rs (st m4 r) y := fun r y hy => by
      rcases hH.row r _ hy with ⟨j, y', e1, e2, e3⟩ | ⟨hn', hk⟩
      · cases e3
        exact c5 j r y e1 e2 hs5
      · obtain ⟨k1, k2⟩ := c6 r y (mem_of_find hk) hs6
        rw [hkept r hn']
        exact ⟨fun q hq => by cases hq; exact ⟨_, k2, .same _⟩, fun hq => by cases hq⟩
    have hcm : ∀ x y v, CM ⟨L.rk, L.bk, kb, kr⟩ A4 m4 x y → SC.ok (lk fb fr ⟨vs, bs, rs⟩) ρ y v → SC.ok (lk fb fr H) (headρ ρ m4) x v := fun x y v hc ho =>
      CM.ok (E := E) (rs := rs) (fun _ => rfl) hrm hH.rowIn hH.blkIn (fun r hr => (hst5 r hr).2) hkept hs4 hc ho
    have hg14 := g2.trans (g3.trans g4)
    have hHl : H.vs.length = n := by rw [hH.len, hlen, hn]
    have hmk : ∀ r y s, find H.rs r = some (some y) → st m4 r = some s → ∃ z, find rs s = some (some z) ∧ Weak z y := fun r y s hy hs => (hrm r y hy).sm s hs
    -- two rows stand for two
    have hinj : ∀ r r' y y' s, find H.rs r = some (some y) → find H.rs r' = some (some y') → r ≠ r' → st m4 r = some s → st m4 r' = some s → False := by
      intro r r' y y' s hy hy' hne hs hs'
      rw [hT6, hT5, List.append_nil] at hnd
      obtain ⟨n1, n2, n3⟩ := List.nodup_append.1 hnd
      have n2' : (L.rk.filterMap (st m4)).Nodup := (List.reverse_perm _).nodup_iff.1 n2
      have inKr : ∀ q z, q ∉ L.rk → find H.rs q = some (some z) → q ∈ (kr.filterMap fun p => p.2.map fun _ => p.1).reverse := fun q z hq hz => by
        rcases hH.row q _ hz with ⟨j, _, e1, _, _⟩ | ⟨_, hk⟩
        · exact (hq (List.mem_of_getElem? e1)).elim
        · exact List.mem_reverse.2 (List.mem_filterMap.2 ⟨_, mem_of_find hk, rfl⟩)
      by_cases h1 : r ∈ L.rk
      · by_cases h2 : r' ∈ L.rk
        · exact filterMap_ne n2' h1 h2 hne s hs hs'
        · have := hkept r' h2
          rw [hs'] at this
          cases this
          exact n3 r' (inKr r' y' h2 hy') r' (List.mem_reverse.2 (List.mem_filterMap.2 ⟨r, h1, hs⟩)) rfl
      · have h1' := hkept r h1
        rw [hs] at h1'
        cases h1'
        by_cases h2 : r' ∈ L.rk
        · exact n3 r (inKr r y h1 hy) r (List.mem_reverse.2 (List.mem_filterMap.2 ⟨r', h2, hs'⟩)) rfl
        · have := hkept r' h2
          rw [hs'] at this
          cases this
          exact hne rfl
    have blkS : ∀ k b, find H.bs k = some b → ∃ b', find bs k = some b' := fun k b hb => by
      rcases hH.blk k b hb with ⟨j, t, c0, cs, e1, e2, e3, e4⟩ | hk
      · obtain ⟨_, _, _, _, hb', _⟩ := c3 j k cs e1 e2
        exact ⟨_, hb'⟩
      · exact ⟨_, (c4 k b (mem_of_find hk)).1 hs4⟩
    -- a key of the head, as one of the state
    have hat : ∀ r y g, find H.rs r = some (some y) → (headρ ρ m4).at (.r r) = some g → ∃ s z, st m4 r = some s ∧ ρ.at (.r s) = some g ∧ find rs s = some (some z) ∧ Weak z y := fun r y g hy hg => by
      simp only [Val.at, headρ] at hg
      cases hs : st m4 r with
      | none => rw [hs] at hg; cases hg
      | some s => rw [hs] at hg; obtain ⟨z, h1, h2⟩ := hmk r y s hy hs; exact ⟨s, z, rfl, hg, h1, h2⟩
    refine ⟨hHl, headρ ρ m4, hD.size, hD.defers, ?_, ?_, ?_, ?_, ?_, hD.kept, ?_, ?_⟩
    · intro i v hv
      have hlt : i < n := by rw [← hD.size]; exact (Array.getElem?_eq_some_iff.1 hv).1
      have ho := hD.slots i v hv
      have hyS : vs[i]? = some (vs.getD i .any) := by
        have : i < vs.length := by rw [show vs.length = n from hn]; exact hlt
        rw [List.getElem?_eq_getElem this]
        simp [List.getD, this]
      have hyH : H.vs[i]? = some (H.vs.getD i .any) := by
        have : i < H.vs.length := by rw [hHl]; exact hlt
        rw [List.getElem?_eq_getElem this]
        simp [List.getD, this]
      show SV.ok (lk fb fr H) (headρ ρ m4) (H.vs.getD i .any) v
      rcases hH.slot i _ hyH with ⟨j, e1, e2⟩ | hk
      · obtain ⟨y, hy, hvm⟩ := c1 j i _ e1 e2
        rw [hyS] at hy
        cases hy
        exact (hvm.mono hg14.1 hg14.2.1).ok hs4 hcm ho
      · have hvm := c2 i _ _ hk hyS
        exact (hvm.mono (g3.trans g4).1 (g3.trans g4).2.1).ok hs4 hcm ho
    · intro k b hb
      rcases hH.blk k b hb with ⟨j, t, c0, cs, e1, e2, e3, rfl⟩ | hk
      · obtain ⟨t', c0', cs', hb0, hb', hc⟩ := c3 j k cs e1 e2
        rw [e3] at hb0
        cases hb0
        obtain ⟨us, hu, ho⟩ := hD.blks k _ hb'
        exact ⟨us, hu, (hc.mono g4.1 g4.2.1).ok hcm ho⟩
      · obtain ⟨k1, k2⟩ := c4 k b (mem_of_find hk)
        obtain ⟨us, hu, ho⟩ := hD.blks k b (k1 hs4)
        exact ⟨us, hu, k2.ok hcm ho⟩
    · intro r y hy
      cases hs : st m4 r with
      | some s =>
        obtain ⟨z, h1, h2⟩ := hmk r y s hy hs
        have := h2.ok (hD.rows s z h1)
        simpa only [headρ, hs] using this
      | none =>
        obtain ⟨h1, e, he⟩ := (hrm r y hy).nn hs
        obtain ⟨t, xs, own, g⟩ := y
        obtain rfl : xs = [] := h1
        simp only [headρ, hs]
        cases own with
        | true => exact OwnR.ok (x := ⟨t, [], true, g⟩) ⟨e, he, .inl ⟨rfl, rfl, rfl⟩⟩ rfl
        | false => exact fun _ => ⟨Nat.le_refl _, fun _ h => (by cases h), fun j u hj => by simp [cells] at hj⟩
    · intro p q hp hq hne g hg hgq
      cases p with
      | b k =>
        obtain ⟨b, hb⟩ := hp
        obtain ⟨b', hb'⟩ := blkS k b hb
        cases q with
        | b k' =>
          obtain ⟨b2, hb2⟩ := hq
          obtain ⟨b3, hb3⟩ := blkS k' b2 hb2
          exact hD.apart (.b k) (.b k') ⟨b', hb'⟩ ⟨b3, hb3⟩ hne g hg hgq
        | r r =>
          obtain ⟨y, hy, hl⟩ := hq
          obtain ⟨s, z, _, hs2, hs3, hw⟩ := hat r y g hy hgq
          exact hD.apart (.b k) (.r s) ⟨b', hb'⟩ ⟨z, hs3, hw.live hl⟩ (by simp) g hg hs2
      | r r =>
        obtain ⟨y, hy, ho, hl⟩ := hp
        obtain ⟨s, z, hs1, hs2, hs3, hw⟩ := hat r y g hy hg
        cases q with
        | b k' =>
          obtain ⟨b2, hb2⟩ := hq
          obtain ⟨b3, hb3⟩ := blkS k' b2 hb2
          exact hD.apart (.r s) (.b k') ⟨z, hs3, hw.own.trans ho, hw.live hl⟩ ⟨b3, hb3⟩ (by simp) g hs2 hgq
        | r r' =>
          obtain ⟨y', hy', hl'⟩ := hq
          obtain ⟨s', z', hs1', hs2', hs3', hw'⟩ := hat r' y' g hy' hgq
          refine hD.apart (.r s) (.r s') ⟨z, hs3, hw.own.trans ho, hw.live hl⟩ ⟨z', hs3', hw'.live hl'⟩ (fun e => ?_) g hs2 hs2'
          cases e
          exact hinj r r' y y' s hy hy' (fun e => hne (by rw [e])) hs1 hs1'
    · intro p hp g hg
      cases p with
      | b k =>
        obtain ⟨b, hb⟩ := hp
        obtain ⟨b', hb'⟩ := blkS k b hb
        exact hD.bound (.b k) ⟨b', hb'⟩ g hg
      | r r =>
        obtain ⟨y, hy, ho, hl⟩ := hp
        obtain ⟨s, z, hs1, hs2, hs3, hw⟩ := hat r y g hy hg
        exact hD.bound (.r s) ⟨z, hs3, hw.own.trans ho, hw.live hl⟩ g hs2
    · intro k g hk
      exact ⟨hBp k (hB k g hk), (hD.fixb k g hk).2⟩
    · intro r q hr
      obtain ⟨_, e1, e2⟩ := hD.fixr r q hr
      have hs : st m4 r = some r := by
        by_cases h1 : r ∈ L.rk
        · exact (hst5 r h1).1 (hF r q hr)
        · exact hkept r h1
      refine ⟨hFp r (hF r q hr), ?_, ?_⟩
      · simp only [headρ, hs]; exact e1
      · simp only [headρ, hs]; exact e2
  · exact h.elim
end
end Go.Eng

namespace Go.Eng
open Go.RowKit

theorem clearK_out : ∀ {l : List Nat} {vs : List SV} {K : List SV → Prop}, clearK l vs K → ∃ vs', K vs'
 | [], vs, K, h => ⟨vs, h⟩
 | d :: l, vs, K, h => clearK_out (setK_out h).2

theorem plainK_out : ∀ {l : List SV} {K : List SV → Prop}, plainK l K → ∃ r, K r
 | [], K, h => ⟨[], h⟩
 | .a x :: l, K, h => by obtain ⟨r, hr⟩ := plainK_out (l := l) h; exact ⟨_, hr⟩
 | .any :: l, K, h => by obtain ⟨r, hr⟩ := plainK_out (l := l) h; exact ⟨_, hr⟩
 | .grd _ _ :: l, K, h => by obtain ⟨r, hr⟩ := plainK_out (l := l) h; exact ⟨_, hr⟩
 | .tup _ :: l, K, h => by obtain ⟨r, hr⟩ := plainK_out (l := l) h; exact ⟨_, hr⟩

theorem keepBK_out {D bk : List Nat} : ∀ {l : List (Nat × Blk)} {K : List (Nat × Blk) → Prop}, keepBK D bk l K → ∃ r, K r
 | [], K, h => ⟨[], h⟩
 | (k, b) :: l, K, h => by
  simp only [keepBK] at h
  split at h
  ·obtain ⟨r, hr⟩ := keepBK_out h; exact ⟨_, hr⟩
  ·exact keepBK_out h

theorem keepRK_out {D rk : List Nat} : ∀ {l : List (Nat × Option Row)} {K : List (Nat × Option Row) → Prop}, keepRK D rk l K → ∃ r, K r
 | [], K, h => ⟨[], h⟩
 | (k, b) :: l, K, h => by
  simp only [keepRK] at h
  split at h
  ·split at h
   ·obtain ⟨r, hr⟩ := keepRK_out h; exact ⟨_, hr⟩
   ·obtain ⟨r, hr⟩ := keepRK_out h; exact ⟨_, hr⟩
  ·exact keepRK_out h

theorem opsDstsK_out : ∀ {l : List Oper} {D : List Nat} {K : List Nat → Prop}, opsDstsK l D K → ∃ D', K D'
 | [], D, K, h => ⟨D, h⟩
 | o :: l, D, K, h => by
  simp only [opsDstsK] at h
  split at h
  ·exact opsDstsK_out h
  ·exact opsDstsK_out h

theorem dstsK_out (c : Code) : ∀ {D : List Nat} {K : List Nat → Prop}, dstsK c D K → ∃ D', K D' := by
 induction c with
 | region id ops b => intro D K h; exact opsDstsK_out h
 | seq a b iha ihb => intro D K h; obtain ⟨D1, h1⟩ := iha h; exact ihb h1
 | block id c ih => intro D K h; exact ih h
 | loop c ih => intro D K h; exact ih h
 | cond x a b iha ihb => intro D K h; obtain ⟨D1, h1⟩ := iha h; exact ihb h1
 | _ => intro D K h; exact ⟨_, h⟩

theorem least (p : Nat → Prop) : ∀ n, p n → ∃ m, p m ∧ ∀ k, p k → m ≤ k := by
 intro n
 induction n using Nat.strongRecOn with
 | _ n ih =>
  intro hn
  by_cases h : ∃ k, k < n ∧ p k
  ·obtain ⟨k, hk, hp⟩ := h
   exact ih k hk hp
  ·exact ⟨n, hn, fun k hk => Nat.le_of_not_lt fun hlt => h ⟨k, hlt, hk⟩⟩
def Loops (P : Program) (c : Code) (Q : Exit → Act → World → Prop) (a : Act) (w : World) : Prop :=
 ∀ b k cs, ∃ e a' w', Q e a' w' ∧ Arrives P (lone (b.at a (.code c :: .inLoop c :: k)) cs w) b k cs e a' w'
theorem Loops.wp {P : Program} {c : Code} {Q : Exit → Act → World → Prop} {a : Act} {w : World} (h : Loops P c Q a w) : (Code.loop c).wp P Q a w := by
 intro b k cs
 obtain ⟨e, a', w', hq, harr⟩ := h b k cs
 exact ⟨e, a', w', hq, .of_steps (.one step_loop) harr⟩
theorem Loops.step {P : Program} {c : Code} {Q : Exit → Act → World → Prop} {a : Act} {w : World} (h : c.wp P (Exit.then (Loops P c Q) Q) a w) : Loops P c Q a w := by
 intro b k cs
 obtain ⟨e, a₁, w₁, hq, harr⟩ := h b (.inLoop c :: k) cs
 cases e with
 | normal =>
  obtain ⟨e₂, a₂, w₂, hq₂, harr₂⟩ := hq b k cs
  exact ⟨e₂, a₂, w₂, hq₂, .of_steps (Steps.trans harr (.one step_inLoop)) harr₂⟩
 | exit id => exact ⟨_, a₁, w₁, hq, .pass (x := .inLoop c) rfl (fun _ _ => .inl (by simp)) harr⟩
 | goto l => exact ⟨_, a₁, w₁, hq, .pass (x := .inLoop c) rfl (fun _ _ => .inl (by simp)) harr⟩
 | ret => exact ⟨_, a₁, w₁, hq, .pass (x := .inLoop c) rfl (fun _ _ => .inl (by simp)) harr⟩
 | panic ch => exact ⟨_, a₁, w₁, hq, .pass (x := .inLoop c) rfl (fun _ _ => .inl (by simp)) harr⟩
 | outgrown => exact ⟨_, a₁, w₁, hq, .pass (x := .inLoop c) rfl (fun _ _ => .inl (by simp)) harr⟩
theorem loops_at {P : Program} {c : Code} {Q : Exit → Act → World → Prop} {X : Type} (I : X → Act → World → Prop) (mu : X → Nat)
  (round : ∀ x a w, I x a w → c.wp P (Exit.then (fun a' w' => ∃ y, I y a' w' ∧ mu y < mu x) Q) a w) : ∀ (n : Nat) (x : X) (a : Act) (w : World), mu x = n → I x a w → Loops P c Q a w := by
 intro n
 induction n using Nat.strongRecOn with
 | _ n ih =>
  intro x a w hn hI
  refine Loops.step (wp_mono (round x a w hI) fun e a' w' he => ?_)
  cases e with
  | normal =>
   obtain ⟨y, hy, hlt⟩ := he
   exact ih (mu y) (hn ▸ hlt) y a' w' rfl hy
  | exit id => exact he
  | goto l => exact he
  | ret => exact he
  | panic ch => exact he
  | outgrown => exact he

def Ex.out : Ex → Exit
 | .normal => .normal
 | .exit id => .exit id
 | .ret => .ret

def Post (E : Env) (w0 : World) (C : List Nat) (n : Nat) (fb : Nat → Option Nat) (fr : Nat → Option (Option Addr × Nat)) (K : Ex → St → Prop) : Exit → Act → World → Prop :=
 fun x a w => ∃ e S' ρ', x = Ex.out e ∧ K e S' ∧ S'.vs.length = n ∧ Den E w0 C n (lk fb fr S') ρ' a w

def DrawnOk (E : Env) (Γ : List (Nat × Ctr)) : Prop :=
 ∀ (id : Nat) (ops : Array Oper) (S : St) (K : St → Prop),
  (firstK E Γ ops.toList (tailFrom ops.toList) ops.toList S [] fun fs l S A =>
   drawOk ops.toList (tailFrom ops.toList) fs = true ∧ runK E Γ ops.toList l S A fun S A => sidesK A (K S)) →
  ∃ S', K S' ∧ S'.vs.length = S.vs.length ∧ ∀ (fb : Nat → Option Nat) (fr : Nat → Option (Option Addr × Nat)) (w0 : World) (C : List Nat) (ρ : Val) (a : Act) (w : World) (Q : Exit → Act → World → Prop),
   Den E w0 C S.vs.length (lk fb fr S) ρ a w → (∀ ρ' a' w', Den E w0 C S.vs.length (lk fb fr S') ρ' a' w' → Q .normal a' w') → (Code.region id ops true).wp E.P Q a w

section
variable {E : Env} {Γ : List (Nat × Ctr)} {Λ : List (Nat × LoopSpec)} {F B : List Nat} {fb : Nat → Option Nat} {fr : Nat → Option (Option Addr × Nat)}

theorem loopK_sound {fb : Nat → Option Nat} {fr : Nat → Option (Option Addr × Nat)} {F B : List Nat} (hF : ∀ r h, fr r = some h → r ∈ F) (hB : ∀ k g, fb k = some g → k ∈ B) {w0 : World} {C : List Nat} {n : Nat} {c : Code} {vc : St → (Ex → St → Prop) → Prop}
  (ih : ∀ {S : St} {K : Ex → St → Prop}, vc S K → S.vs.length = n → ∀ (ρ : Val) (a : Act) (w : World), Den E w0 C n (lk fb fr S) ρ a w → c.wp E.P (Post E w0 C n fb fr K) a w)
  {L : LoopSpec} {D : List Nat} {S : St} {K : Ex → St → Prop} (h : loopK E F B L D vc S K) (hn : S.vs.length = n) {ρ : Val} {a : Act} {w : World} (hD : Den E w0 C n (lk fb fr S) ρ a w) : Loops E.P c (Post E w0 C n fb fr K) a w := by
 obtain ⟨vs0, bs0, rs0⟩ := S
 unfold loopK at h
 dsimp only at h
 split at h
 ·rename_i n1 n2 n3
  have n3 := nodupB_out n3
  obtain ⟨vs1, h3⟩ := clearK_out h
  obtain ⟨vs2, h4⟩ := clearK_out h3
  obtain ⟨kv, h5⟩ := plainK_out h4
  obtain ⟨kb, h6⟩ := keepBK_out h5
  obtain ⟨kr, h7⟩ := keepRK_out h6
  clear h h3 h4 h5 h6
  have main : ∀ inv : L.X → Prop, ((∃ x, Ob (inv x) ∧ entailK E F L x bs0 kv kb kr ⟨vs0, bs0, rs0⟩ obP) ∧
    ∀ y0, inv y0 → headK L y0 bs0 kv kb kr fun
     | ⟨vs, bs, rs⟩ => hasK rs F <| hasK bs B <| vc ⟨vs, bs, rs⟩ fun e S => match e with
      | .normal => ∃ y, Ob (inv y ∧ L.mu y < L.mu y0) ∧ entailK E F L y bs0 kv kb kr S obP
      | .exit id => K (.exit id) S
      | .ret => K .ret S) → Loops E.P c (Post E w0 C n fb fr K) a w := by
   intro inv h7
   obtain ⟨⟨x0, hx0, hent⟩, hstep⟩ := h7
   let I : L.X → Act → World → Prop := fun y a w => ∃ H ρ', HeadIs L y bs0 kv kb kr H ∧ H.vs.length = n ∧ Den E w0 C n (lk fb fr H) ρ' a w ∧
    vc H fun e S => match e with
     | .normal => ∃ z, Ob (inv z ∧ L.mu z < L.mu y) ∧ entailK E F L z bs0 kv kb kr S obP
     | .exit id => K (.exit id) S
     | .ret => K .ret S
   have enter : ∀ (S : St) (y : L.X) (ρ : Val) (a : Act) (w : World), S.vs.length = n → inv y → entailK E F L y bs0 kv kb kr S obP → Den E w0 C n (lk fb fr S) ρ a w → I y a w := by
    intro S y ρ a w hSn hy he hSD
    obtain ⟨H, h8, hH⟩ := headK_out (hstep y hy)
    obtain ⟨hvs, hbs, hrs⟩ := H
    dsimp only at h8
    obtain ⟨h9, hFp⟩ := hasK_out h8
    obtain ⟨h10, hBp⟩ := hasK_out h9
    obtain ⟨hHn, ρ', hD'⟩ := entail_sound hF hB n3 he hH hFp hBp hSn hSD
    exact ⟨_, ρ', hH, hHn, hD', h10⟩
   refine loops_at I L.mu (fun y a w hI => ?_) _ x0 a w rfl (enter _ x0 ρ a w hn hx0.out hent hD)
   obtain ⟨H, ρ', hH, hHn, hD', hvc⟩ := hI
   refine wp_mono (ih hvc hHn _ _ _ hD') ?_
   rintro ex a' w' ⟨e, S', ρ2, rfl, hK, hn', hD2⟩
   cases e with
   | normal =>
    obtain ⟨z, hz, hez⟩ := hK
    exact ⟨z, enter S' z ρ2 a' w' hn' hz.out.1 hez hD2, hz.out.2⟩
   | exit id => exact ⟨.exit id, S', ρ2, rfl, hK, hn', hD2⟩
   | ret => exact ⟨.ret, S', ρ2, rfl, hK, hn', hD2⟩
  cases hr : L.rel with
  | none => rw [hr] at h7; exact main L.inv h7
  | some r =>
   rw [hr] at h7
   obtain ⟨x0, ⟨hx0, hent⟩, hstep⟩ := h7
   exact main (fun x => L.inv x ∧ r x0 x) ⟨⟨x0, hx0, hent⟩, fun x hx => hstep x hx.1 hx.2⟩
 ·exact h.elim

theorem vcK_sound (hE : EnvOk E) (hΓ : ∀ f c, find Γ f = some c → c.holds E f) (hdr : DrawnOk E Γ) (hF : ∀ r h, fr r = some h → r ∈ F) (hB : ∀ k g, fb k = some g → k ∈ B) (w0 : World) (C : List Nat) (n : Nat) (c : Code) :
  ∀ {S : St} {K : Ex → St → Prop}, vcK E Γ Λ F B c S K → S.vs.length = n → ∀ {ρ : Val} {a : Act} {w : World}, Den E w0 C n (lk fb fr S) ρ a w → c.wp E.P (Post E w0 C n fb fr K) a w := by
 induction c with
 | skip => intro S K h hn ρ a w hD; exact wp_skip ⟨.normal, S, ρ, rfl, h, hn, hD⟩
 | ret => intro S K h hn ρ a w hD; exact wp_ret ⟨.ret, S, ρ, rfl, h, hn, hD⟩
 | exit id => intro S K h hn ρ a w hD; exact wp_exit ⟨.exit id, S, ρ, rfl, h, hn, hD⟩
 | seq x y ihx ihy =>
  intro S K h hn ρ a w hD
  refine wp_seq (wp_mono (ihx h hn hD) ?_)
  rintro ex a' w' ⟨e, S', ρ', rfl, hK, hn', hD'⟩
  cases e with
  | normal => exact ihy hK hn' hD'
  | exit id => exact ⟨.exit id, S', ρ', rfl, hK, hn', hD'⟩
  | ret => exact ⟨.ret, S', ρ', rfl, hK, hn', hD'⟩
 | block id x ih =>
  intro S K h hn ρ a w hD
  refine wp_block (wp_mono (ih h hn hD) ?_)
  rintro ex a' w' ⟨e, S', ρ', rfl, hK, hn', hD'⟩
  cases e with
  | normal => exact ⟨.normal, S', ρ', rfl, hK, hn', hD'⟩
  | exit id' =>
   dsimp only at hK
   split at hK
   ·rename_i hb
    obtain rfl := beq_true hb
    simp only [Ex.out, Exit.inBlock, if_true]
    exact ⟨.normal, S', ρ', rfl, hK, hn', hD'⟩
   ·rename_i hb
    simp only [Ex.out, Exit.inBlock, beq_false hb, if_false]
    exact ⟨.exit id', S', ρ', rfl, hK, hn', hD'⟩
  | ret => exact ⟨.ret, S', ρ', rfl, hK, hn', hD'⟩
 | cond x y z ihy ihz =>
  intro S K h hn ρ a w hD
  obtain ⟨vs, bs, rs⟩ := S
  simp only [vcK] at h
  obtain ⟨v, h1, hv⟩ := opK_out h
  clear h
  split at h1
  ·rename_i t
   have hev : a.eval x = .bool t := hv (lk fb fr ⟨vs, bs, rs⟩) ρ a (by rw [hD.size]; exact hn.symm) (fun t _ => rfl) hD.slots
   exact wp_cond_split hev (fun ht => ihy (h1.1 ht) hn hD) (fun hf => ihz (h1.2 hf) hn hD)
  ·exact h1.elim
 | region id ops b =>
  intro S K h hn ρ a w hD
  cases b with
  | false =>
   simp only [vcK] at h
   obtain ⟨S', A', hK, _, hlen, hrun⟩ := runK_out hE hΓ ops.toList 0 (by simp) h
   obtain ⟨hs, hK⟩ := sidesK_out hK
   refine wp_region ?_
   have := hrun fb fr w0 C ρ a w (Post E w0 C n fb fr K) hs (by rw [hn]; exact hD) (fun ρ' a' w' hD' => ⟨.normal, S', ρ', rfl, hK, hlen.trans hn, by rw [hn] at hD'; exact hD'⟩)
   rw [List.range_eq_range']
   simpa using this
  | true =>
   simp only [vcK] at h
   obtain ⟨S', hK, hlen, hrun⟩ := hdr id ops S (K .normal) h
   exact hrun fb fr w0 C ρ a w (Post E w0 C n fb fr K) (by rw [hn]; exact hD) (fun ρ' a' w' hD' => ⟨.normal, S', ρ', rfl, hK, hlen.trans hn, by rw [hn] at hD'; exact hD'⟩)
 | loop x ih =>
  intro S K h hn ρ a w hD
  simp only [vcK] at h
  split at h
  ·exact h.elim
  ·rename_i id hid
   obtain ⟨L, hL, h1⟩ := lookK_out h
   clear h
   obtain ⟨D, h2⟩ := dstsK_out x h1
   clear h1
   split at h2
   ·exact Loops.wp (loopK_sound hF hB (fun h hn _ _ _ hD => ih h hn hD) h2 hn hD)
   ·refine Loops.wp (Loops.step (wp_mono (ih h2 hn hD) ?_))
    rintro ex a' w' ⟨e, S', ρ', rfl, hK, hn', hD'⟩
    cases e with
    | normal => exact loopK_sound hF hB (fun h hn _ _ _ hD => ih h hn hD) hK hn' hD'
    | exit id => exact ⟨.exit id, S', ρ', rfl, hK, hn', hD'⟩
    | ret => exact ⟨.ret, S', ρ', rfl, hK, hn', hD'⟩
 | _ => intro S K h; exact h.elim
end
end Go.Eng

namespace Go.Eng
open Go.RowKit

section
variable {E : Env} {w0 : World} {C : List Nat} {n : Nat} {a : Act} {w : World}

def resOf (tmps : Array Value) : ResultVar → Sem Value := fun
 | .tmp t => pure (tmps.getD t undef)
 | .cell a t => do loadVar t (← asAddr (tmps.getD a undef))

theorem results_eq (fn : Func) (tmps : Array Value) : results fn tmps = (do
  let vs ← fn.results.mapM (resOf tmps)
  pure (if h : vs.size = 1 then vs[0] else .tuple vs)) := rfl

theorem results_run {fn : Func} {vals : List Value} {P : Program} (h : (fn.results.toList.mapM (resOf a.tmps)).run P w = .ok vals w) : ∃ v, (results fn a.tmps).run P w = .ok v w ∧ resV vals v := by
 refine ⟨if h : vals.toArray.size = 1 then vals.toArray[0] else .tuple vals.toArray, ?_, ?_⟩
 ·rw [results_eq, Array.mapM_eq_mapM_toList, Sem.run_bind]
  have : (List.toArray <$> fn.results.toList.mapM (resOf a.tmps)).run P w = .ok vals.toArray w := by
   rw [map_eq_pure_bind, Sem.run_bind, h]; rfl
  rw [this]
  rfl
 ·unfold resV
  split
  ·rfl
  ·rename_i hne
   have : ¬ vals.toArray.size = 1 := fun h => by
    have h : vals.length = 1 := by simpa using h
    match vals, h with
    | [y], _ => exact hne y rfl
   rw [dif_neg this]

theorem resK_out {fb : Nat → Option Nat} {fr : Nat → Option (Option Addr × Nat)} {vs : List SV} {bs : List (Nat × Blk)} {rs : List (Nat × Option Row)} : ∀ {l : List ResultVar} {K : List SA → Prop}, resK E vs bs l K →
  ∃ ys, K ys ∧ ∀ ρ, Den E w0 C n (lk fb fr ⟨vs, bs, rs⟩) ρ a w → vs.length = n → ∃ vals, (l.mapM (resOf a.tmps)).run E.P w = .ok vals w ∧ OkAs (lk fb fr ⟨vs, bs, rs⟩) ρ ys vals
 | [], K, h => ⟨[], h, fun ρ _ _ => ⟨[], rfl, .nil⟩⟩
 | r :: l, K, h => by
  have slot : ∀ (t : Nat) (v : SV) ρ, vs[t]? = some v → Den E w0 C n (lk fb fr ⟨vs, bs, rs⟩) ρ a w → vs.length = n → SV.ok (lk fb fr ⟨vs, bs, rs⟩) ρ v (a.tmps.getD t undef) := fun t v ρ hv hD hn => by
   have hlt : t < vs.length := (List.getElem?_eq_some_iff.1 hv).1
   have hlt' : t < a.tmps.size := by rw [hD.size, ← hn]; exact hlt
   have h1 := hD.slots t _ (Array.getElem?_eq_getElem hlt')
   have h2 : (lk fb fr ⟨vs, bs, rs⟩).v t = v := by simp [lk, List.getD, hv]
   rw [h2] at h1
   rw [Array.getD_eq_getD_getElem?, Array.getElem?_eq_getElem hlt']
   exact h1
  have cons : ∀ (v : Value) (vals : List Value), (resOf a.tmps r).run E.P w = .ok v w → (l.mapM (resOf a.tmps)).run E.P w = .ok vals w → ((r :: l).mapM (resOf a.tmps)).run E.P w = .ok (v :: vals) w := fun v vals h1 h2 => by
   rw [List.mapM_cons, Sem.run_bind, h1, Result.andThen_ok, Sem.run_bind, h2]
   rfl
  cases r with
  | tmp t =>
   simp only [resK] at h
   obtain ⟨v, hv, h1⟩ := getK_out h
   clear h
   split at h1
   ·rename_i x
    obtain ⟨ys, hK, hr⟩ := resK_out h1
    refine ⟨_, hK, fun ρ hD hn => ?_⟩
    obtain ⟨vals, e, ho⟩ := hr ρ hD hn
    exact ⟨_ :: vals, cons _ _ rfl e, .cons (slot t _ ρ hv hD hn) ho⟩
   ·exact h1.elim
  | cell t ty =>
   simp only [resK] at h
   obtain ⟨v, hv, h1⟩ := getK_out h
   clear h
   split at h1
   ·rename_i k
    obtain ⟨⟨bt, cs⟩, hb, h2⟩ := lookK_out h1
    clear h1
    dsimp only at h2
    have ptr : ∀ ρ, Den E w0 C n (lk fb fr ⟨vs, bs, rs⟩) ρ a w → vs.length = n → a.tmps.getD t undef = .pointer (some ⟨ρ.bl k, 0, none⟩) := fun ρ hD hn => (slot t _ ρ hv hD hn).2
    have run : ∀ ρ u, Den E w0 C n (lk fb fr ⟨vs, bs, rs⟩) ρ a w → vs.length = n → (Instr.loadAt ty (.pointer (some ⟨ρ.bl k, 0, none⟩))).run E.P w = .ok u w → (resOf a.tmps (.cell t ty)).run E.P w = .ok u w := fun ρ u hD hn h => by
     simp only [resOf, ptr ρ hD hn]
     exact h
    split at h2
    ·rename_i m hm
     split at h2
     ·rename_i hl
      have hl := beq_true hl
      obtain ⟨ys, hK, hr⟩ := resK_out h2
      refine ⟨_, hK, fun ρ hD hn => ?_⟩
      obtain ⟨vals, e, ho⟩ := hr ρ hD hn
      obtain ⟨us, hus, hc⟩ := hD.blkCell (k := k) (b := ⟨bt, cs⟩) hb
      refine ⟨.agg us.toArray :: vals, cons _ _ (run ρ _ hD hn ?_) e, .cons ⟨us, rfl, hus⟩ ho⟩
      refine run_loadAgg hm (by rw [hus.length]; exact hl) fun j u hu => ?_
      have := hc j u hu
      rw [add_mk]
      exact this
     ·exact h2.elim
    ·split at h2
     ·rename_i hp
      obtain ⟨c, hc0, h3⟩ := getK_out h2
      obtain ⟨ys, hK, hr⟩ := resK_out h3
      refine ⟨_, hK, fun ρ hD hn => ?_⟩
      obtain ⟨vals, e, ho⟩ := hr ρ hD hn
      obtain ⟨us, hus, hc⟩ := hD.blkCell (k := k) (b := ⟨bt, cs⟩) hb
      obtain ⟨u, hu, hok⟩ := hus.get hc0
      refine ⟨u :: vals, cons _ _ (run ρ _ hD hn (run_loadOne hp (hc 0 u hu))) e, .cons hok ho⟩
     ·exact h2.elim
   ·exact h1.elim
end
end Go.Eng

namespace Go.Eng
open Go.RowKit

def usOf (w : World) : Value → List Value
 | .pointer (some ad) => match w.heap[ad.block]? with
  | some (.cells cs _ _) => cs.toList
  | _ => []
 | .agg us => us.toList
 | v => [v]

def gOf : Value → Nat
 | .pointer (some ad) => ad.block
 | _ => 0

def tyOf (w : World) : Value → TypeId
 | .pointer (some ad) => match w.heap[ad.block]? with
  | some (.cells _ t _) => t
  | _ => 0
 | _ => 0

def startV (i : Nat) : (ts : List ATy) → List Mode → denA ts → List SV
 | t :: ts, m :: ms, (d, ds) => (match m with | .ref => .a (.c (.ptr i 0)) | .giv => .a (.c (.ptr i 0)) | _ => .a (shapeA t.agg (outC (i * 64) t.cts (t.to d)))) :: startV (i + 1) ts ms ds
 | _, _, _ => []

def startB (ty : Nat → TypeId) (i : Nat) : (ts : List ATy) → List Mode → denA ts → List (Nat × Blk)
 | t :: ts, m :: ms, (d, ds) => match m with
  | .ref => (i, ⟨ty i, outC (i * 64) t.cts (t.to d)⟩) :: startB ty (i + 1) ts ms ds
  | .giv => (i, ⟨ty i, outC (i * 64) t.cts (t.to d)⟩) :: startB ty (i + 1) ts ms ds
  | _ => startB ty (i + 1) ts ms ds
 | _, _, _ => []

def setOwn (own : Bool) (rw : List (Nat × Row)) : List (Nat × Option Row) := rw.map fun p => (p.1, some ⟨p.2.t, p.2.xs, own, p.2.g⟩)

def startR (i : Nat) : (ts : List ATy) → List Mode → denA ts → List (Nat × Option Row)
 | t :: ts, m :: ms, (d, ds) => setOwn (ownB m) (outR none (i * 64) t.cts (t.to d)) ++ startR (i + 1) ts ms ds
 | _, _, _ => []

theorem roRows_eq : ∀ (rw : List (Nat × Row)) (rs : List (Nat × Option Row)), startK.roRows rw rs = setOwn false rw ++ rs
 | [], rs => rfl
 | (r, ⟨t, xs, o, g⟩) :: l, rs => by simp [startK.roRows, setOwn, roRows_eq l rs]

theorem ownRows_eq : ∀ (rw : List (Nat × Row)) (rs : List (Nat × Option Row)), (∀ p ∈ rw, p.2.own = true) → startK.ownRows' rw rs = setOwn true rw ++ rs
 | [], rs, _ => rfl
 | (r, ⟨t, xs, o, g⟩) :: l, rs, h => by
  have : o = true := h _ List.mem_cons_self
  subst this
  simp only [startK.ownRows', setOwn, List.map_cons, List.cons_append]
  rw [ownRows_eq l rs fun p hp => h p (List.mem_cons_of_mem _ hp)]
  rfl

theorem startK_out {ty : Nat → TypeId} : ∀ {ts : List ATy} {ms : List Mode} {i : Nat} {d : denA ts} {K : List SV → List (Nat × Blk) → List (Nat × Option Row) → Prop}, startK i ts ms ty d K →
  ts.length = ms.length ∧ K (startV i ts ms d) (startB ty i ts ms d) (startR i ts ms d)
 | [], [], i, d, K, h => ⟨rfl, h⟩
 | t :: ts, m :: ms, i, (d, ds), K, h => by
  have h1 := outK_out h
  obtain ⟨hl, h2⟩ := startK_out h1
  refine ⟨by simp [hl], ?_⟩
  have hown : ∀ p ∈ outR none (i * 64) t.cts (t.to d), p.2.own = true := fun p hp => (outR_g (r := p.1) (x := p.2) hp).2
  have shape : ∀ (cs : List SC) (Q : SV → Prop), (match t.agg, cs with | true, cs => Q (.a (.agg cs)) | false, [x] => Q (.a (.c x)) | _, _ => False) → Q (.a (shapeA t.agg cs)) := fun cs Q hq => by
   split at hq
   ·rename_i e; rw [e]; exact hq
   ·rename_i e; rw [e]; exact hq
   ·exact hq.elim
  cases m with
  | ref => rw [roRows_eq] at h2; exact h2
  | giv =>
   dsimp only at h2
   rw [ownRows_eq _ _ (show ∀ p ∈ outR none (Nat.mul i 64) t.cts (t.to d), p.2.own = true from hown)] at h2
   exact h2
  | ro =>
   refine shape _ (fun v => K (v :: startV (i + 1) ts ms ds) (startB ty (i + 1) ts ms ds) (setOwn false (outR none (i * 64) t.cts (t.to d)) ++ startR (i + 1) ts ms ds)) ?_
   dsimp only at h2
   rw [roRows_eq] at h2
   exact h2
  | own =>
   refine shape _ (fun v => K (v :: startV (i + 1) ts ms ds) (startB ty (i + 1) ts ms ds) (setOwn true (outR none (i * 64) t.cts (t.to d)) ++ startR (i + 1) ts ms ds)) ?_
   dsimp only at h2
   rw [ownRows_eq _ _ (show ∀ p ∈ outR none (Nat.mul i 64) t.cts (t.to d), p.2.own = true from hown)] at h2
   exact h2
  | «mut» =>
   refine shape _ (fun v => K (v :: startV (i + 1) ts ms ds) (startB ty (i + 1) ts ms ds) (setOwn true (outR none (i * 64) t.cts (t.to d)) ++ startR (i + 1) ts ms ds)) ?_
   dsimp only at h2
   rw [ownRows_eq _ _ (show ∀ p ∈ outR none (Nat.mul i 64) t.cts (t.to d), p.2.own = true from hown)] at h2
   exact h2
 | [], _ :: _, i, d, K, h => h.elim
 | _ :: _, [], i, d, K, h => h.elim

theorem usOf_shape {E : Env} {w : World} {own : Bool} {agg : Bool} {cts : List CT} {d : denC cts} {us : List Value} {B : List Nat} {v : Value} (hs : shapeV agg v us) (h : HC E w own cts d us B) : usOf w v = us := by
 cases agg with
 | true => obtain rfl : v = .agg us.toArray := hs; simp [usOf]
 | false =>
  obtain rfl : us = [v] := hs
  cases cts with
  | nil => cases h.1
  | cons c cts =>
   cases c with
   | leaf l =>
    obtain ⟨d, ds⟩ := d
    obtain ⟨us', e, _⟩ := h
    cases e
    cases l <;> rfl
   | row t =>
    obtain ⟨d, ds⟩ := d
    obtain ⟨a, c, us', B', e, _⟩ := h
    cases e
    rfl

def ownKeys (rs : List (Nat × Option Row)) : List Nat := rs.filterMap fun p => match p.2 with | some x => if x.own then some p.1 else none | none => none
def roKeys (rs : List (Nat × Option Row)) : List Nat := rs.filterMap fun p => match p.2 with | some x => if x.own then none else some p.1 | none => none

theorem ownKeys_set (own : Bool) (rw : List (Nat × Row)) : ownKeys (setOwn own rw) = if own then rw.map (·.1) else [] := by
 induction rw with
 | nil => cases own <;> rfl
 | cons p l ih =>
  cases own <;> simp_all [ownKeys, setOwn]

theorem roKeys_set (own : Bool) (rw : List (Nat × Row)) : roKeys (setOwn own rw) = if own then [] else rw.map (·.1) := by
 induction rw with
 | nil => cases own <;> rfl
 | cons p l ih =>
  cases own <;> simp_all [roKeys, setOwn]

theorem ownKeys_app (a b : List (Nat × Option Row)) : ownKeys (a ++ b) = ownKeys a ++ ownKeys b := by simp [ownKeys]
theorem roKeys_app (a b : List (Nat × Option Row)) : roKeys (a ++ b) = roKeys a ++ roKeys b := by simp [roKeys]

def mutRows : Nat → List ATy → List Mode → List Nat
 | i, t :: ts, m :: ms => match m with
  | .mut => rowPos (i * 64) t.cts ++ mutRows (i + 1) ts ms
  | _ => mutRows (i + 1) ts ms
 | _, _, _ => []

theorem rowPos_eq {g : Option Bool} : ∀ {cts : List CT} {b : Nat} {d : denC cts}, rowPos b cts = (outR g b cts d).map (·.1)
 | [], b, d => rfl
 | .leaf l :: cts, b, (d, ds) => rowPos_eq (cts := cts) (b := b + 1) (d := ds)
 | .row t :: cts, b, (d, ds) => by
  show b :: rowPos (b + 1) cts = b :: (outR g (b + 1) cts ds).map (·.1)
  rw [rowPos_eq (cts := cts) (b := b + 1) (d := ds)]

structure StartOk (E : Env) (w : World) (ty : Nat → TypeId) (ρ : Val) (i : Nat) (ts : List ATy) (ms : List Mode) (d : denA ts) (vs : List Value) (ro ow mu rf : List Nat) : Prop where
 len : (startV i ts ms d).length = vs.length
 slots : ∀ (L : LS), (∀ r e, (r, e) ∈ startR i ts ms d → L.r r = some e) → (∀ k b, (k, b) ∈ startB ty i ts ms d → L.b k = some b) → ∀ (j : Nat) (x : SV) (v : Value), (startV i ts ms d)[j]? = some x → vs[j]? = some v → SV.ok L ρ x v
 blks : ∀ k b, (k, b) ∈ startB ty i ts ms d → i ≤ k ∧ ∃ us, w.heap[ρ.bl k]? = some (.cells us b.t (0, 0)) ∧ ∀ (L : LS), (∀ r e, (r, e) ∈ startR i ts ms d → L.r r = some e) → Oks L ρ b.cs us.toList
 rows : ∀ r e, (r, e) ∈ startR i ts ms d → i * 64 ≤ r ∧ ∃ x, e = some x ∧ x.g = none ∧ rowAs E w x.own x (ρ.ra r) (ρ.rc r)
 rkeys : ((startR i ts ms d).map (·.1)).Nodup
 bkeys : ((startB ty i ts ms d).map (·.1)).Nodup
 own : (ow ++ mu).Perm ((ownKeys (startR i ts ms d)).filterMap (bk ρ))
 ro : ro = (roKeys (startR i ts ms d)).filterMap (bk ρ)
 rf : rf = ((startB ty i ts ms d).map (·.1)).map ρ.bl
 mu : ∀ g ∈ mu, ∃ r ∈ mutRows i ts ms, bk ρ r = some g

theorem start_ok {E : Env} {w : World} {ty : Nat → TypeId} {ρ : Val} : ∀ {ts : List ATy} {ms : List Mode} {i : Nat} {d : denA ts} {vs : List Value} {ro ow mu rf : List Nat}, HA E w ts ms d vs ro ow mu rf → (∀ t ∈ ts, t.cts.length ≤ 64) →
  (∀ (j : Nat) (v : Value), vs[j]? = some v → Knows ρ ((i + j) * 64) (usOf w v) ∧ ρ.bl (i + j) = gOf v ∧ ty (i + j) = tyOf w v) → StartOk E w ty ρ i ts ms d vs ro ow mu rf
 | [], [], i, d, vs, ro, ow, mu, rf, ⟨h1, h2, h3, h4, h5⟩, _, _ => by
  subst h1 h2 h3 h4 h5
  exact ⟨rfl, fun L _ _ j x v hx => (by simp [startV] at hx), fun k b hk => (by cases hk), fun r e hr => (by cases hr), List.nodup_nil, List.nodup_nil, List.Perm.nil, rfl, rfl, fun g hg => (by cases hg)⟩
 | t :: ts, m :: ms, i, (d, ds), vs, ro, ow, mu, rf, ⟨v, vs', us, B, e1, hc, hm⟩, h64, hk => by
  subst e1
  obtain ⟨hk0, hbl0, hty0⟩ := hk 0 v rfl
  rw [Nat.add_zero] at hk0 hbl0 hty0
  have hk' : ∀ (j : Nat) (u : Value), vs'[j]? = some u → Knows ρ ((i + 1 + j) * 64) (usOf w u) ∧ ρ.bl (i + 1 + j) = gOf u ∧ ty (i + 1 + j) = tyOf w u := fun j u hu => by
   have := hk (j + 1) u (by simpa using hu)
   rwa [show i + (j + 1) = i + 1 + j by omega] at this
  have h64' : ∀ t ∈ ts, t.cts.length ≤ 64 := fun t ht => h64 t (List.mem_cons_of_mem _ ht)
  have h640 := h64 t List.mem_cons_self
  obtain ⟨kb, kn⟩ := outR_keys (g := none) (cts := t.cts) (d := t.to d) (b := i * 64)
  -- what the first argument gives, once its cells are known
  have main : ∀ (ro' ow' mu' rf' : List Nat), usOf w v = us → StartOk E w ty ρ (i + 1) ts ms ds vs' ro' ow' mu' rf' →
    (∀ r e, (r, e) ∈ setOwn (ownB m) (outR none (i * 64) t.cts (t.to d)) → i * 64 ≤ r ∧ r < i * 64 + 64 ∧ ∃ x, e = some x ∧ x.g = none ∧ rowAs E w x.own x (ρ.ra r) (ρ.rc r)) ∧
    (∀ (L : LS), (∀ r e, (r, e) ∈ setOwn (ownB m) (outR none (i * 64) t.cts (t.to d)) → L.r r = some e) → Oks L ρ (outC (i * 64) t.cts (t.to d)) us) ∧
    B = ((outR none (i * 64) t.cts (t.to d)).map (·.1)).filterMap (bk ρ) ∧
    ((startR i (t :: ts) (m :: ms) (d, ds)).map (·.1)).Nodup := by
   intro ro' ow' mu' rf' hus hS
   rw [hus] at hk0
   have hsetk : (setOwn (ownB m) (outR none (i * 64) t.cts (t.to d))).map (·.1) = (outR none (i * 64) t.cts (t.to d)).map (·.1) := by simp [setOwn, Function.comp_def]
   refine ⟨fun r e hr => ?_, fun L hL => ?_, ?_, ?_⟩
   ·obtain ⟨⟨r', x⟩, hx, e'⟩ := List.mem_map.1 hr
    simp only [Prod.mk.injEq] at e'
    obtain ⟨rfl, rfl⟩ := e'
    obtain ⟨j, a, c, h1, h2, h3, h4, h5, h6⟩ := hc.rows (g := none) (b := i * 64) _ x hx
    obtain ⟨k1, k2⟩ := hk0 j a _ c h3
    refine ⟨by omega, by omega, _, rfl, h4, ?_⟩
    rw [h1, k1, k2]
    exact h6
   ·refine hc.oks (g := none) (fun r x hx => ⟨⟨x.t, x.xs, ownB m, x.g⟩, hL r _ (List.mem_map.2 ⟨(r, x), hx, rfl⟩), rfl⟩) hk0
   ·rw [List.filterMap_map]
    exact hc.blocks (g := none) hk0
   ·show ((setOwn (ownB m) (outR none (i * 64) t.cts (t.to d)) ++ startR (i + 1) ts ms ds).map (·.1)).Nodup
    rw [List.map_append, hsetk]
    refine List.nodup_append.2 ⟨kn, hS.rkeys, fun a ha b hb e => ?_⟩
    obtain ⟨⟨r, x⟩, hx, rfl⟩ := List.mem_map.1 ha
    obtain ⟨⟨r', x'⟩, hx', rfl⟩ := List.mem_map.1 hb
    have h1 := kb r x hx
    have h2 := (hS.rows r' x' hx').1
    simp only at e
    rw [Nat.add_mul] at h2
    omega
  have plain : ∀ (ro' ow' mu' rf' : List Nat), m ≠ .ref ∧ m ≠ .giv → shapeV t.agg v us → StartOk E w ty ρ (i + 1) ts ms ds vs' ro' ow' mu' rf' →
    ((ow ++ mu).Perm ((if ownB m then B else []) ++ (ow' ++ mu'))) → (ro = (if ownB m then [] else B) ++ ro') → rf = rf' → (∀ g ∈ mu, (m = .mut ∧ g ∈ B) ∨ g ∈ mu') → StartOk E w ty ρ i (t :: ts) (m :: ms) (d, ds) (v :: vs') ro ow mu rf := by
   intro ro' ow' mu' rf' hmr hsv hS hp hro hrf hmu
   obtain ⟨m1, m2, m3, m4⟩ := main ro' ow' mu' rf' (usOf_shape hsv hc) hS
   have eV : startV i (t :: ts) (m :: ms) (d, ds) = .a (shapeA t.agg (outC (i * 64) t.cts (t.to d))) :: startV (i + 1) ts ms ds := by
    cases m <;> first | rfl | exact (hmr.1 rfl).elim | exact (hmr.2 rfl).elim
   have eB : startB ty i (t :: ts) (m :: ms) (d, ds) = startB ty (i + 1) ts ms ds := by
    cases m <;> first | rfl | exact (hmr.1 rfl).elim | exact (hmr.2 rfl).elim
   have eR : startR i (t :: ts) (m :: ms) (d, ds) = setOwn (ownB m) (outR none (i * 64) t.cts (t.to d)) ++ startR (i + 1) ts ms ds := rfl
   refine ⟨by rw [eV]; simp [hS.len], fun L hLr hLb j x u hx hu => ?_, fun k b hkb => ?_, fun r e hr => ?_, m4, by rw [eB]; exact hS.bkeys, ?_, ?_, by rw [eB, hrf]; exact hS.rf, fun g hg => ?_⟩
   ·rw [eV] at hx
    rw [eR] at hLr
    rw [eB] at hLb
    cases j with
    | zero =>
     obtain rfl : _ = x := by simpa using hx
     obtain rfl : v = u := by simpa using hu
     exact shapeA_ok hsv (m2 L fun r e hr => hLr r e (List.mem_append_left _ hr))
    | succ j => exact hS.slots L (fun r e hr => hLr r e (List.mem_append_right _ hr)) hLb j x u (by simpa using hx) (by simpa using hu)
   ·rw [eB] at hkb
    obtain ⟨h1, us', h2, h3⟩ := hS.blks k b hkb
    exact ⟨by omega, us', h2, fun L hL => h3 L fun r e hr => hL r e (by rw [eR]; exact List.mem_append_right _ hr)⟩
   ·rw [eR] at hr
    rcases List.mem_append.1 hr with hr | hr
    ·obtain ⟨h1, _, h2⟩ := m1 r e hr
     exact ⟨h1, h2⟩
    ·obtain ⟨h1, h2⟩ := hS.rows r e hr
     exact ⟨by rw [Nat.add_mul] at h1; omega, h2⟩
   ·rw [eR, ownKeys_app, List.filterMap_append, ownKeys_set]
    refine hp.trans ?_
    refine List.Perm.append ?_ hS.own
    split
    ·rw [m3]
    ·exact List.Perm.nil
   ·rw [eR, roKeys_app, List.filterMap_append, roKeys_set, hro, hS.ro]
    congr 1
    split
    ·rfl
    ·rw [m3]
   ·rcases hmu g hg with ⟨rfl, hgB⟩ | hg'
    ·rw [m3, ← rowPos_eq] at hgB
     obtain ⟨r, hr, hb⟩ := List.mem_filterMap.1 hgB
     exact ⟨r, List.mem_append_left _ hr, hb⟩
    ·obtain ⟨r, hr, hb⟩ := hS.mu g hg'
     refine ⟨r, ?_, hb⟩
     cases m with
     | «mut» => exact List.mem_append_right _ hr
     | _ => exact hr
  cases m with
  | ro =>
   obtain ⟨hsv, ro', rfl, h⟩ := hm
   exact plain ro' ow mu rf (by simp) hsv (start_ok h h64' hk') (.refl _) rfl rfl fun g hg => .inr hg
  | own =>
   obtain ⟨hsv, ow', rfl, h⟩ := hm
   exact plain ro ow' mu rf (by simp) hsv (start_ok h h64' hk') (by simp [ownB, List.append_assoc]) rfl rfl fun g hg => .inr hg
  | «mut» =>
   obtain ⟨hsv, mu', rfl, h⟩ := hm
   refine plain ro ow mu' rf (by simp) hsv (start_ok h h64' hk') ?_ rfl rfl fun g hg => (List.mem_append.1 hg).elim (fun h => .inl ⟨rfl, h⟩) .inr
   simp only [ownB, if_true]
   rw [← List.append_assoc, ← List.append_assoc]
   exact List.perm_append_comm.append_right mu'
  | ref =>
   obtain ⟨g, tyv, ro', rf', rfl, hh, rfl, rfl, h⟩ := hm
   have hS := start_ok h h64' hk'
   have hus : usOf w (.pointer (some ⟨g, 0, none⟩)) = us := by simp [usOf, hh]
   obtain ⟨m1, m2, m3, m4⟩ := main ro' ow mu rf' hus hS
   have hbl : ρ.bl i = g := hbl0
   have hty : ty i = tyv := by rw [hty0]; simp [tyOf, hh]
   have eR : startR i (t :: ts) (.ref :: ms) (d, ds) = setOwn false (outR none (i * 64) t.cts (t.to d)) ++ startR (i + 1) ts ms ds := rfl
   have eB : startB ty i (t :: ts) (.ref :: ms) (d, ds) = (i, ⟨ty i, outC (i * 64) t.cts (t.to d)⟩) :: startB ty (i + 1) ts ms ds := rfl
   have eV : startV i (t :: ts) (.ref :: ms) (d, ds) = .a (.c (.ptr i 0)) :: startV (i + 1) ts ms ds := rfl
   refine ⟨by rw [eV]; simp [hS.len], fun L hLr hLb j x u hx hu => ?_, fun k b hkb => ?_, fun r e hr => ?_, m4, ?_, ?_, ?_, ?_, fun g hg => ?_⟩
   ·rw [eV] at hx
    rw [eR] at hLr
    rw [eB] at hLb
    cases j with
    | zero =>
     obtain rfl : _ = x := by simpa using hx
     obtain rfl : _ = u := by simpa using hu
     exact ⟨⟨_, hLb i _ List.mem_cons_self⟩, by rw [hbl]⟩
    | succ j => exact hS.slots L (fun r e hr => hLr r e (List.mem_append_right _ hr)) (fun k b hkb => hLb k b (List.mem_cons_of_mem _ hkb)) j x u (by simpa using hx) (by simpa using hu)
   ·rw [eB] at hkb
    rcases List.mem_cons.1 hkb with e | hkb
    ·cases e
     exact ⟨Nat.le_refl _, us.toArray, by rw [hbl, hty]; exact hh, fun L hL => by simpa using m2 L fun r e hr => hL r e (by rw [eR]; exact List.mem_append_left _ hr)⟩
    ·obtain ⟨h1, us', h2, h3⟩ := hS.blks k b hkb
     exact ⟨by omega, us', h2, fun L hL => h3 L fun r e hr => hL r e (by rw [eR]; exact List.mem_append_right _ hr)⟩
   ·rw [eR] at hr
    rcases List.mem_append.1 hr with hr | hr
    ·obtain ⟨h1, _, h2⟩ := m1 r e hr
     exact ⟨h1, h2⟩
    ·obtain ⟨h1, h2⟩ := hS.rows r e hr
     exact ⟨by rw [Nat.add_mul] at h1; omega, h2⟩
   ·rw [eB, List.map_cons]
    refine List.nodup_cons.2 ⟨fun hm => ?_, hS.bkeys⟩
    obtain ⟨⟨k, b⟩, hkb, e⟩ := List.mem_map.1 hm
    have := (hS.blks k b hkb).1
    simp only at e
    omega
   ·rw [eR, ownKeys_app, List.filterMap_append, ownKeys_set]
    simpa using hS.own
   ·rw [eR, roKeys_app, List.filterMap_append, roKeys_set, hS.ro]
    simp only [Bool.false_eq_true, if_false]
    rw [m3]
   ·rw [eB, List.map_cons, List.map_cons, hbl, hS.rf]
   ·obtain ⟨r, hr, hb⟩ := hS.mu g hg
    exact ⟨r, hr, hb⟩
  | giv =>
   obtain ⟨g, tyv, ow', rf', rfl, hh, rfl, rfl, h⟩ := hm
   have hS := start_ok h h64' hk'
   have hus : usOf w (.pointer (some ⟨g, 0, none⟩)) = us := by simp [usOf, hh]
   obtain ⟨m1, m2, m3, m4⟩ := main ro ow' mu rf' hus hS
   have hbl : ρ.bl i = g := hbl0
   have hty : ty i = tyv := by rw [hty0]; simp [tyOf, hh]
   have eR : startR i (t :: ts) (.giv :: ms) (d, ds) = setOwn true (outR none (i * 64) t.cts (t.to d)) ++ startR (i + 1) ts ms ds := rfl
   have eB : startB ty i (t :: ts) (.giv :: ms) (d, ds) = (i, ⟨ty i, outC (i * 64) t.cts (t.to d)⟩) :: startB ty (i + 1) ts ms ds := rfl
   have eV : startV i (t :: ts) (.giv :: ms) (d, ds) = .a (.c (.ptr i 0)) :: startV (i + 1) ts ms ds := rfl
   refine ⟨by rw [eV]; simp [hS.len], fun L hLr hLb j x u hx hu => ?_, fun k b hkb => ?_, fun r e hr => ?_, m4, ?_, ?_, ?_, ?_, fun g hg => ?_⟩
   ·rw [eV] at hx
    rw [eR] at hLr
    rw [eB] at hLb
    cases j with
    | zero =>
     obtain rfl : _ = x := by simpa using hx
     obtain rfl : _ = u := by simpa using hu
     exact ⟨⟨_, hLb i _ List.mem_cons_self⟩, by rw [hbl]⟩
    | succ j => exact hS.slots L (fun r e hr => hLr r e (List.mem_append_right _ hr)) (fun k b hkb => hLb k b (List.mem_cons_of_mem _ hkb)) j x u (by simpa using hx) (by simpa using hu)
   ·rw [eB] at hkb
    rcases List.mem_cons.1 hkb with e | hkb
    ·cases e
     exact ⟨Nat.le_refl _, us.toArray, by rw [hbl, hty]; exact hh, fun L hL => by simpa using m2 L fun r e hr => hL r e (by rw [eR]; exact List.mem_append_left _ hr)⟩
    ·obtain ⟨h1, us', h2, h3⟩ := hS.blks k b hkb
     exact ⟨by omega, us', h2, fun L hL => h3 L fun r e hr => hL r e (by rw [eR]; exact List.mem_append_right _ hr)⟩
   ·rw [eR] at hr
    rcases List.mem_append.1 hr with hr | hr
    ·obtain ⟨h1, _, h2⟩ := m1 r e hr
     exact ⟨h1, h2⟩
    ·obtain ⟨h1, h2⟩ := hS.rows r e hr
     exact ⟨by rw [Nat.add_mul] at h1; omega, h2⟩
   ·rw [eB, List.map_cons]
    refine List.nodup_cons.2 ⟨fun hm => ?_, hS.bkeys⟩
    obtain ⟨⟨k, b⟩, hkb, e⟩ := List.mem_map.1 hm
    have := (hS.blks k b hkb).1
    simp only at e
    omega
   ·rw [eR, ownKeys_app, List.filterMap_append, ownKeys_set]
    simp only [if_true]
    rw [m3, List.append_assoc]
    exact hS.own.append_left _
   ·rw [eR, roKeys_app, List.filterMap_append, roKeys_set, hS.ro]
    rfl
   ·rw [eB, List.map_cons, List.map_cons, hbl, hS.rf]
   ·obtain ⟨r, hr, hb⟩ := hS.mu g hg
    exact ⟨r, hr, hb⟩
 | [], _ :: _, i, d, vs, ro, ow, mu, rf, h, _, _ => h.elim
 | _ :: _, [], i, d, vs, ro, ow, mu, rf, h, _, _ => h.elim
end Go.Eng

namespace Go.Eng
open Go.RowKit

def LenC : (cts : List CT) → denC cts → denC cts → Prop
 | [], _, _ => True
 | .leaf _ :: cts, (_, ds), (_, es) => LenC cts ds es
 | .row _ :: cts, (d, ds), (e, es) => d.length = e.length ∧ LenC cts ds es

def LenSame : (ts : List ATy) → List Mode → denA ts → denA ts → Prop
 | t :: ts, m :: ms, (d, ds), (e, es) => (match m with
  | .mut => LenC t.cts (t.to d) (t.to e)
  | .ref => LenC t.cts (t.to d) (t.to e)
  | _ => True) ∧ LenSame ts ms ds es
 | _, _, _, _ => True

section
variable {E : Env} {w0 w : World} {ρ : Val} {rs : List (Nat × Option Row)} {A : Sides}

theorem insK_out {L : LS} {own : Bool} : ∀ {ts : List ATy} {A : Sides} {R : List Nat} {xs : List SA} {K : denA ts → Sides → List Nat → Prop}, insK rs none ts A R xs K →
  ∃ d A' Rn R', K d A' R' ∧ (∀ p ∈ A, p ∈ A') ∧ R'.Perm (Rn ++ R) ∧ (∀ r ∈ Rn, ∃ x, find rs r = some (some x) ∧ (Sd A' → x.live)) ∧
   ∀ (vals : List Value), Sd A' → (∀ r, L.r r = find rs r) → (∀ r x, L.r r = some (some x) → RowOk E w (ρ.ra r) (ρ.rc r) x) → OkAs L ρ xs vals → (own = true → ∀ r ∈ Rn, ∃ t ys, find rs r = some (some ⟨t, ys, true, none⟩)) →
    (∀ a ∈ ts, ∀ t, CT.row t ∈ a.cts → ∃ e, E.eid t = some e) → ∃ US, HOs E w own ts d vals US (Rn.filterMap (bk ρ))
 | [], A, R, [], K, h => ⟨(), A, [], R, h, fun p hp => hp, .refl _, fun r hr => (by cases hr), fun vals _ _ _ ho _ _ => by cases ho; exact ⟨[], rfl, rfl, rfl⟩⟩
 | t :: ts, A, R, x :: xs, K, h => by
  obtain ⟨d, A1, l, ps, h1, s1, hsh, hp, hd⟩ := inK_out h
  obtain ⟨ds, A2, Rn, R2, h2, s2, p2, hlv, hsem⟩ := insK_out (L := L) (own := own) h1
  refine ⟨(d, ds), A2, rowNames l ++ Rn, R2, h2, fun p hp => s2 p (s1 p hp), (p2.trans ((perm_rev _ _).append_left Rn)).trans (by
   rw [← List.append_assoc]
   exact (List.perm_append_comm).append_right R), fun r hr => ?_, fun vals hs hL hr ho hown he => ?_⟩
  ·rcases List.mem_append.1 hr with hr | hr
   ·obtain ⟨x, hx, hl⟩ := (hp.mono s2).live r hr
    exact ⟨x, hx, fun h => hl h GT_none⟩
   ·exact hlv r hr
  cases ho with
  | cons hv ho =>
   obtain ⟨us, hu, hok⟩ := shapeS_ok hsh hv
   obtain ⟨US, hUS⟩ := hsem _ hs hL hr ho (fun h r hr => hown h r (List.mem_append_right _ hr)) fun a ha => he a (List.mem_cons_of_mem _ ha)
   have hc := (hp.mono s2).hc (own := own) (us := us) hs GT_none hr hd (fun r _ => hL r) hok fun h => ⟨fun r hr => hown h r (List.mem_append_left _ hr), he t List.mem_cons_self⟩
   exact ⟨us ++ US, _, _, us, US, _, _, rfl, rfl, by rw [List.filterMap_append], hu, hc, hUS⟩
 | [], A, R, _ :: _, K, h => h.elim
 | _ :: _, A, R, [], K, h => h.elim

theorem mutBack {own : Bool} (hs : Sd A) (hr : ∀ r x, find rs r = some (some x) → RowOk E w (ρ.ra r) (ρ.rc r) x) : ∀ {cts : List CT} {d e : denC cts} {us : List Value} {B0 : List Nat} {b : Nat} {ps : List PD}, HC E w0 own cts d us B0 → PDs rs none A (outC b cts d) ps → parseC cts ps = some e → LenC cts d e → Knows ρ b us →
  (∀ r ∈ rowNames (outC b cts d), ∃ t xs, find rs r = some (some ⟨t, xs, true, none⟩)) → ∃ B, HC E w true cts e us B
 | [], d, e, us, B0, b, ps, h, _, _, _, _, _ => ⟨[], h.1, rfl⟩
 | .leaf l :: cts, (d, ds), (e, es), us, B0, b, ps, ⟨us', e1, h⟩, hp, hpar, hl, hk, ho => by
  subst e1
  cases hp with
  | leaf hp =>
   simp only [parseC] at hpar
   split at hpar
   ·rename_i d1 h1
    split at hpar
    ·rename_i d2 h2
     have e3 := Option.some.inj hpar
     obtain ⟨rfl, rfl⟩ := Prod.mk.inj e3
     obtain ⟨B, hB⟩ := mutBack hs hr h hp h2 hl hk.tail ho
     have := LT.get_leaf (l := l) (x := l.leaf d) (d := d1) h1
     exact ⟨B, us', by rw [this], hB⟩
    ·cases hpar
   ·cases hpar
 | .row t :: cts, (d, ds), (e, es), us, B0, b, ps, ⟨a, c, us', B', e1, hw, hB, h⟩, hp, hpar, hl, hk, ho => by
  subst e1
  cases hp with
  | row hf hlive hp =>
   rename_i x ds'
   simp only [parseC] at hpar
   split at hpar
   ·rename_i d1 h1
    split at hpar
    ·rename_i d2 h2
     have e3 := Option.some.inj hpar
     obtain ⟨rfl, rfl⟩ := Prod.mk.inj e3
     obtain ⟨B, hB'⟩ := mutBack hs hr h hp h2 hl.2 hk.tail fun r hr => ho r (List.mem_cons_of_mem _ hr)
     obtain ⟨t', xs, own', q⟩ := x
     obtain ⟨rfl, hh⟩ := parseC_row (t := t) (t' := t') (xs := xs) (d := d1) h1
     obtain rfl := eq_of_heq hh
     obtain ⟨t2, xs2, h3⟩ := ho b List.mem_cons_self
     rw [hf] at h3
     cases h3
     obtain ⟨k1, k2⟩ := hk 0 a _ c rfl
     have hrow : OwnR E w t' (ρ.ra b) (ρ.rc b) xs := hr b _ hf Row.live_none
     refine ⟨_, a, c, us', B, by rw [hl.1], ?_, rfl, hB'⟩
     rw [show b + 0 = b from rfl] at k1 k2
     rw [← k1, ← k2]
     exact hrow
    ·cases hpar
   ·cases hpar

theorem sameK_out : ∀ {l q : List SC} {K : Prop}, sameK l q K → K ∧ l.length = q.length ∧ ∀ (j : Nat) (r : Nat), l[j]? = some (.row r) → q[j]? = some (.row r)
 | [], [], K, h => ⟨h, rfl, fun j r hj => by simp at hj⟩
 | .row r :: l, .row s :: q, K, h => by
  simp only [sameK] at h
  split at h
  ·rename_i hb
   obtain rfl := beq_true hb
   obtain ⟨h1, h2, h3⟩ := sameK_out h
   refine ⟨h1, by simp [h2], fun j r' hj => ?_⟩
   cases j with
   | zero => simpa using hj
   | succ j => exact h3 j r' (by simpa using hj)
  ·exact h.elim
 | .leaf _ :: l, .leaf _ :: q, K, h => by
  obtain ⟨h1, h2, h3⟩ := sameK_out (l := l) (q := q) h
  refine ⟨h1, by simp [h2], fun j r' hj => ?_⟩
  cases j with
  | zero => simp at hj
  | succ j => exact h3 j r' (by simpa using hj)
 | [], _ :: _, K, h => h.elim
 | .row _ :: _, [], K, h => h.elim
 | .leaf _ :: _, [], K, h => h.elim
 | .nil :: _, _, K, h => by simp [sameK] at h
 | .ptr _ _ :: _, _, K, h => by simp [sameK] at h
 | .ep _ _ _ :: _, _, K, h => by simp [sameK] at h
 | .row _ :: _, .leaf _ :: _, K, h => h.elim
 | .row _ :: _, .nil :: _, K, h => h.elim
 | .row _ :: _, .ptr _ _ :: _, K, h => h.elim
 | .row _ :: _, .ep _ _ _ :: _, K, h => h.elim
 | .leaf _ :: _, .row _ :: _, K, h => h.elim
 | .leaf _ :: _, .nil :: _, K, h => h.elim
 | .leaf _ :: _, .ptr _ _ :: _, K, h => h.elim
 | .leaf _ :: _, .ep _ _ _ :: _, K, h => h.elim

theorem refBack {L : LS} (hs : Sd A) (hL : ∀ r, L.r r = find rs r) {own : Bool} : ∀ {cts : List CT} {d e : denC cts} {us us' : List Value} {B0 : List Nat} {b : Nat} {cs : List SC} {ps : List PD}, HC E w0 own cts d us B0 →
  (∀ (j r : Nat), (outC b cts d)[j]? = some (.row r) → cs[j]? = some (.row r)) → PDs rs none A cs ps → parseC cts ps = some e → LenC cts d e → Knows ρ b us → Oks L ρ cs us' → RefV cts e us us'
 | [], d, e, us, us', B0, b, cs, ps, h, _, hp, hpar, _, _, ho => by
  cases hp <;> simp [parseC] at hpar
  cases ho
  exact ⟨h.1, rfl⟩
 | .leaf l :: cts, (d, ds), (e, es), us, us', B0, b, cs, ps, ⟨us1, e1, h⟩, hsame, hp, hpar, hl, hk, ho => by
  subst e1
  cases hp with
  | nil => simp [parseC] at hpar
  | leaf hp =>
   simp only [parseC] at hpar
   split at hpar
   ·rename_i d1 h1
    split at hpar
    ·rename_i d2 h2
     have e3 := Option.some.inj hpar
     obtain ⟨rfl, rfl⟩ := Prod.mk.inj e3
     cases ho with
     | cons hv ho =>
      have := refBack hs hL h (fun j r hj => by simpa using hsame (j + 1) r (by simpa [outC] using hj)) hp h2 hl hk.tail ho
      refine ⟨_, us1, _, rfl, ?_, this⟩
      rw [show _ = _ from hv, LT.get_leaf (l := l) h1]
    ·cases hpar
   ·cases hpar
  | null hp =>
   simp only [parseC, CT.get] at hpar
   cases hpar
  | row hf hlive hp =>
   simp only [parseC, CT.get] at hpar
   cases hpar
 | .row t :: cts, (d, ds), (e, es), us, us', B0, b, cs, ps, ⟨a, c, us1, B', e1, hw, hB, h⟩, hsame, hp, hpar, hl, hk, ho => by
  subst e1
  have h0 := hsame 0 b (by simp [outC])
  cases hp with
  | nil => simp [parseC] at hpar
  | leaf hp => simp at h0
  | null hp => simp at h0
  | row hf hlive hp =>
   rename_i r x l ds'
   obtain rfl : r = b := by simpa using h0
   simp only [parseC] at hpar
   split at hpar
   ·rename_i d1 h1
    split at hpar
    ·rename_i d2 h2
     have e3 := Option.some.inj hpar
     obtain ⟨rfl, rfl⟩ := Prod.mk.inj e3
     cases ho with
     | cons hv ho =>
      have := refBack hs hL h (fun j r hj => by simpa using hsame (j + 1) r (by simpa [outC] using hj)) hp h2 hl.2 hk.tail ho
      obtain ⟨t', xs, own', q⟩ := x
      obtain ⟨rfl, hh⟩ := parseC_row (t := t) (t' := t') (xs := xs) (d := d1) h1
      obtain rfl := eq_of_heq hh
      have hv' := row_val hv ((hL r).trans hf) (hlive hs GT_none)
      obtain ⟨k1, k2⟩ := hk 0 a _ c rfl
      rw [show r + 0 = r from rfl] at k1 k2
      refine ⟨_, us1, _, rfl, ?_, this⟩
      rw [hv', k1, k2, hl.1]
    ·cases hpar
   ·cases hpar

theorem rowNames_outC : ∀ {cts : List CT} {b : Nat} {d : denC cts}, rowNames (outC b cts d) = rowPos b cts
 | [], b, d => rfl
 | .leaf l :: cts, b, (d, ds) => rowNames_outC (cts := cts) (b := b + 1) (d := ds)
 | .row t :: cts, b, (d, ds) => by
  show b :: rowNames (outC (b + 1) cts ds) = b :: rowPos (b + 1) cts
  rw [rowNames_outC]

theorem backK_out {ty : Nat → TypeId} {bs : List (Nat × Blk)} : ∀ {ts : List ATy} {ms : List Mode} {i : Nat} {T : List Nat} {d : denA ts} {K : denA ts → List Nat → Prop}, backK ty bs rs i ts ms T K d →
  ∃ u T2, K u (T2 ++ T) ∧ (∀ r ∈ mutRows i ts ms, r ∈ T2 ∧ ∃ t xs, find rs r = some (some ⟨t, xs, true, none⟩)) ∧
   ∀ (L : LS) (vs : List Value) (ro ow mu rf : List Nat), (∀ r, L.r r = find rs r) → (∀ r x, find rs r = some (some x) → RowOk E w (ρ.ra r) (ρ.rc r) x) → (∀ k b, find bs k = some b → BlkOk w L ρ (ρ.bl k) b) → HA E w0 ts ms d vs ro ow mu rf → LenSame ts ms d u →
    (∀ (j : Nat) (v : Value), vs[j]? = some v → (ms[j]? = some .mut ∨ ms[j]? = some .ref) → Knows ρ ((i + j) * 64) (usOf w0 v) ∧ (ms[j]? = some .ref → ρ.bl (i + j) = gOf v ∧ ty (i + j) = tyOf w0 v)) → Back E w0 w ts ms u vs
 | [], [], i, T, d, K, h => ⟨d, [], h, fun r hr => (by cases hr), fun L vs ro ow mu rf _ _ _ ha _ _ => ha.1⟩
 | t :: ts, .ro :: ms, i, T, (d, ds), K, h => by
  obtain ⟨u, T2, hK, hm, hsem⟩ := backK_out (ts := ts) (ms := ms) (i := i + 1) (d := ds) (K := fun es T => K (d, es) T) h
  refine ⟨(d, u), T2, hK, hm, fun L vs ro ow mu rf h1 h2 h3 ha hl hk => ?_⟩
  obtain ⟨v, vs', us, B, rfl, hc, hsv, ro', rfl, ha⟩ := ha
  exact ⟨v, vs', rfl, hsem L vs' _ _ _ _ h1 h2 h3 ha hl.2 fun j x hj hm => by
   have := hk (j + 1) x (by simpa using hj) (by simpa using hm)
   rw [show i + (j + 1) = i + 1 + j by omega] at this
   simpa using this, trivial⟩
 | t :: ts, .own :: ms, i, T, (d, ds), K, h => by
  obtain ⟨u, T2, hK, hm, hsem⟩ := backK_out (ts := ts) (ms := ms) (i := i + 1) (d := ds) (K := fun es T => K (d, es) T) h
  refine ⟨(d, u), T2, hK, hm, fun L vs ro ow mu rf h1 h2 h3 ha hl hk => ?_⟩
  obtain ⟨v, vs', us, B, rfl, hc, hsv, ro', rfl, ha⟩ := ha
  exact ⟨v, vs', rfl, hsem L vs' _ _ _ _ h1 h2 h3 ha hl.2 fun j x hj hm => by
   have := hk (j + 1) x (by simpa using hj) (by simpa using hm)
   rw [show i + (j + 1) = i + 1 + j by omega] at this
   simpa using this, trivial⟩
 | t :: ts, .giv :: ms, i, T, (d, ds), K, h => by
  obtain ⟨u, T2, hK, hm, hsem⟩ := backK_out (ts := ts) (ms := ms) (i := i + 1) (d := ds) (K := fun es T => K (d, es) T) h
  refine ⟨(d, u), T2, hK, hm, fun L vs ro ow mu rf h1 h2 h3 ha hl hk => ?_⟩
  obtain ⟨v, vs', us, B, rfl, hc, g, tyv, ow', rf', rfl, hh, rfl, rfl, ha⟩ := ha
  exact ⟨_, vs', rfl, hsem L vs' _ _ _ _ h1 h2 h3 ha hl.2 fun j x hj hm => by
   have := hk (j + 1) x (by simpa using hj) (by simpa using hm)
   rw [show i + (j + 1) = i + 1 + j by omega] at this
   simpa using this, trivial⟩
 | t :: ts, .mut :: ms, i, T, (d, ds), K, h => by
  simp only [backK] at h
  have h1 := outK_out h
  clear h
  obtain ⟨ps, A, h2, _, hp⟩ := pdsK_out h1
  clear h1
  split at h2
  ·rename_i e he
   obtain ⟨hA, h3⟩ := h2
   have hA := Sd_of_allP hA.out
   obtain ⟨h4, hown⟩ := ownK_out h3
   have h5 := appK_out h4
   obtain ⟨u, T2, hK, hm, hsem⟩ := backK_out (ts := ts) (ms := ms) (i := i + 1) (d := ds) (K := fun es T => K (t.frm e, es) T) h5
   have hrn : ∀ r ∈ rowNames (outC (i * 64) t.cts (t.to d)), ∃ t xs, find rs r = some (some ⟨t, xs, true, none⟩) := fun r hr => hown r (List.mem_append_left _ (List.mem_reverse.2 hr))
   refine ⟨(t.frm e, u), T2 ++ ((rowNames (outC (i * 64) t.cts (t.to d))).reverse ++ []), by rw [List.append_assoc]; exact hK, fun r hr => ?_, fun L vs ro ow mu rf h1 h2 h3 ha hl hk => ?_⟩
   ·rcases List.mem_append.1 hr with hr | hr
    ·rw [← rowNames_outC (d := t.to d)] at hr
     exact ⟨List.mem_append_right _ (List.mem_append_left _ (List.mem_reverse.2 hr)), hrn r hr⟩
    ·exact ⟨List.mem_append_left _ (hm r hr).1, (hm r hr).2⟩
   ·obtain ⟨v, vs', us, B, rfl, hc, hsv, mu', rfl, ha⟩ := ha
    have hk0 := (hk 0 v rfl (.inl rfl)).1
    rw [Nat.add_zero, usOf_shape hsv hc] at hk0
    have hl0 : LenC t.cts (t.to d) (t.to (t.frm e)) := hl.1
    rw [t.to_frm] at hl0
    obtain ⟨B', hB'⟩ := mutBack (E := E) (w := w) hA h2 hc hp he hl0 hk0 hrn
    refine ⟨v, vs', rfl, hsem L vs' _ _ _ _ h1 h2 h3 ha hl.2 fun j x hj hm => ?_, us, B', hsv, by rw [t.to_frm]; exact hB'⟩
    have := hk (j + 1) x (by simpa using hj) (by simpa using hm)
    rw [show i + (j + 1) = i + 1 + j by omega] at this
    simpa using this
  ·exact h2.elim
 | t :: ts, .ref :: ms, i, T, (d, ds), K, h => by
  simp only [backK] at h
  obtain ⟨⟨bt, cs⟩, hb, h0⟩ := lookK_out h
  clear h
  have h1 := outK_out h0
  clear h0
  obtain ⟨h1, _, hsame⟩ := sameK_out h1
  obtain ⟨ps, A, h2, _, hp⟩ := pdsK_out h1
  clear h1
  split at h2
  ·rename_i e he
   obtain ⟨hbt, hA, h3⟩ := h2
   have hA := Sd_of_allP hA.out
   have hbt : bt = ty i := hbt.out
   obtain ⟨u, T2, hK, hm, hsem⟩ := backK_out (ts := ts) (ms := ms) (i := i + 1) (d := ds) (K := fun es T => K (t.frm e, es) T) h3
   refine ⟨(t.frm e, u), T2, hK, hm, fun L vs ro ow mu rf h1 h2 h3 ha hl hk => ?_⟩
   obtain ⟨v, vs', us, B, rfl, hc, g, tyv, ro', rf', rfl, hh, rfl, rfl, ha⟩ := ha
   have hk0 := hk 0 _ rfl (.inr rfl)
   obtain ⟨hkn, hbl⟩ := hk0
   obtain ⟨hbl, hty⟩ := hbl rfl
   rw [Nat.add_zero] at hkn hbl hty
   have hus : usOf w0 (.pointer (some ⟨g, 0, none⟩)) = us := by simp [usOf, hh]
   rw [hus] at hkn
   have hl0 : LenC t.cts (t.to d) (t.to (t.frm e)) := hl.1
   rw [t.to_frm] at hl0
   obtain ⟨us', hu', hok⟩ := h3 i _ hb
   have hr := refBack (E := E) hA h1 hc hsame hp he hl0 hkn hok
   have ety : bt = tyv := by rw [hbt, hty]; simp [tyOf, hh]
   have ebl : ρ.bl i = g := hbl
   refine ⟨_, vs', rfl, hsem L vs' _ _ _ _ h1 h2 h3 ha hl.2 fun j x hj hm => ?_, g, us, us'.toList, tyv, rfl, hh, ?_, by rw [t.to_frm]; exact hr⟩
   ·have := hk (j + 1) x (by simpa using hj) (by simpa using hm)
    rw [show i + (j + 1) = i + 1 + j by omega] at this
    simpa using this
   ·rw [← ebl, ← ety]
    simpa using hu'
  ·exact h2.elim
 | [], _ :: _, i, T, d, K, h => h.elim
 | _ :: _, [], i, T, d, K, h => h.elim
end
end Go.Eng

namespace Go.Eng
open Go.RowKit

theorem ha_us {E : Env} {w : World} : ∀ {ts : List ATy} {ms : List Mode} {d : denA ts} {vs : List Value} {ro ow mu rf : List Nat}, HA E w ts ms d vs ro ow mu rf → (∀ t ∈ ts, t.cts.length ≤ 64) → ∀ (j : Nat) (v : Value), vs[j]? = some v → (usOf w v).length ≤ 64
  | [], [], d, vs, ro, ow, mu, rf, h, _ => fun j v hj => by rw [h.1] at hj; simp at hj
  | t :: ts, m :: ms, (d, ds), vs, ro, ow, mu, rf, ⟨v, vs', us, B, e1, hc, hm⟩, h64 => fun j u hj => by
    subst e1
    have hl := hc.length
    have h0 := h64 t List.mem_cons_self
    have h1 : ∀ t ∈ ts, t.cts.length ≤ 64 := fun t ht => h64 t (List.mem_cons_of_mem _ ht)
    cases m with
    | ro =>
      obtain ⟨hsv, ro', _, h⟩ := hm
      cases j with
      | zero => obtain rfl : v = u := by simpa using hj
                rw [usOf_shape hsv hc]; omega
      | succ j => exact ha_us h h1 j u (by simpa using hj)
    | own =>
      obtain ⟨hsv, ro', _, h⟩ := hm
      cases j with
      | zero => obtain rfl : v = u := by simpa using hj
                rw [usOf_shape hsv hc]; omega
      | succ j => exact ha_us h h1 j u (by simpa using hj)
    | «mut» =>
      obtain ⟨hsv, ro', _, h⟩ := hm
      cases j with
      | zero => obtain rfl : v = u := by simpa using hj
                rw [usOf_shape hsv hc]; omega
      | succ j => exact ha_us h h1 j u (by simpa using hj)
    | giv =>
      obtain ⟨g, ty, ro', rf', rfl, hh, _, _, h⟩ := hm
      cases j with
      | zero =>
        obtain rfl : _ = u := by simpa using hj
        have : usOf w (.pointer (some ⟨g, 0, none⟩)) = us := by simp [usOf, hh]
        rw [this]; omega
      | succ j => exact ha_us h h1 j u (by simpa using hj)
    | ref =>
      obtain ⟨g, ty, ro', rf', rfl, hh, _, _, h⟩ := hm
      cases j with
      | zero =>
        obtain rfl : _ = u := by simpa using hj
        have : usOf w (.pointer (some ⟨g, 0, none⟩)) = us := by simp [usOf, hh]
        rw [this]; omega
      | succ j => exact ha_us h h1 j u (by simpa using hj)
  | [], _ :: _, d, vs, ro, ow, mu, rf, h, _ => h.elim
  | _ :: _, [], d, vs, ro, ow, mu, rf, h, _ => h.elim

theorem anyK_out : ∀ {n : Nat} {K : List SV → Prop}, anyK n K → K (List.replicate n .any)
  | 0, K, h => h
  | n + 1, K, h => by
    have := anyK_out (n := n) (K := fun l => K (.any :: l)) h
    simpa [List.replicate_succ] using this

theorem mut_fix : ∀ {ts : List ATy} {ms : List Mode} {i : Nat}, ∀ r ∈ mutRows i ts ms, r ∈ fixRows i ts ms
  | [], _, i => fun r hr => by simp [mutRows] at hr
  | _ :: _, [], i => fun r hr => by simp [mutRows] at hr
  | t :: ts, .ro :: ms, i => fun r hr => mut_fix (ts := ts) (ms := ms) (i := i + 1) r hr
  | t :: ts, .own :: ms, i => fun r hr => mut_fix (ts := ts) (ms := ms) (i := i + 1) r hr
  | t :: ts, .giv :: ms, i => fun r hr => mut_fix (ts := ts) (ms := ms) (i := i + 1) r hr
  | t :: ts, .ref :: ms, i => fun r hr => List.mem_append_right _ (mut_fix (ts := ts) (ms := ms) (i := i + 1) r hr)
  | t :: ts, .mut :: ms, i => fun r hr => by
    rcases List.mem_append.1 hr with hr | hr
    · exact List.mem_append_left _ hr
    · exact List.mem_append_right _ (mut_fix (ts := ts) (ms := ms) (i := i + 1) r hr)

theorem setOwn_keys (own : Bool) (rw : List (Nat × Row)) : (setOwn own rw).map (·.1) = rw.map (·.1) := by simp [setOwn, Function.comp_def]

theorem fix_start : ∀ {ts : List ATy} {ms : List Mode} {i : Nat} {d : denA ts}, ∀ r ∈ fixRows i ts ms, r ∈ (startR i ts ms d).map (·.1)
  | [], _, i, d => fun r hr => by simp [fixRows] at hr
  | _ :: _, [], i, d => fun r hr => by simp [fixRows] at hr
  | t :: ts, m :: ms, i, (d, ds) => fun r hr => by
    show r ∈ (setOwn (ownB m) (outR none (i * 64) t.cts (t.to d)) ++ startR (i + 1) ts ms ds).map (·.1)
    rw [List.map_append, setOwn_keys, ← rowPos_eq]
    cases m with
    | ro => exact List.mem_append_right _ (fix_start (ts := ts) (ms := ms) (i := i + 1) (d := ds) r hr)
    | own => exact List.mem_append_right _ (fix_start (ts := ts) (ms := ms) (i := i + 1) (d := ds) r hr)
    | giv => exact List.mem_append_right _ (fix_start (ts := ts) (ms := ms) (i := i + 1) (d := ds) r hr)
    | ref =>
      rcases List.mem_append.1 hr with hr | hr
      · exact List.mem_append_left _ hr
      · exact List.mem_append_right _ (fix_start (ts := ts) (ms := ms) (i := i + 1) (d := ds) r hr)
    | «mut» =>
      rcases List.mem_append.1 hr with hr | hr
      · exact List.mem_append_left _ hr
      · exact List.mem_append_right _ (fix_start (ts := ts) (ms := ms) (i := i + 1) (d := ds) r hr)

theorem fixB_start {ty : Nat → TypeId} : ∀ {ts : List ATy} {ms : List Mode} {i : Nat} {d : denA ts}, ts.length = ms.length → ∀ k, k ∈ fixBlks i ms ↔ k ∈ (startB ty i ts ms d).map (·.1)
  | [], [], i, d, _ => fun k => by simp [fixBlks, startB]
  | [], _ :: _, i, d, h => by simp at h
  | _ :: _, [], i, d, h => by simp at h
  | t :: ts, m :: ms, i, (d, ds), h => fun k => by
    have ih := fixB_start (ty := ty) (ts := ts) (ms := ms) (i := i + 1) (d := ds) (by simpa using h) k
    cases m with
    | ro => exact ih
    | own => exact ih
    | «mut» => exact ih
    | ref =>
      show k ∈ i :: fixBlks (i + 1) ms ↔ k ∈ i :: (startB ty (i + 1) ts ms ds).map (·.1)
      rw [List.mem_cons, List.mem_cons, ih]
    | giv =>
      show k ∈ i :: fixBlks (i + 1) ms ↔ k ∈ i :: (startB ty (i + 1) ts ms ds).map (·.1)
      rw [List.mem_cons, List.mem_cons, ih]

theorem fix_at : ∀ {ts : List ATy} {ms : List Mode} {i : Nat} (j : Nat) (t : ATy), ts[j]? = some t → (ms[j]? = some .mut ∨ ms[j]? = some .ref) → ∀ r ∈ rowPos ((i + j) * 64) t.cts, r ∈ fixRows i ts ms
  | [], _, i, j, t => fun h => by simp at h
  | _ :: _, [], i, j, t => fun _ h => by simp at h
  | t0 :: ts, m :: ms, i, 0, t => fun h hm r hr => by
    obtain rfl : t0 = t := by simpa using h
    rcases hm with hm | hm
    · obtain rfl : m = .mut := by simpa using hm
      exact List.mem_append_left _ hr
    · obtain rfl : m = .ref := by simpa using hm
      exact List.mem_append_left _ hr
  | t0 :: ts, m :: ms, i, j + 1, t => fun h hm r hr => by
    have := fix_at (ts := ts) (ms := ms) (i := i + 1) j t (by simpa using h) (by simpa using hm) r (by rwa [show i + 1 + j = i + (j + 1) by omega])
    cases m with
    | ro => exact this
    | own => exact this
    | giv => exact this
    | ref => exact List.mem_append_right _ this
    | «mut» => exact List.mem_append_right _ this

theorem fixB_at : ∀ {ms : List Mode} {i : Nat} (j : Nat), (ms[j]? = some .ref ∨ ms[j]? = some .giv) → i + j ∈ fixBlks i ms
  | [], i, j => fun h => by simp at h
  | m :: ms, i, 0 => fun h => by
    rcases h with h | h
    · obtain rfl : m = .ref := by simpa using h
      exact List.mem_cons_self
    · obtain rfl : m = .giv := by simpa using h
      exact List.mem_cons_self
  | m :: ms, i, j + 1 => fun h => by
    have := fixB_at (ms := ms) (i := i + 1) j (by simpa using h)
    rw [show i + 1 + j = i + (j + 1) by omega] at this
    cases m with
    | ref => exact List.mem_cons_of_mem _ this
    | giv => exact List.mem_cons_of_mem _ this
    | _ => exact this

theorem noWrites {E : Env} {w w' : World} : ∀ {ts : List ATy} {ms : List Mode} {u u' : denA ts} {vs : List Value}, writesB ms = false → Back E w w' ts ms u vs → Back E w w' ts ms u' vs
  | [], [], u, u', vs, _, h => h
  | t :: ts, .ro :: ms, (u, us), (u', us'), vs, hw, ⟨v, vs', e, h, _⟩ => ⟨v, vs', e, noWrites hw h, trivial⟩
  | t :: ts, .own :: ms, (u, us), (u', us'), vs, hw, ⟨v, vs', e, h, _⟩ => ⟨v, vs', e, noWrites hw h, trivial⟩
  | t :: ts, .giv :: ms, (u, us), (u', us'), vs, hw, ⟨v, vs', e, h, _⟩ => ⟨v, vs', e, noWrites hw h, trivial⟩
  | t :: ts, .mut :: ms, u, u', vs, hw, h => by cases hw
  | t :: ts, .ref :: ms, u, u', vs, hw, h => by cases hw
  | [], _ :: _, u, u', vs, _, h => h.elim
  | _ :: _, [], u, u', vs, _, h => h.elim

theorem noWritesLen : ∀ {ts : List ATy} {ms : List Mode} {u u' : denA ts}, writesB ms = false → LenSame ts ms u u'
  | [], _, u, u', _ => trivial
  | _ :: _, [], u, u', _ => trivial
  | t :: ts, .ro :: ms, (u, us), (u', us'), hw => ⟨trivial, noWritesLen (ts := ts) (ms := ms) hw⟩
  | t :: ts, .own :: ms, (u, us), (u', us'), hw => ⟨trivial, noWritesLen (ts := ts) (ms := ms) hw⟩
  | t :: ts, .giv :: ms, (u, us), (u', us'), hw => ⟨trivial, noWritesLen (ts := ts) (ms := ms) hw⟩
  | t :: ts, .mut :: ms, u, u', hw => by cases hw
  | t :: ts, .ref :: ms, u, u', hw => by cases hw

theorem ha_at {E : Env} {w : World} : ∀ {ts : List ATy} {ms : List Mode} {d : denA ts} {vs : List Value} {ro ow mu rf : List Nat}, HA E w ts ms d vs ro ow mu rf → ∀ (j : Nat) (v : Value), vs[j]? = some v →
    ∃ t m dj B, ts[j]? = some t ∧ ms[j]? = some m ∧ HC E w (ownB m) t.cts dj (usOf w v) B
  | [], [], d, vs, ro, ow, mu, rf, h => fun j v hj => by rw [h.1] at hj; simp at hj
  | t :: ts, m :: ms, (d, ds), vs, ro, ow, mu, rf, ⟨v, vs', us, B, e1, hc, hm⟩ => fun j u hj => by
    subst e1
    cases j with
    | zero =>
      obtain rfl : v = u := by simpa using hj
      refine ⟨t, m, t.to d, B, rfl, rfl, ?_⟩
      have : usOf w v = us := by
        cases m with
        | ref => obtain ⟨g, ty, ro', rf', rfl, hh, _⟩ := hm; simp [usOf, hh]
        | giv => obtain ⟨g, ty, ro', rf', rfl, hh, _⟩ := hm; simp [usOf, hh]
        | ro => exact usOf_shape hm.1 hc
        | own => exact usOf_shape hm.1 hc
        | «mut» => exact usOf_shape hm.1 hc
      rw [this]; exact hc
    | succ j =>
      have hj' : vs'[j]? = some u := by simpa using hj
      have go : ∀ {ro ow mu rf}, HA E w ts ms ds vs' ro ow mu rf → ∃ t' m' dj B, (t :: ts)[j + 1]? = some t' ∧ (m :: ms)[j + 1]? = some m' ∧ HC E w (ownB m') t'.cts dj (usOf w u) B := fun h => by
        obtain ⟨t', m', dj, B, h1, h2, h3⟩ := ha_at h j u hj'
        exact ⟨t', m', dj, B, by simpa using h1, by simpa using h2, h3⟩
      cases m with
      | ref => obtain ⟨g, ty, ro', rf', _, _, _, _, h⟩ := hm; exact go h
      | giv => obtain ⟨g, ty, ro', rf', _, _, _, _, h⟩ := hm; exact go h
      | ro => obtain ⟨_, _, _, h⟩ := hm; exact go h
      | own => obtain ⟨_, _, _, h⟩ := hm; exact go h
      | «mut» => obtain ⟨_, _, _, h⟩ := hm; exact go h
  | [], _ :: _, d, vs, ro, ow, mu, rf, h => h.elim
  | _ :: _, [], d, vs, ro, ow, mu, rf, h => h.elim
end Go.Eng

namespace Go.Eng
open Go.RowKit

def eidsB (E : Env) (l : List ATy) : Bool := l.all fun a => a.cts.all fun
 | .row t => (E.eid t).isSome
 | .leaf _ => true

theorem eidsB_out {E : Env} {l : List ATy} (h : eidsB E l = true) : ∀ a ∈ l, ∀ t, CT.row t ∈ a.cts → ∃ e, E.eid t = some e := fun a ha t ht => by
 have h1 := List.all_eq_true.1 h a ha
 have h2 := List.all_eq_true.1 h1 _ ht
 exact Option.isSome_iff_exists.1 h2

def viaB : Via → List ATy → Bool
 | .new _, t :: _ => match t.agg, t.cts with
  | false, .row _ :: _ => true
  | _, _ => false
 | .new _, [] => false
 | _, _ => true

theorem via_start : ∀ {v : Via} {ts : List ATy} {ms : List Mode} {d : denA ts}, viaB v ts = true → ts.length = ms.length → ∀ r ∈ fixVia v, r ∈ (startR 0 ts ms d).map (·.1)
 | .ret, ts, ms, d, _, _, r, hr => by cases hr
 | .into, ts, ms, d, _, _, r, hr => by cases hr
 | .new t, [], ms, d, h, _, r, hr => by cases h
 | .new t, _ :: _, [], d, _, h, r, hr => by simp at h
 | .new t, a :: ts, m :: ms, (d, ds), h, _, r, hr => by
  obtain rfl : r = 0 := by simpa [fixVia] using hr
  show 0 ∈ (setOwn (ownB m) (outR none (0 * 64) a.cts (a.to d)) ++ startR (0 + 1) ts ms ds).map (·.1)
  rw [List.map_append, setOwn_keys, ← rowPos_eq]
  refine List.mem_append_left _ ?_
  rcases a with ⟨T, agg, cts, to, frm, tf⟩
  cases agg with
  | true => cases h
  | false =>
   cases cts with
   | nil => cases h
   | cons c cts =>
    cases c with
    | leaf l => cases h
    | row e => exact List.mem_cons_self

theorem headRow_out {E : Env} {w : World} : ∀ {ts : List ATy} {x : denA ts} {K : ETy → Nat → Prop}, headRow ts x K →
  ∃ e n, K e n ∧ ∀ (ms : List Mode) (vs : List Value) (ro ow mu rf : List Nat), roModes ms = true → HA E w ts ms x vs ro ow mu rf → ∃ a c, vs.head? = some (.slice a n c)
 | [], x, K, h => h.elim
 | t :: ts, (d, ds), K, h => by
  rcases t with ⟨T, agg, cts, to, frm, tf⟩
  cases agg with
  | true => exact h.elim
  | false =>
   cases cts with
   | nil => exact h.elim
   | cons c cts =>
    cases c with
    | leaf l => exact h.elim
    | row e =>
     cases cts with
     | cons c cts => exact h.elim
     | nil =>
      refine ⟨e, (to d).1.length, h, fun ms vs ro ow mu rf hm ha => ?_⟩
      cases ms with
      | nil => exact ha.elim
      | cons m ms =>
       cases m with
       | ro =>
        obtain ⟨v, vs', us, B, rfl, hc, hsv, _⟩ := ha
        obtain ⟨a, c, us', B', e1, _⟩ := hc
        obtain rfl : us = [v] := hsv
        injection e1 with e1
        exact ⟨a, c, by rw [e1]; rfl⟩
       | _ => cases hm

theorem HA.quiet {E : Env} {w : World} : ∀ {ts : List ATy} {ms : List Mode} {d : denA ts} {vs : List Value} {ro ow mu rf : List Nat}, HA E w ts ms d vs ro ow mu rf → roModes ms = true → ow = [] ∧ mu = [] ∧ rf = []
 | [], [], d, vs, ro, ow, mu, rf, ⟨_, _, h3, h4, h5⟩, _ => ⟨h3, h4, h5⟩
 | t :: ts, .ro :: ms, (d, ds), vs, ro, ow, mu, rf, ⟨v, vs', us, B, e1, hc, hsv, ro', _, h⟩, hm => HA.quiet h hm
 | t :: ts, .own :: ms, (d, ds), vs, ro, ow, mu, rf, _, h => by cases h
 | t :: ts, .mut :: ms, (d, ds), vs, ro, ow, mu, rf, _, h => by cases h
 | t :: ts, .ref :: ms, (d, ds), vs, ro, ow, mu, rf, _, h => by cases h
 | t :: ts, .giv :: ms, (d, ds), vs, ro, ow, mu, rf, _, h => by cases h
 | [], _ :: _, d, vs, ro, ow, mu, rf, h, _ => h.elim
 | _ :: _, [], d, vs, ro, ow, mu, rf, h, _ => h.elim

theorem HA.giv0 {E : Env} {w : World} : ∀ {ts : List ATy} {ms : List Mode} {d : denA ts} {vs : List Value} {ro ow mu rf : List Nat}, HA E w ts (.giv :: ms) d vs ro ow mu rf → ∃ g us ty, vs.head? = some (.pointer (some ⟨g, 0, none⟩)) ∧ w.heap[g]? = some (.cells us ty (0, 0))
 | [], ms, d, vs, ro, ow, mu, rf, h => h.elim
 | t :: ts, ms, (d, ds), vs, ro, ow, mu, rf, ⟨v, vs', us, B, e1, hc, g, ty, ow', rf', e2, hh, _⟩ => ⟨g, _, ty, by rw [e1, e2]; rfl, hh⟩

theorem holds_of_fnK {E : Env} {Γ : List (Nat × Ctr)} (hE : EnvOk E) (hΓ : ∀ f c, find Γ f = some c → c.holds E f) (hdr : DrawnOk E Γ) {f : Nat} {c : Ctr} {fn : Func} {code : Code}
  (hf : E.P.funcs[f]? = some fn) (hb : fn.body = some code) (hname : (fn.name == "runtime.NumGoroutine") = false) (heid : (eidsB E c.ins && eidsB E c.outs && (c.ins.all fun t => Nat.ble t.cts.length 64) && viaB c.via c.ins) = true)
  (hlen : ∀ x, c.pre x → LenSame c.ins c.modes x (c.upd x)) (h : ∀ ty x, c.pre x → ∃ Λ, fnK E Γ Λ c fn ty x) : c.holds E f := by
 rw [Bool.and_eq_true, Bool.and_eq_true, Bool.and_eq_true] at heid
 obtain ⟨⟨⟨he1, he2⟩, h64⟩, hvb⟩ := heid
 have h64 : ∀ t ∈ c.ins, t.cts.length ≤ 64 := fun t ht => Nat.le_of_ble_eq_true (List.all_eq_true.1 h64 t ht)
 have hei := eidsB_out he1
 have heo := eidsB_out he2
 refine ⟨⟨fn, hf, hname, by rw [hb]; rfl⟩, fun a ha => ha.elim (hei a) (heo a), ?_⟩
 intro x w args ro ow mu rf hpre ha hnd hdis
 let ty : Nat → TypeId := fun i => tyOf w (args.getD i undef)
 let ρ : Val := ⟨fun i => gOf (args.getD i undef), fun r => (sliceAt (usOf w (args.getD (r / 64) undef)) (r % 64)).1, fun r => (sliceAt (usOf w (args.getD (r / 64) undef)) (r % 64)).2⟩
 have hk : ∀ (j : Nat) (v : Value), args[j]? = some v → Knows ρ ((0 + j) * 64) (usOf w v) ∧ ρ.bl (0 + j) = gOf v ∧ ty (0 + j) = tyOf w v := fun j v hj => by
  have hv : args.getD (0 + j) undef = v := by simp [List.getD, hj]
  refine ⟨fun q a n cc hq => ?_, by show gOf _ = _; rw [hv], by show tyOf w _ = _; rw [hv]⟩
  have hq64 := ha_us ha h64 j v hj
  have hqlt : q < (usOf w v).length := (List.getElem?_eq_some_iff.1 hq).1
  have e1 : ((0 + j) * 64 + q) / 64 = 0 + j := by omega
  have e2 : ((0 + j) * 64 + q) % 64 = q := by omega
  show (sliceAt (usOf w (args.getD (((0 + j) * 64 + q) / 64) undef)) (((0 + j) * 64 + q) % 64)).1 = a ∧ (sliceAt (usOf w (args.getD (((0 + j) * 64 + q) / 64) undef)) (((0 + j) * 64 + q) % 64)).2 = cc
  rw [e1, e2, hv]
  simp [sliceAt, hq]
 obtain ⟨Λ, hfnk⟩ := h ty x hpre
 unfold fnK at hfnk
 rw [hb] at hfnk
 dsimp only at hfnk
 obtain ⟨hml, hfnk⟩ := startK_out hfnk
 have hfnk := appK_out (anyK_out hfnk)
 have SO := start_ok (ty := ty) (ρ := ρ) ha h64 hk
 generalize hS0 : (⟨startV 0 c.ins c.modes x ++ List.replicate (fn.ntmps - (startV 0 c.ins c.modes x).length) .any, startB ty 0 c.ins c.modes x, startR 0 c.ins c.modes x⟩ : St) = S0 at hfnk
 let F := fixVia c.via ++ fixRows 0 c.ins c.modes
 let FB := fixBlks 0 c.modes
 let fb : Nat → Option Nat := fun k => if k ∈ FB then some (ρ.bl k) else none
 let fr : Nat → Option (Option Addr × Nat) := fun r => if r ∈ F then some (ρ.ra r, ρ.rc r) else none
 let L0 := lk fb fr S0
 have hLr : ∀ r e, (r, e) ∈ startR 0 c.ins c.modes x → L0.r r = some e := fun r e hr => by
  show find S0.rs r = some e
  rw [← hS0]
  exact find_of_mem SO.rkeys hr
 have hLb : ∀ k b, (k, b) ∈ startB ty 0 c.ins c.modes x → L0.b k = some b := fun k b hr => by
  show find S0.bs k = some b
  rw [← hS0]
  exact find_of_mem SO.bkeys hr
 have hLr' : ∀ r e, L0.r r = some e → (r, e) ∈ startR 0 c.ins c.modes x := fun r e hr => by
  have hr : find S0.rs r = some e := hr
  rw [← hS0] at hr
  exact mem_of_find hr
 have hLb' : ∀ k b, L0.b k = some b → (k, b) ∈ startB ty 0 c.ins c.modes x := fun r e hr => by
  have hr : find S0.bs r = some e := hr
  rw [← hS0] at hr
  exact mem_of_find hr
 let KO : List Key := (ownKeys (startR 0 c.ins c.modes x)).map Key.r ++ ((startB ty 0 c.ins c.modes x).map (·.1)).map Key.b
 have hKO : KO.filterMap ρ.at = (ownKeys (startR 0 c.ins c.modes x)).filterMap (bk ρ) ++ ((startB ty 0 c.ins c.modes x).map (·.1)).map ρ.bl := by
  simp only [KO]
  rw [List.filterMap_append, List.filterMap_map, List.filterMap_map]
  congr 1
  exact congrFun (List.filterMap_eq_map (f := ρ.bl)) _
 have hperm : (ow ++ mu ++ rf).Perm (KO.filterMap ρ.at) := by
  rw [hKO, SO.rf]
  exact SO.own.append_right _
 have hKOn : (KO.filterMap ρ.at).Nodup := hperm.nodup_iff.1 hnd
 have hownK : ∀ z, L0.own z → z ∈ KO := fun z hz => by
  cases z with
  | b k =>
   obtain ⟨b, hb⟩ := hz
   exact List.mem_append_right _ (List.mem_map.2 ⟨k, List.mem_map.2 ⟨(k, b), hLb' k b hb, rfl⟩, rfl⟩)
  | r r =>
   obtain ⟨y, hy, ho, _⟩ := hz
   refine List.mem_append_left _ (List.mem_map.2 ⟨r, List.mem_filterMap.2 ⟨(r, some y), hLr' r _ hy, ?_⟩, rfl⟩)
   simp [ho]
 have hhasK : ∀ z, L0.has z → z ∈ KO ∨ ∃ r, z = .r r ∧ r ∈ roKeys (startR 0 c.ins c.modes x) := fun z hz => by
  cases z with
  | b k => exact .inl (hownK _ hz)
  | r r =>
   obtain ⟨y, hy, hl⟩ := hz
   cases ho : y.own with
   | true => exact .inl (hownK _ ⟨y, hy, ho, hl⟩)
   | false =>
    refine .inr ⟨r, rfl, List.mem_filterMap.2 ⟨(r, some y), hLr' r _ hy, ?_⟩⟩
    simp [ho]
 have hKOmem : ∀ z ∈ KO, ∀ g, ρ.at z = some g → g ∈ ow ++ mu ++ rf := fun z hz g hg => hperm.mem_iff.2 (List.mem_filterMap.2 ⟨z, hz, hg⟩)
 have hn0 : S0.vs.length = args.length + (fn.ntmps - args.length) := by rw [← hS0]; simp [SO.len]
 have hD0 : Den E w (ow ++ mu ++ rf) S0.vs.length L0 ρ { tmps := args.toArray ++ Array.replicate (fn.ntmps - args.toArray.size) undef, defers := [] } w := by
  refine ⟨by rw [hn0]; simp, rfl, fun i v hv => ?_, fun k b hkb => ?_, fun r y hy => ?_, fun z y hz hy hne g hg hgy => ?_, fun z hz g hg => .inr (hKOmem z (hownK z hz) g hg), Kept.refl _ _, fun k g hkg => ?_, fun r q hrq => ?_⟩
  ·show SV.ok L0 ρ (S0.vs.getD i .any) v
   rw [← hS0]
   rcases Nat.lt_or_ge i args.length with hlt | hge
   ·have hv' : args[i]? = some v := by
     rw [Array.getElem?_append_left (by simpa using hlt)] at hv
     simpa using hv
    have hlt2 : i < (startV 0 c.ins c.modes x).length := by rw [SO.len]; exact hlt
    have e : (startV 0 c.ins c.modes x ++ List.replicate (fn.ntmps - (startV 0 c.ins c.modes x).length) SV.any).getD i .any = (startV 0 c.ins c.modes x)[i] := by
     simp [List.getD, List.getElem?_append_left hlt2, hlt2]
    rw [e]
    exact SO.slots L0 hLr hLb i _ v (List.getElem?_eq_getElem hlt2) hv'
   ·have e : (startV 0 c.ins c.modes x ++ List.replicate (fn.ntmps - (startV 0 c.ins c.modes x).length) SV.any).getD i .any = .any := by
     rw [List.getD, List.getElem?_append_right (by rw [SO.len]; exact hge), List.getElem?_replicate]
     split <;> rfl
    rw [e]
    trivial
  ·obtain ⟨_, us, hu, ho⟩ := SO.blks k b (hLb' k b hkb)
   exact ⟨us, hu, ho L0 hLr⟩
  ·obtain ⟨_, y', e, hg, hra⟩ := SO.rows r _ (hLr' r _ hy)
   cases e
   exact as_ok hra
  ·rcases hhasK y hy with hyK | ⟨r, rfl, hr⟩
   ·exact filterMap_ne hKOn (hownK z hz) hyK hne g hg hgy
   ·refine hdis g (hKOmem z (hownK z hz) g hg) ?_
    rw [SO.ro]
    exact List.mem_filterMap.2 ⟨r, hr, hgy⟩
  ·have hkg : (if k ∈ FB then some (ρ.bl k) else none) = some g := hkg
   split at hkg
   ·rename_i hm
    obtain ⟨⟨k', b⟩, hkb, rfl⟩ := List.mem_map.1 ((fixB_start (ty := ty) (d := x) hml k).1 hm)
    exact ⟨⟨b, hLb _ _ hkb⟩, Option.some.inj hkg⟩
   ·cases hkg
  ·have hrq : (if r ∈ F then some (ρ.ra r, ρ.rc r) else none) = some q := hrq
   split at hrq
   ·rename_i hm
    obtain ⟨⟨r', e⟩, hre, rfl⟩ := List.mem_map.1 ((List.mem_append.1 hm).elim (via_start (d := x) hvb hml r) (fix_start (d := x) r))
    cases hrq
    exact ⟨⟨e, hLr _ _ hre⟩, rfl, rfl⟩
   ·cases hrq
 have hFr : ∀ r q, fr r = some q → r ∈ F := fun r q hq => by
  have hq : (if r ∈ F then some (ρ.ra r, ρ.rc r) else none) = some q := hq
  split at hq
  ·assumption
  ·cases hq
 have hFb : ∀ k g, fb k = some g → k ∈ FB := fun r q hq => by
  have hq : (if r ∈ FB then some (ρ.bl r) else none) = some q := hq
  split at hq
  ·assumption
  ·cases hq
 have hwp := vcK_sound hE hΓ hdr hFr hFb w (ow ++ mu ++ rf) S0.vs.length code hfnk rfl hD0
 refine calls_of_wp hf hb (wp_mono hwp ?_)
 rintro ex a w' ⟨e, S', ρ', rfl, hK, hn', hD'⟩
 -- behind the code
 have fin : retK E c ty x fn.results.toList S' → a.defers = [] ∧ ∃ v, (results fn a.tmps).run E.P w' = .ok v w' ∧ HR E w c x args ow mu rf v w' := by
  intro hK
  refine ⟨hD'.defers, ?_⟩
  obtain ⟨vs', bs', rs'⟩ := S'
  unfold retK at hK
  dsimp only at hK
  obtain ⟨ys, h1, hres⟩ := resK_out (E := E) (w0 := w) (C := ow ++ mu ++ rf) (n := S0.vs.length) (a := a) (w := w') (fb := fb) (fr := fr) hK
  obtain ⟨vals, hrun, hok⟩ := hres ρ' hD' hn'
  obtain ⟨v, hv, hrv⟩ := results_run hrun
  have hfr' : ∀ r ∈ F, ρ'.ra r = ρ.ra r ∧ ρ'.rc r = ρ.rc r := fun r hr => by
   obtain ⟨_, e1, e2⟩ := hD'.fixr r (ρ.ra r, ρ.rc r) (by show (if r ∈ F then _ else _) = _; rw [if_pos hr])
   exact ⟨e1, e2⟩
  have hfb' : ∀ k ∈ FB, (lk fb fr ⟨vs', bs', rs'⟩).own (.b k) ∧ ρ'.bl k = ρ.bl k := fun k hk => hD'.fixb k (ρ.bl k) (by show (if k ∈ FB then _ else _) = _; rw [if_pos hk])
  have hvia : ∃ ys2 vals2, (insK rs' none c.outs [] [] ys2 fun y A R => ownPK c.part rs' R <| backK ty bs' rs' 0 c.ins c.modes R (fun u T => match nodupB T with
    | true => match writesB c.modes with
     | true => sidesK A (Ob (y = c.model x ∧ u = c.upd x))
     | false => sidesK A (Ob (y = c.model x))
    | false => False) x) ∧ OkAs (lk fb fr ⟨vs', bs', rs'⟩) ρ' ys2 vals2 ∧ ViaV w w' c.via c.modes args vals2 v := by
   generalize hvv : c.via = via at h1 ⊢
   unfold viaEndK at h1
   split at h1
   ·exact ⟨ys, vals, h1, hok, hrv⟩
   ·split at h1
    ·rename_i ms hms
     obtain ⟨⟨bt, cs⟩, hb0, h1⟩ := lookK_out h1
     obtain ⟨hbt, h1⟩ := h1
     have hbt := hbt.out
     rw [hms] at ha
     obtain ⟨g, us, tyv, hga, hgh⟩ := ha.giv0
     obtain ⟨us', hu', ho'⟩ := hD'.blks 0 ⟨bt, cs⟩ hb0
     have hg0 : args.getD 0 undef = .pointer (some ⟨g, 0, none⟩) := by
      cases args with
      | nil => cases hga
      | cons a l => simpa using hga
     have hbl : ρ'.bl 0 = g := by
      rw [(hfb' 0 (fixB_at (i := 0) 0 (.inr (by rw [hms]; rfl)))).2]
      show gOf (args.getD 0 undef) = g
      rw [hg0]; rfl
     have hty : bt = tyv := by
      rw [hbt]
      show tyOf w (args.getD 0 undef) = tyv
      rw [hg0]; simp [tyOf, hgh]
     cases hok
     refine ⟨_, [.agg us'], h1, .cons ⟨us'.toList, by simp, ho'⟩ .nil, g, us, us', tyv, by rw [hms]; rfl, hga, hgh, ?_, rfl, hrv⟩
     rw [← hbl, ← hty]
     exact hu'
    ·exact h1.elim
   ·split at h1
    ·rename_i t k hro
     obtain ⟨⟨bt, cs⟩, hbk, h1⟩ := lookK_out h1
     split at h1
     ·rename_i bt cs heq
      cases heq
      obtain ⟨e, n, h1, hhr⟩ := headRow_out (E := E) (w := w) h1
      obtain ⟨q, hq, h1⟩ := lookK_out h1
      split at h1
      ·rename_i t2 xs2
       obtain ⟨ho, h1⟩ := h1
       obtain ⟨hbt, hxl⟩ := ho.out
       obtain ⟨a0, c0, hh0⟩ := hhr _ _ _ _ _ _ hro ha
       obtain ⟨q1, q2, q3⟩ := ha.quiet hro
       obtain ⟨us', hu', ho'⟩ := hD'.blks k ⟨bt, .row 0 :: cs⟩ hbk
       have hg0 : args.getD 0 undef = .slice a0 n c0 := by
        cases args with
        | nil => cases hh0
        | cons a l => simpa using hh0
       have hF0 : 0 ∈ F := List.mem_append_left _ (by rw [hvv]; exact List.mem_cons_self)
       obtain ⟨f1, f2⟩ := hfr' 0 hF0
       have r1 : ρ.ra 0 = a0 := by
        show (sliceAt (usOf w (args.getD (0 / 64) undef)) (0 % 64)).1 = a0
        rw [show 0 / 64 = 0 from rfl, hg0]; rfl
       have r2 : ρ.rc 0 = c0 := by
        show (sliceAt (usOf w (args.getD (0 / 64) undef)) (0 % 64)).2 = c0
        rw [show 0 / 64 = 0 from rfl, hg0]; rfl
       cases hok with
       | cons hp0 hnil =>
        cases hnil
        obtain ⟨_, hp0⟩ := hp0
        have hfresh : w.heap.size ≤ ρ'.bl k := by
         rcases hD'.bound (.b k) ⟨_, hbk⟩ (ρ'.bl k) rfl with h | h
         ·exact h
         ·rw [q1, q2, q3] at h; cases h
        have hus : ∃ u us1, us'.toList = u :: us1 ∧ SC.ok (lk fb fr ⟨vs', bs', rs'⟩) ρ' (.row 0) u ∧ Oks (lk fb fr ⟨vs', bs', rs'⟩) ρ' cs us1 := by
         revert ho'
         generalize us'.toList = ul
         intro ho'
         cases ho' with
         | cons h0 h1 => exact ⟨_, _, rfl, h0, h1⟩
        obtain ⟨u, us1, hul, hu0, hok1⟩ := hus
        have huv := row_val hu0 hq Row.live_none
        dsimp only at huv
        rw [f1, f2, r1, r2, hxl] at huv
        refine ⟨_, [.agg us1.toArray], h1, .cons ⟨us1, rfl, hok1⟩ .nil, ρ'.bl k, u, us1, hro, by rw [hh0, huv], hfresh, ?_, rfl, ?_⟩
        ·rw [← hul, hu', hbt]
        ·rw [← hp0]; exact hrv
      ·exact h1.elim
     ·exact h1.elim
    ·exact h1.elim
  obtain ⟨ys, vals, h1, hok, hrv⟩ := hvia
  obtain ⟨y, A, Rn, R', h2, _, hp, hlv, hins⟩ := insK_out (E := E) (w := w') (ρ := ρ') (L := lk fb fr ⟨vs', bs', rs'⟩) (own := !c.part) h1
  obtain ⟨h3, hown⟩ := ownPK_out h2
  obtain ⟨u, T2, h4, hmut, hback⟩ := backK_out (E := E) (w0 := w) (w := w') (ρ := ρ') h3
  rw [List.append_nil] at hp
  split at h4
  ·rename_i hT
   have hT := nodupB_out hT
   obtain ⟨t1, t2, t3⟩ := List.nodup_append.1 hT
   have main : Sd A → y = c.model x → LenSame c.ins c.modes x u → (Back E w w' c.ins c.modes u args → Back E w w' c.ins c.modes (c.upd x) args) → ∃ v, (results fn a.tmps).run E.P w' = .ok v w' ∧ HR E w c x args ow mu rf v w' := by
    intro hA hy hls hbk
    have hRw : (!c.part) = true → ∀ r ∈ Rn, ∃ t xs, find rs' r = some (some ⟨t, xs, true, none⟩) := fun hpt r hr => by
     obtain ⟨t, xs, q, hf, hq⟩ := hown r (hp.mem_iff.2 hr)
     obtain rfl := hq (by cases h : c.part <;> simp_all)
     exact ⟨t, xs, hf⟩
    have hRown : ∀ r ∈ Rn, (lk fb fr ⟨vs', bs', rs'⟩).own (.r r) := fun r hr => by
     obtain ⟨t, xs, q, hf, _⟩ := hown r (hp.mem_iff.2 hr)
     obtain ⟨z, hz, hzl⟩ := hlv r hr
     rw [hf] at hz
     obtain rfl := Option.some.inj (Option.some.inj hz)
     exact ⟨_, hf, rfl, hzl hA⟩
    obtain ⟨US, hUS⟩ := hins vals hA (fun _ => rfl) hD'.rows hok hRw heo
    have hRn : Rn.Nodup := hp.nodup_iff.1 t2
    have ownR : ∀ r, (∃ t xs, find rs' r = some (some ⟨t, xs, true, none⟩)) → (lk fb fr ⟨vs', bs', rs'⟩).own (.r r) := fun r ⟨t, xs, h⟩ => ⟨_, h, rfl, Row.live_none⟩
    refine ⟨v, hv, hD'.kept, ⟨vals, US, _, hrv, by rw [← hy]; exact hUS, ?_, fun g hg => ?_⟩, hbk ?_⟩
    ·refine nodup_filterMap hRn fun r hr r' hr' hne g hg hg' => ?_
     exact hD'.apart (.r r) (.r r') (hRown r hr) (LS.own_has (hRown r' hr')) (fun e => hne (by cases e; rfl)) g hg hg'
    ·obtain ⟨r, hr, hrg⟩ := List.mem_filterMap.1 hg
     have hor := hRown r hr
     rcases hD'.bound (.r r) hor g hrg with hge | hC
     ·exact .inl hge
     ·rcases List.mem_append.1 hC with hC | hC
      ·rcases List.mem_append.1 hC with hC | hC
       ·exact .inr hC
       ·obtain ⟨r', hr', hb'⟩ := SO.mu g hC
        obtain ⟨hT2, hro'⟩ := hmut r' hr'
        have hat : ρ'.at (.r r') = some g := by
         show (ρ'.ra r').map _ = _
         rw [(hfr' r' (List.mem_append_right _ (mut_fix r' hr'))).1]
         exact hb'
        refine (hD'.apart (.r r) (.r r') hor (LS.own_has (ownR r' hro')) (fun e => ?_) g hrg hat).elim
        cases e
        exact t3 r hT2 r (hp.mem_iff.2 hr) rfl
      ·rw [SO.rf] at hC
       obtain ⟨k, hk', hkg⟩ := List.mem_map.1 hC
       obtain ⟨ho, hbl⟩ := hfb' k ((fixB_start (ty := ty) (d := x) hml k).2 hk')
       exact (hD'.apart (.r r) (.b k) hor (LS.own_has ho) (by simp) g hrg (by show some (ρ'.bl k) = _; rw [hbl, hkg])).elim
    ·refine hback (lk fb fr ⟨vs', bs', rs'⟩) args ro ow mu rf (fun _ => rfl) hD'.rows hD'.blks ha hls fun j v hj hm => ?_
     obtain ⟨k1, k2, k3⟩ := hk j v hj
     obtain ⟨t, m, dj, B, ht, hmj, hc⟩ := ha_at ha j v hj
     refine ⟨fun q a' n' c' hq => ?_, fun href => ⟨?_, k3⟩⟩
     ·obtain ⟨z, hz⟩ := hc.isRow (g := none) (b := (0 + j) * 64) q a' n' c' hq
      have hin : (0 + j) * 64 + q ∈ rowPos ((0 + j) * 64) t.cts := by
       rw [rowPos_eq (g := none) (d := dj)]
       exact List.mem_map.2 ⟨_, hz, rfl⟩
      have := hfr' _ (List.mem_append_right _ (fix_at j t ht hm _ hin))
      rw [this.1, this.2]
      exact k1 q a' n' c' hq
     ·rw [(hfb' _ (fixB_at j (.inl href))).2]
      exact k2
   split at h4
   ·obtain ⟨hA, ho⟩ := sidesK_out h4
    obtain ⟨ho1, ho2⟩ := ho.out
    exact main hA ho1 (by rw [ho2]; exact hlen x hpre) (fun h => by rw [ho2] at h; exact h)
   ·rename_i hw
    obtain ⟨hA, ho⟩ := sidesK_out h4
    exact main hA ho.out (noWritesLen hw) (noWrites hw)
  ·exact h4.elim
 cases e with
 | normal =>
  obtain ⟨h1, v, h2, h3⟩ := fin hK
  exact ⟨h1, v, h2, h3⟩
 | exit id => exact hK.elim
 | ret =>
  obtain ⟨h1, v, h2, h3⟩ := fin hK
  exact ⟨h1, v, h2, h3⟩
end Go.Eng

