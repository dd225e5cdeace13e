/- The symbolic executor over the model of Go, with its proof; part 6. It speaks of no law by itself. -/
import Derived.Test.YtjlbibidgdnjdaaGreatEng5
import GoSem.ClaimWide
import Derived.Carry
import Derived.ChangeSame
import Derived.Below
import Derived.JoinedOf
import Derived.KernelRfl
set_option linter.unusedVariables false
set_option linter.unusedSimpArgs false
namespace Go.Eng
open Go.RowKit

section
variable {E : Env} {w : World} {H : Type} {enc : TypeId × Value → H} {sp : Nat → Bool} {held : Bool}

/-- Every slice's block is there. -/
def There (w : World) (cs : List Value) : Prop := ∀ v ∈ cs, ∀ a l c, v = .slice (some a) l c → a.block < w.heap.size

theorem cells?_get {b : Nat} {a : Addr} {n : Nat} {us : List Value} (h : w.cells? b a n = some us) : us.length = n ∧ ∀ j u, us[j]? = some u → w.cell? (a.add j) = some u := by
  unfold World.cells? at h
  split at h
  · have key : ∀ (l : List Nat) (r : List Value), l.mapM (fun i => w.cell? (a.add i)) = some r → r.length = l.length ∧ ∀ (j i : Nat), l[j]? = some i → ∃ u, r[j]? = some u ∧ w.cell? (a.add i) = some u := by
      intro l
      induction l with
      | nil => intro r hr; rw [List.mapM_nil] at hr; cases hr; exact ⟨rfl, fun j i h => by simp at h⟩
      | cons i l ih =>
        intro r hr
        rw [List.mapM_cons] at hr
        obtain ⟨y, hy, hr⟩ := Option.bind_eq_some_iff.1 hr
        obtain ⟨ys, hys, hr⟩ := Option.bind_eq_some_iff.1 hr
        cases hr
        obtain ⟨h1, h2⟩ := ih ys hys
        refine ⟨by simp [h1], fun j i' hj => ?_⟩
        cases j with
        | zero =>
          obtain rfl : i = i' := by simpa using hj
          exact ⟨y, rfl, hy⟩
        | succ j => simpa using h2 j i' (by simpa using hj)
    obtain ⟨h1, h2⟩ := key _ _ h
    rw [List.length_range] at h1
    refine ⟨h1, fun j u hj => ?_⟩
    have hlt : j < n := by rw [← h1]; exact (List.getElem?_eq_some_iff.1 hj).1
    obtain ⟨u', hu', hc⟩ := h2 j j (by simp [hlt])
    rw [hj] at hu'
    cases hu'
    exact hc
  · cases h

theorem leafs_app {a b : List CT} (h : leafs a = none ∨ leafs b = none) : leafs (a ++ b) = none := by
  induction a with
  | nil =>
    rcases h with h | h
    · cases h
    · exact h
  | cons c a ih =>
    cases c with
    | row t => rfl
    | leaf l =>
      have h' : leafs a = none ∨ leafs b = none := by
        rcases h with h | h
        · simp only [leafs] at h
          split at h
          · cases h
          · rename_i hn; exact .inl hn
        · exact .inr h
      show leafs (.leaf l :: (a ++ b)) = none
      simp only [leafs, ih h']

theorem layT_read : ∀ k, (∀ t cts, layT E k t = some cts → ∀ n cs x, DataW.trod enc E.P w 0 sp held n t cs = some x → (leafs cts = none → There w cs) → ∃ d B, HC E w false cts d cs B ∧ wfC cts d) ∧
    (∀ fs off cts, layFs E k fs off = some cts → ∀ n (whole : List Value) xs, (fs.mapM fun f => DataW.trod enc E.P w 0 sp held n f.type ((whole.drop f.offset).take (E.P.cellsOf f.type))) = some xs → (leafs cts = none → There w whole) →
      ∃ d B, HC E w false cts d ((whole.drop off).take cts.length) B ∧ wfC cts d) := by
  intro k
  induction k with
  | zero =>
    refine ⟨fun t cts h => by simp [layT] at h, fun fs off cts h n whole xs hx ht => ?_⟩
    cases fs with
    | nil =>
      obtain rfl : [] = cts := by simpa [layFs] using h
      exact ⟨(), [], ⟨by simp, rfl⟩, trivial⟩
    | cons f fs => simp [layFs] at h
  | succ k ih =>
    obtain ⟨ihT, ihF⟩ := ih
    refine ⟨fun t cts h n cs x hx ht => ?_, fun fs off cts h n whole xs hx ht => ?_⟩
    · simp only [layT] at h
      split at h
      · rename_i hu
        obtain rfl := Option.some.inj h
        obtain ⟨b, rfl⟩ := trod_bool hu hx
        exact ⟨(b, ()), [], ⟨[], rfl, rfl, rfl⟩, trivial, trivial⟩
      · rename_i hu
        obtain rfl := Option.some.inj h
        obtain ⟨m, rfl, hw⟩ := trod_int' hu hx
        have hw' := hw
        simp [Lit.wf, IntKind.min, IntKind.max, IntKind.signed, IntKind.bits] at hw'
        exact ⟨(m, ()), [], ⟨[], rfl, rfl, rfl⟩, hw', trivial⟩
      · rename_i hu
        obtain rfl := Option.some.inj h
        obtain ⟨m, rfl, hw⟩ := trod_int' hu hx
        have hw' := hw
        simp [Lit.wf, IntKind.min, IntKind.max, IntKind.signed, IntKind.bits] at hw'
        exact ⟨(m, ()), [], ⟨[], rfl, rfl, rfl⟩, hw', trivial⟩
      · rename_i hu
        obtain rfl := Option.some.inj h
        obtain ⟨s, rfl, hw⟩ := trod_string hu hx
        refine ⟨(s.data.toList, ()), [], ⟨[], ?_, rfl, rfl⟩, ?_, trivial⟩
        · simp [LT.leaf, Leaf.val]
        · show s.data.toList.length ≤ maxLen
          simpa using hw
      · rename_i e hu
        split at h
        · rename_i ty ec hty hec
          split at h
          · rename_i hle
            obtain ⟨hle, hn⟩ := hle
            obtain rfl := Option.some.inj h
            rcases trod_slice hu hx with rfl | ⟨m, a, len, cap, rfl, rfl, h1, h2, h3⟩
            · exact ⟨([], ()), [], ⟨none, 0, [], [], rfl, ⟨Nat.le_refl _, fun _ h => (by cases h), fun j u hj => by simp [cells] at hj⟩, rfl, rfl, rfl⟩, ⟨Nat.zero_le _, fun y hy => by cases hy⟩, trivial⟩
            · have hel : ∀ i, i < len → ∃ y : ty.T, w.cells? 0 (a.add (i * ty.n)) ty.n = some ((ty.lv y).map Leaf.val) ∧ ∀ l ∈ ty.lv y, wfL l := fun i hi => by
                obtain ⟨us, y, hc, hy⟩ := h3 i hi
                obtain ⟨d, B, hd, hw⟩ := ihT e ec hec m us y hy (fun hno => by rw [hle] at hno; cases hno)
                obtain ⟨z, rfl, hz⟩ := HC.leafs_of hle hd hw
                refine ⟨ty.frm z, ?_, ?_⟩
                · rw [ETy.lv, ETy.to_frm, ← hn]; exact hc
                · rw [ETy.lv, ETy.to_frm]; exact hz
              -- the list of the elements
              obtain ⟨ys, hl, hy⟩ : ∃ ys : List ty.T, ys.length = len ∧ ∀ i (hi : i < len), ∃ y, ys[i]? = some y ∧ w.cells? 0 (a.add (i * ty.n)) ty.n = some ((ty.lv y).map Leaf.val) ∧ ∀ l ∈ ty.lv y, wfL l := by
                refine ⟨(List.range len).map fun i => if h : i < len then Classical.choose (hel i h) else ty.zero, by simp, fun i hi => ⟨Classical.choose (hel i hi), ?_, Classical.choose_spec (hel i hi)⟩⟩
                rw [List.getElem?_map, List.getElem?_range hi]
                simp [hi]
              have hthere : a.block < w.heap.size := ht (by rfl) _ List.mem_cons_self a len cap rfl
              refine ⟨(ys, ()), [a.block], ⟨some a, cap, [], [], by rw [hl], ⟨by rw [hl]; exact h1, fun ad hd => (by cases hd; exact hthere), fun j u hj => ?_⟩, rfl, rfl, rfl⟩, ⟨by rw [hl]; omega, fun y hmem l hlm => ?_⟩, trivial⟩
              · refine ⟨a, rfl, ?_⟩
                have hjl : j < ys.length * ty.n := by rw [← cells_length]; exact (List.getElem?_eq_some_iff.1 hj).1
                have hnp := ty.n_pos
                have hq : j / ty.n < len := by rw [← hl]; exact Nat.div_lt_of_lt_mul (by rw [Nat.mul_comm]; exact hjl)
                obtain ⟨y, hyi, hc, _⟩ := hy (j / ty.n) hq
                have hm : j % ty.n < ty.n := Nat.mod_lt _ hnp
                have hdm : j / ty.n * ty.n + j % ty.n = j := by rw [Nat.mul_comm]; exact Nat.div_add_mod j ty.n
                have hg := cells_get ty ys ty.zero (j / ty.n) (by rw [hl]; exact hq) (j % ty.n) hm
                rw [hdm, hj] at hg
                have hyd : ys.getD (j / ty.n) ty.zero = y := by simp [List.getD, hyi]
                rw [hyd, ← List.getElem?_map] at hg
                have := (cells?_get hc).2 (j % ty.n) u hg.symm
                rwa [add_of_add, hdm] at this
              · obtain ⟨i, hi, rfl⟩ := List.mem_iff_getElem.1 hmem
                obtain ⟨y, hyi, _, hwf⟩ := hy i (by rw [← hl]; exact hi)
                rw [List.getElem?_eq_getElem hi] at hyi
                cases hyi
                exact hwf l hlm
          · cases h
        · cases h
      · rename_i fs hu
        split at h
        · rename_i cs' hcs
          split at h
          · rename_i hl
            obtain rfl := Option.some.inj h
            obtain ⟨m, xs, rfl, hlen, hxs⟩ := trod_struct hu hx
            obtain ⟨d, B, hd, hw⟩ := ihF fs.toList 0 cs' hcs m cs xs hxs ht
            rw [List.drop_zero, List.take_of_length_le (by omega)] at hd
            exact ⟨d, B, hd, hw⟩
          · cases h
        · cases h
      · cases h
    · cases fs with
      | nil =>
        obtain rfl : [] = cts := by simpa [layFs] using h
        exact ⟨(), [], ⟨by simp, rfl⟩, trivial⟩
      | cons f fs =>
        simp only [layFs] at h
        split at h
        · rename_i c1 hc1
          split at h
          · rename_i hof
            obtain ⟨ho, hl⟩ := hof
            split at h
            · rename_i r hr
              obtain rfl := Option.some.inj h
              rw [List.mapM_cons] at hx
              obtain ⟨y, hy, hx⟩ := Option.bind_eq_some_iff.1 hx
              obtain ⟨ys, hys, _⟩ := Option.bind_eq_some_iff.1 hx
              rw [ho, ← hl] at hy
              obtain ⟨d1, B1, hd1, hw1⟩ := ihT f.type c1 hc1 n _ y hy fun hno v hv => ht (leafs_app (.inl hno)) v (List.mem_of_mem_drop (List.mem_of_mem_take hv))
              obtain ⟨d2, B2, hd2, hw2⟩ := ihF fs (off + c1.length) r hr n whole ys hys fun hno => ht (leafs_app (.inr hno))
              have hd := hd1.app hd2
              rw [show (whole.drop off).take c1.length ++ (whole.drop (off + c1.length)).take r.length = (whole.drop off).take (c1 ++ r).length by
                rw [List.length_append, List.take_add, List.drop_drop]] at hd
              exact ⟨_, _, hd, wfC_app hw1 hw2⟩
            · cases h
          · cases h
        · cases h
end
end Go.Eng

namespace Go.Eng
open Go.RowKit

section
variable {E : Env} {P : Program} {w : World}

theorem has_lt {r : Reach} {b : Nat} {a : Addr} {e : TypeId} {n : Nat} (h : w.has P r b a e n) : a.block < w.heap.size := by
  obtain ⟨_, _, row, cells, hs, _⟩ := h
  unfold World.shape? at hs
  cases hh : w.heap[a.block]? with
  | none => rw [hh] at hs; cases hs
  | some o => exact (Array.getElem?_eq_some_iff.1 hh).1

theorem cell_there {r : Reach} {b : Nat} {t : TypeId} {a : Addr} {l c : Nat} (h : Cell.okWide P w r b t (.slice (some a) l c)) : a.block < w.heap.size := by
  unfold Cell.okWide at h
  split at h <;> simp_all
  unfold Cell.ok at h
  split at h <;> simp_all
  exact has_lt h.2.2

theorem value_there {r : Reach} {b : Nat} {t : TypeId} {v : Value} (h : Value.okWide P w r b t v) : There w v.cells.toList := by
  unfold Value.okWide at h
  have agg : (∃ cs, v = .agg cs ∧ cs.size = P.cellsOf t ∧ Row.okWide P w r b t cs) → There w v.cells.toList := fun ⟨cs, e, _, ts, _, _, hc⟩ => by
    subst e
    intro u hu a l c e
    subst e
    obtain ⟨i, hi, hv⟩ := List.mem_iff_getElem.1 hu
    obtain ⟨ty, _, hok⟩ := hc i _ (by
      have : cs.toList[i]? = some (.slice (some a) l c) := by
        rw [List.getElem?_eq_some_iff]
        exact ⟨by simpa [Value.cells] using hi, by simpa [Value.cells] using hv⟩
      simpa using this)
    exact cell_there hok
  split at h
  · exact agg h
  · exact agg h
  · intro u hu a l c e
    subst e
    cases v <;> simp [Value.cells] at hu
    · obtain ⟨rfl, rfl, rfl⟩ := hu
      exact cell_there h
    · exfalso
      unfold Cell.okWide at h
      split at h <;> first | (simp_all; done) | skip
      unfold Cell.ok at h
      split at h <;> simp_all

def wfA : (as : List ATy) → denA as → Prop
  | [], _ => True
  | a :: as, (d, ds) => wfC a.cts (a.to d) ∧ wfA as ds

def isAggT (P : Program) (t : TypeId) : Bool :=
  match P.underlying t with
  | some (.struct _) => true
  | some (.array _ _) => true
  | _ => false

/-- The parameters' types are read so. -/
def tysOk (E : Env) : List TypeId → List ATy → Prop
  | [], [] => True
  | t :: ts, a :: as => layT E 100 t = some a.cts ∧ isAggT E.P t = a.agg ∧ tysOk E ts as
  | _, _ => False

theorem args_read {H : Type} {enc : TypeId × Value → H} {sp : Nat → Bool} {r : Reach} {b : Nat} : ∀ {ts : List TypeId} {as : List ATy} {vs : List Value} {ds : List (DataW H)} {ps : List MemPlace}, tysOk E ts as → DataW.TrodAll enc E.P w 0 sp true ts vs ds ps →
    (∀ (j : Nat) (t : TypeId) (v : Value), ts[j]? = some t → vs[j]? = some v → Value.okWide E.P w r b t v) → ∃ (x : denA as) (ro : List Nat), HA E w as (as.map fun _ => .ro) x vs ro [] [] [] ∧ wfA as x
  | [], [], [], [], ps, _, _, _ => ⟨(), [], ⟨rfl, rfl, rfl, rfl, rfl⟩, trivial⟩
  | t :: ts, a :: as, v :: vs, d :: ds, ps, hT, ⟨p, q, ⟨fuel, h0⟩, h1, _⟩, hok => by
    obtain ⟨hl, hagg, hT⟩ := hT
    have hv := hok 0 t v rfl rfl
    obtain ⟨e, B, he, hw⟩ := (layT_read 100).1 t a.cts hl fuel _ _ h0 fun _ => value_there hv
    obtain ⟨x, ro, hx, hwx⟩ := args_read hT h1 fun j t v ht hv => hok (j + 1) t v (by simpa using ht) (by simpa using hv)
    refine ⟨(a.frm e, x), B ++ ro, ⟨v, vs, _, B, rfl, by rw [a.to_frm]; exact he, ?_, ro, rfl, hx⟩, by rw [a.to_frm]; exact hw, hwx⟩
    unfold Value.okWide at hv
    rw [← hagg]
    unfold isAggT
    split at hv
    · rename_i hu
      obtain ⟨cs, rfl, _⟩ := hv
      rw [hu]
      simp [shapeV, Value.cells]
    · rename_i hu
      obtain ⟨cs, rfl, _⟩ := hv
      rw [hu]
      simp [shapeV, Value.cells]
    · rename_i n1 n2
      have hone : v.cells.toList = [v] := by
        cases v <;> first | rfl | (exfalso; unfold Cell.okWide at hv; split at hv <;> first | (simp_all; done) | skip; unfold Cell.ok at hv; split at hv <;> simp_all)
      split
      · rename_i fs hu; exact (n1 fs hu).elim
      · rename_i n e hu; exact (n2 n e hu).elim
      · exact hone
  | [], _ :: _, _, _, _, h, _, _ => h.elim
  | _ :: _, [], _, _, _, h, _, _ => h.elim
  | [], [], _ :: _, _, _, _, h, _ => h.elim
  | [], [], [], _ :: _, _, _, h, _ => h.elim
  | _ :: _, _ :: _, [], _, _, _, h, _ => h.elim
  | _ :: _, _ :: _, _ :: _, [], _, _, h, _ => h.elim

/-- The contract of a law: whatever is well formed, it returns true; nothing is written. -/
def lawC (as : List ATy) : Ctr := ⟨as, as.map fun _ => .ro, [aBool], wfA as, fun _ => (true, ()), id⟩

theorem law_calls {f : Nat} {as : List ATy} (h : (lawC as).holds E f) {x : denA as} {args : List Value} {ro : List Nat} (ha : HA E w as (as.map fun _ => .ro) x args ro [] [] []) (hw : wfA as x) :
    Calls E.P f args.toArray w fun e w' => e = .returned (.bool true) ∧ Below w.heap.size w w' := by
  refine (h.call x w args ro [] [] [] hw ha List.nodup_nil (fun g hg => by cases hg)).mono fun e w' he => ?_
  cases e with
  | panicked _ => exact he.elim
  | outgrown => exact he.elim
  | returned v =>
    obtain ⟨hk, ⟨ys, US, B, hr, ho, _, _⟩, _⟩ := he
    refine ⟨?_, ⟨hk.os, hk.tape, hk.output, hk.size, fun k hlt => hk.block k hlt (by simp)⟩⟩
    obtain ⟨u, ys', us, US', B1, B2, rfl, _, _, hs, hc, hn⟩ := ho
    obtain ⟨rfl, _, _⟩ := hn
    obtain ⟨us', rfl, _⟩ := hc
    have hu : (LT.bool.leaf true).val :: us' = [u] := hs
    injection hu with h1 h2
    rw [show v = u from hr, ← h1]
    rfl

/-- What is read below the heap's old size reads so behind the call. -/
theorem below_same {w w' : World} (hb : Below w.heap.size w w') {p : MemPlace} (hp : p.block < w.heap.size) : w.sameAt w' p := by
  cases p with
  | cell b off => exact World.cell?_of_block (hb.block b hp)
  | map b => exact hb.block b hp

theorem trodAll_stays {H : Type} {enc : TypeId × Value → H} {w' : World} {sp : Nat → Bool} (hl : laidOutB E.P = true) (hb : Below w.heap.size w w') :
    ∀ {ts : List TypeId} {vs : List Value} {ds : List (DataW H)} {ps : List MemPlace}, (∀ t ∈ ts, E.P.readableRec t = true ∧ t < E.P.types.size) → DataW.TrodAll enc E.P w 0 (fun _ => true) true ts vs ds ps → (∀ p ∈ ps, sp p.block = true) →
      DataW.TrodAll enc E.P w' 0 sp true ts vs ds ps
  | [], [], [], ps, _, h, _ => h
  | t :: ts, v :: vs, d :: ds, ps, hT, h, hs => by
    have hlt := h.lt
    obtain ⟨p, q, ⟨fuel, h0⟩, h1, rfl⟩ := h
    obtain ⟨hr, ht⟩ := hT t List.mem_cons_self
    refine ⟨p, q, ⟨fuel, DataW.trod_stays (kids_book hl hr) (book_sized hr) (fun h => by cases h) ⟨ht, book_self t⟩ h0 (fun x hx => below_same hb (hlt x (List.mem_append_left _ hx))) (fun x hx => hs x (List.mem_append_left _ hx))⟩, ?_, rfl⟩
    exact trodAll_stays hl hb (fun t ht => hT t (List.mem_cons_of_mem _ ht)) h1 fun x hx => hs x (List.mem_append_right _ hx)
  | [], _ :: _, _, _, _, h, _ => h.elim
  | _ :: _, [], _, _, _, h, _ => h.elim
  | [], [], _ :: _, _, _, h, _ => h.elim
  | _ :: _, _ :: _, [], _, _, h, _ => h.elim

/-- The row's answer: a law that returns true and leaves everything below as it was. -/
theorem law_post {H : Type} {enc : TypeId × Value → H} {s : ChangeSpec} {f : Func} {apart fresh handsOn again : Bool} {w' : World} {args : Array Value} {ds gs : List (DataW H)} {before : List MemPlace} {tb : TypeId}
    (hl : laidOutB E.P = true) (hT : ∀ t ∈ f.params.toList, E.P.readableRec t = true ∧ t < E.P.types.size) (hvars : s.vars = []) (hres : f.resultTypes = #[tb]) (htb : E.P.underlying tb = some .bool)
    (hfn : s.fn H (ds ++ gs) = { results := [.lit (.bool true)], args := ds }) (hW : DataW.Whole enc E.P f.params.toList s.vars apart w args.toList ds gs before) (hb : Below w.heap.size w w') :
    s.post enc E.P f apart fresh handsOn again w args (.bool true) w' := by
  have hlt : ∀ p ∈ before, p.block < w.heap.size := fun p hp => hW.lt p hp
  have hW0 := hW
  obtain ⟨pa, pv, hA, hV, rfl, hz, hn⟩ := hW
  rw [hvars] at hV
  obtain ⟨rfl, rfl⟩ : gs = [] ∧ pv = [] := by
    cases gs with
    | nil => exact ⟨rfl, hV⟩
    | cons g gs => exact hV.elim
  rw [List.append_nil] at hlt hW0
  have hr : ∀ (b : Nat) (sp : Nat → Bool) (hd : Bool), DataW.TrodAll enc E.P w' b sp hd [tb] [.bool true] [.lit (.bool true)] [] := fun b sp hd => ⟨[], [], ⟨1, by simp [DataW.trod, htb, Value.cells]⟩, rfl, rfl⟩
  have ha : ∀ sp : Nat → Bool, (∀ p ∈ pa, sp p.block = true) → DataW.TrodAll enc E.P w' 0 sp true f.params.toList args.toList ds pa := fun sp hs => trodAll_stays hl hb hT hA hs
  have hrl : (Value.bool true).resultList 1 = [.bool true] := rfl
  refine ⟨ds, [], pa, [], pa, [], by rw [hvars]; rw [hvars] at hW0; exact hW0, ?_, ?_, ?_, ?_, fun _ => ?_⟩
  · rw [hres, hfn]; exact hr _ _ _
  · rw [hfn]; exact ha _ fun p hp => by simpa using hlt p hp
  · rw [hvars, hfn]; rfl
  · exact hb.frame _
  · refine ⟨fun j t r h1 h2 => ?_, [.lit (.bool true)] ++ ds, [], [] ++ pa, ⟨[] ++ pa, [], ?_, ?_, by simp, ?_, ?_⟩, fun p hp _ => by simpa using hp⟩
    · rw [hres] at h1 h2
      cases j with
      | zero =>
        obtain rfl : tb = t := by simpa using h1
        obtain rfl : Value.bool true = r := by simpa [hrl] using h2
        simp [Value.okWide, htb, Cell.okWide, Cell.ok]
      | succ j => simp at h1
    · rw [hres]
      exact Go.ChangeShapes.trodAll_append (ha _ fun _ _ => rfl) (hr _ _ _)
    · rw [hvars]; rfl
    · intro b off hp
      have hin : MemPlace.cell b off ∈ pa := by simpa using hp
      rw [hb.frozen (hlt _ hin)]
      exact hz b off (by simpa using hin)
    · intro h
      have := hn h
      simpa using this
end
end Go.Eng

namespace Go.Eng

noncomputable def vcR (E : Env) (Γ : List (Nat × Ctr)) (Λ : List (Nat × LoopSpec)) (F B : List Nat) (c : Code) : St → (Ex → St → Prop) → Prop :=
  Code.rec (motive := fun _ => St → (Ex → St → Prop) → Prop)
    (fun S K => K .normal S)
    (fun _ ops draw S K => match draw with
      | false => runK E Γ ops.toList ops.toList S [] fun S A => sidesK A (K .normal S)
      | true => firstK E Γ ops.toList (tailFrom ops.toList) ops.toList S [] fun fs l S A =>
        drawOk ops.toList (tailFrom ops.toList) fs = true ∧ runK E Γ ops.toList l S A fun S A => sidesK A (K .normal S))
    (fun _ _ va vb S K => va S fun e S => match e with
      | .normal => vb S K
      | .exit id => K (.exit id) S
      | .ret => K .ret S)
    (fun c _ _ va vb S K => match S with
      | ⟨vs, bs, rs⟩ => opK vs c fun
        | .a (.c (.leaf (.bool t))) => (t = true → va ⟨vs, bs, rs⟩ K) ∧ (t = false → vb ⟨vs, bs, rs⟩ K)
        | _ => False)
    (fun id _ vc S K => vc S fun e S => match e with
      | .normal => K .normal S
      | .exit id' => match Nat.beq id' id with
        | true => K .normal S
        | false => K (.exit id') S
      | .ret => K .ret S)
    (fun c vc S K => match S with
      | ⟨vs0, bs0, rs0⟩ => match firstReg c with
        | none => False
        | some id => lookK Λ id fun L => dstsK c [] fun D =>
          match nodupB L.vk, nodupB L.bk, nodupB L.rk with
          | true, true, true =>
            clearK L.vk vs0 fun vs1 => clearK D vs1 fun vs2 => plainK vs2 fun kv => keepBK D L.bk bs0 fun kb => keepRK D L.rk rs0 fun kr =>
            match L.rel with
            | none =>
              (∃ x, Ob (L.inv x) ∧ entailK E F L x bs0 kv kb kr ⟨vs0, bs0, rs0⟩ obP) ∧
              ∀ x, L.inv x → headK L x bs0 kv kb kr fun
                | ⟨vs, bs, rs⟩ => hasK rs F <| hasK bs B <| vc ⟨vs, bs, rs⟩ fun e S => match e with
                  | .normal => ∃ y, Ob (L.inv y ∧ L.mu y < L.mu x) ∧ entailK E F L y bs0 kv kb kr S obP
                  | .exit id => K (.exit id) S
                  | .ret => K .ret S
            | some r =>
              ∃ x0, (Ob (L.inv x0 ∧ r x0 x0) ∧ entailK E F L x0 bs0 kv kb kr ⟨vs0, bs0, rs0⟩ obP) ∧
              ∀ x, L.inv x → r x0 x → headK L x bs0 kv kb kr fun
                | ⟨vs, bs, rs⟩ => hasK rs F <| hasK bs B <| vc ⟨vs, bs, rs⟩ fun e S => match e with
                  | .normal => ∃ y, Ob ((L.inv y ∧ r x0 y) ∧ L.mu y < L.mu x) ∧ entailK E F L y bs0 kv kb kr S obP
                  | .exit id => K (.exit id) S
                  | .ret => K .ret S
          | _, _, _ => False)
    (fun _ _ _ _ _ _ _ _ => False)
    (fun id S K => K (.exit id) S)
    (fun _ _ _ _ => False)
    (fun _ _ _ => False)
    (fun _ _ _ => False)
    (fun S K => K .ret S)
    (fun _ _ _ => False)
    c

theorem vcR_eq (E : Env) (Γ : List (Nat × Ctr)) (Λ : List (Nat × LoopSpec)) (F B : List Nat) : ∀ c, vcR E Γ Λ F B c = vcK E Γ Λ F B c := by
  intro c
  induction c with
  | skip => rfl
  | ret => rfl
  | exit id => rfl
  | label l => funext S K; simp only [vcK]; rfl
  | goto l => funext S K; simp only [vcK]; rfl
  | refuse w => funext S K; simp only [vcK]; rfl
  | scope b _ => funext S K; simp only [vcK]; rfl
  | rangeFunc f p a b _ _ => funext S K; simp only [vcK]; rfl
  | region id ops draw => funext S K; cases draw <;> rfl
  | seq a b ha hb =>
    funext S K
    show vcR E Γ Λ F B a S (fun e S => match e with
      | .normal => vcR E Γ Λ F B b S K
      | .exit id => K (.exit id) S
      | .ret => K .ret S) = _
    rw [ha, hb]
    rfl
  | block id b hb =>
    funext S K
    show vcR E Γ Λ F B b S _ = _
    rw [hb]
    rfl
  | cond o a b ha hb =>
    funext S K
    obtain ⟨vs, bs, rs⟩ := S
    show opK vs o (fun
        | .a (.c (.leaf (.bool t))) => (t = true → vcR E Γ Λ F B a ⟨vs, bs, rs⟩ K) ∧ (t = false → vcR E Γ Λ F B b ⟨vs, bs, rs⟩ K)
        | _ => False) = _
    rw [ha, hb]
    rfl
  | loop c hc =>
    funext S K
    obtain ⟨vs0, bs0, rs0⟩ := S
    show (match firstReg c with
        | none => False
        | some id => lookK Λ id fun L => dstsK c [] fun D =>
          match nodupB L.vk, nodupB L.bk, nodupB L.rk with
          | true, true, true =>
            clearK L.vk vs0 fun vs1 => clearK D vs1 fun vs2 => plainK vs2 fun kv => keepBK D L.bk bs0 fun kb => keepRK D L.rk rs0 fun kr =>
            match L.rel with
            | none =>
              (∃ x, Ob (L.inv x) ∧ entailK E F L x bs0 kv kb kr ⟨vs0, bs0, rs0⟩ obP) ∧
              ∀ x, L.inv x → headK L x bs0 kv kb kr fun
                | ⟨vs, bs, rs⟩ => hasK rs F <| hasK bs B <| vcR E Γ Λ F B c ⟨vs, bs, rs⟩ fun e S => match e with
                  | .normal => ∃ y, Ob (L.inv y ∧ L.mu y < L.mu x) ∧ entailK E F L y bs0 kv kb kr S obP
                  | .exit id => K (.exit id) S
                  | .ret => K .ret S
            | some r =>
              ∃ x0, (Ob (L.inv x0 ∧ r x0 x0) ∧ entailK E F L x0 bs0 kv kb kr ⟨vs0, bs0, rs0⟩ obP) ∧
              ∀ x, L.inv x → r x0 x → headK L x bs0 kv kb kr fun
                | ⟨vs, bs, rs⟩ => hasK rs F <| hasK bs B <| vcR E Γ Λ F B c ⟨vs, bs, rs⟩ fun e S => match e with
                  | .normal => ∃ y, Ob ((L.inv y ∧ r x0 y) ∧ L.mu y < L.mu x) ∧ entailK E F L y bs0 kv kb kr S obP
                  | .exit id => K (.exit id) S
                  | .ret => K .ret S
          | _, _, _ => False) = _
    rw [hc]
    rfl

/-- The condition on a function. -/
def fnR (E : Env) (Γ : List (Nat × Ctr)) (Λ : List (Nat × LoopSpec)) (c : Ctr) (fn : Func) (ty : Nat → TypeId) (x : denA c.ins) : Prop :=
  match fn.body with
  | none => False
  | some code => startK 0 c.ins c.modes ty x fun vs bs rs => anyK (fn.ntmps - vs.length) fun us => appK vs us fun vs =>
    vcR E Γ Λ (fixRows 0 c.ins c.modes) (fixBlks 0 c.modes) code ⟨vs, bs, rs⟩ fun e S => match e with
      | .exit _ => False
      | _ => retK E c ty x fn.results.toList S

theorem fnR_eq (E : Env) (Γ : List (Nat × Ctr)) (Λ : List (Nat × LoopSpec)) (c : Ctr) (fn : Func) (ty : Nat → TypeId) (x : denA c.ins) : fnR E Γ Λ c fn ty x = fnK E Γ Λ c fn ty x := by
  unfold fnR fnK
  cases fn.body with
  | none => rfl
  | some code =>
    simp only [vcR_eq]
    rfl
end Go.Eng

namespace Go.Eng
open Go.RowKit

theorem gnil {E : Env} : ∀ f c, find ([] : List (Nat × Ctr)) f = some c → c.holds E f := fun _ _ h => by cases h

theorem gcons {E : Env} {k : Nat} {c : Ctr} {Γ : List (Nat × Ctr)} (h : c.holds E k) (hΓ : ∀ f c, find Γ f = some c → c.holds E f) : ∀ f c', find ((k, c) :: Γ) f = some c' → c'.holds E f := fun f c' hf => by
  unfold find at hf
  by_cases hk : k = f
  · subst hk
    simp at hf
    exact hf ▸ h
  · simp [hk] at hf
    exact hΓ f c' hf

structure PrgOk (E : Env) : Prop where
  env : EnvOk E
  mixed : E.P.follows .mixedOrders = true

theorem fn_ok {E : Env} (hE : PrgOk E) {Γ : List (Nat × Ctr)} (hΓ : ∀ f c, find Γ f = some c → c.holds E f) {f : Nat} {c : Ctr} {fn : Func} {code : Code}
    (hf : E.P.funcs[f]? = some fn) (hb : fn.body = some code) (hname : (fn.name == "runtime.NumGoroutine") = false) (heid : (eidsB E c.ins && eidsB E c.outs && c.ins.all fun t => Nat.ble t.cts.length 64) = true)
    (hw : writesB c.modes = false) (h : ∀ ty x, c.pre x → ∃ Λ, fnR E Γ Λ c fn ty x) : c.holds E f :=
  holds_of_fnK hE.env hΓ (drawn_ok hE.env hΓ hE.mixed) hf hb hname heid (fun _ _ => noWritesLen hw) fun ty x hx => match h ty x hx with | ⟨Λ, h⟩ => ⟨Λ, fnR_eq _ _ _ _ _ _ _ ▸ h⟩

theorem fn_okw {E : Env} {Γ : List (Nat × Ctr)} (hE : PrgOk E) (hΓ : ∀ f c, find Γ f = some c → c.holds E f) {f : Nat} {c : Ctr} {fn : Func} {code : Code}
    (hf : E.P.funcs[f]? = some fn) (hb : fn.body = some code) (hname : (fn.name == "runtime.NumGoroutine") = false) (heid : (eidsB E c.ins && eidsB E c.outs && c.ins.all fun t => Nat.ble t.cts.length 64) = true)
    (hlen : ∀ x, c.pre x → LenSame c.ins c.modes x (c.upd x)) (h : ∀ ty x, c.pre x → ∃ Λ, fnR E Γ Λ c fn ty x) : c.holds E f :=
  holds_of_fnK hE.env hΓ (drawn_ok hE.env hΓ hE.mixed) hf hb hname heid hlen fun ty x hx => match h ty x hx with | ⟨Λ, h⟩ => ⟨Λ, fnR_eq _ _ _ _ _ _ _ ▸ h⟩

/-- What the walk leaves: an obligation; a state that is wanted. -/
structure Ob2 (p : Prop) : Prop where
  out : p
theorem toY {α : Type} {a : α} {P : α → Prop} (h : P a) : ∀ y, y = a → P y := fun _ e => e ▸ h
theorem toOb2 {p : Prop} (h : Ob2 p) : Ob p := ⟨h.out⟩
structure Ex2 {α : Type} (p : α → Prop) : Prop where
  out : ∃ x, p x
theorem toEx2 {α : Type} {p : α → Prop} (h : Ex2 p) : Exists p := h.out
theorem Ex2.of {α : Type} {p q : α → Prop} (x : α) (h : p x) (h' : q x) : Ex2 fun x => Ob (p x) ∧ q x := ⟨x, ⟨h⟩, h'⟩

theorem w64_id {n : Int} (h1 : -9223372036854775808 ≤ n) (h2 : n ≤ 9223372036854775807) : w64 n = n := by
  unfold w64 IntKind.wrap
  simp [IntKind.signed, IntKind.bits]
  omega
theorem w64_succ {i m : Nat} (h : i < m) (hm : m ≤ 1073741824) : w64 ((i : Int) + 1) = ((i + 1 : Nat) : Int) := by
  rw [w64_id] <;> omega
theorem drop_step {α : Type} (l : List α) (i : Nat) (d : α) (h : i < l.length) : l.drop i = l.getD i d :: l.drop (i + 1) := by
  rw [List.drop_eq_getElem_cons h]
  simp [List.getD, h]
theorem at_step {α : Type} (l : List α) (i : Nat) (d : α) (h : i < l.length) : ∃ x, l.getD (i : Int).toNat d = x ∧ l[i]? = some x ∧ l.drop i = x :: l.drop (i + 1) := by
  refine ⟨l[i], ?_, ?_, ?_⟩
  · simp [List.getD, h]
  · simp [h]
  · rw [List.drop_eq_getElem_cons h]
theorem fill_step {α : Type} (a : List α) (d : α) (i : Nat) (x : α) (h : a[i]? = some x) : (a.take i ++ List.replicate (a.length - i) d).set (i : Int).toNat x = a.take (i + 1) ++ List.replicate (a.length - (i + 1)) d := by
  obtain ⟨hi, rfl⟩ := List.getElem?_eq_some_iff.1 h
  have e : a.length - i = (a.length - (i + 1)) + 1 := by omega
  have hl : (a.take i).length = i := by simp; omega
  rw [e, List.replicate_succ, Int.toNat_natCast, List.set_append_right _ _ (by omega), hl, Nat.sub_self, List.set_cons_zero, List.take_succ_eq_append_getElem hi, List.append_assoc]
  rfl
theorem lt_of_dec {i n : Nat} (h : decide ((i : Int) < (n : Int)) = true) : i < n := by simpa using h
theorem ge_of_dec {i n : Nat} (h : decide ((i : Int) < (n : Int)) = false) : n ≤ i := by simpa using h

end Go.Eng

namespace Go.Eng

abbrev sp : Char := Char.ofNat 32

theorem words_word : ∀ (w r : List Char), (w.all fun c => c != sp) = true → wordsSigns (w ++ sp :: r) = w :: wordsSigns r
  | [], r, _ => rfl
  | c :: w, r, h => by
    rw [List.all_cons, Bool.and_eq_true] at h
    have hc : c ≠ sp := by simpa using h.1
    have ih := words_word w r h.2
    show wordsSigns (c :: (w ++ sp :: r)) = _
    rw [wordsSigns, ih]
    exact fun e => hc e

theorem behind_head {P : Program} {h s c r : List Char} (e : P.initOrder = String.ofList (h ++ sp :: (s ++ sp :: (c ++ sp :: r)))) (h1 : (h.all fun c => c != sp) = true) (h2 : (s.all fun c => c != sp) = true) (h3 : (c.all fun c => c != sp) = true)
    (h4 : behindMainWord (h :: s :: []) = []) (h5 : ∀ r, behindMainWord (h :: s :: []) = [] → behindMainWord (h :: s :: r) = r) : behindMainWord (wordsSigns P.initOrder.toList) = c :: wordsSigns r := by
  rw [e, String.toList_ofList, words_word h _ h1, words_word s _ h2, words_word c _ h3, h5 _ h4]

theorem behind_two (h s : List Char) (r : List (List Char)) (k : behindMainWord (h :: s :: []) = []) : behindMainWord (h :: s :: r) = r := by
  simp only [behindMainWord] at k ⊢
  split at k
  · rename_i hc; rw [if_pos hc]
  · cases k
def cutW : List Char := [Char.ofNat 99, Char.ofNat 117, Char.ofNat 116]

theorem strip_cut (ws : List (List Char)) : stripLifts liftWords (cutW :: ws) = ([], cutW :: ws) := by
  simp [liftWords, stripLifts, cutW]

section
variable {P : Program} {ws : List (List Char)} (h : behindMainWord (wordsSigns P.initOrder.toList) = cutW :: ws)
include h
theorem enter_of (hl : P.laysLater = false) (hb : P.bearsReflect = false) (hd : P.doorFits [] = true) : P.mayEnter = true := by
  unfold Program.mayEnter
  rw [h]
  simp only [strip_cut, hl, hb, hd]
  simp [cutW]
theorem headLifts_of : P.headLifts = [] := by
  unfold Program.headLifts
  rw [h]
  simp only [strip_cut]
  simp
theorem lift_of : P.liftsFinal = false := by
  unfold Program.liftsFinal
  rw [headLifts_of h, h]
  simp [cutW]
theorem make_of : P.make = some .cut := by
  unfold Program.make
  rw [h]
  simp [cutW]
end
end Go.Eng

