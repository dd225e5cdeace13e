/- The symbolic executor over the model of Go, with its proof; part 6. It speaks of no law by itself. -/
import Derived.Test.YtjlbibidgdnjdaaEng5
import GoSem.ClaimWide
import Derived.Carry
import Derived.ChangeSame
import Derived.Below
import Derived.JoinedOf
import Derived.KernelRfl
set_option linter.unusedVariables false
set_option linter.unusedSimpArgs false
namespace Go.Eng
open Go.RowKit

section
variable {E : Env} {P : Program} {w : World}

theorem has_lt {r : Reach} {b : Nat} {a : Addr} {e : TypeId} {n : Nat} (h : w.has P r b a e n) : a.block < w.heap.size := by
  obtain ⟨_, _, row, cells, hs, _⟩ := h
  unfold World.shape? at hs
  cases hh : w.heap[a.block]? with
  | none => rw [hh] at hs; cases hs
  | some o => exact (Array.getElem?_eq_some_iff.1 hh).1

theorem cell_there {r : Reach} {b : Nat} {t : TypeId} {a : Addr} {l c : Nat} (h : Cell.okWide P w r b t (.slice (some a) l c)) : a.block < w.heap.size := by
  unfold Cell.okWide at h
  split at h <;> simp_all
  unfold Cell.ok at h
  split at h <;> simp_all
  exact has_lt h.2.2

theorem value_there {r : Reach} {b : Nat} {t : TypeId} {v : Value} (h : Value.okWide P w r b t v) : There w v.cells.toList := by
  unfold Value.okWide at h
  have agg : (∃ cs, v = .agg cs ∧ cs.size = P.cellsOf t ∧ Row.okWide P w r b t cs) → There w v.cells.toList := fun ⟨cs, e, _, ts, _, _, hc⟩ => by
    subst e
    intro u hu a l c e
    subst e
    obtain ⟨i, hi, hv⟩ := List.mem_iff_getElem.1 hu
    obtain ⟨ty, _, hok⟩ := hc i _ (by
      have : cs.toList[i]? = some (.slice (some a) l c) := by
        rw [List.getElem?_eq_some_iff]
        exact ⟨by simpa [Value.cells] using hi, by simpa [Value.cells] using hv⟩
      simpa using this)
    exact cell_there hok
  split at h
  · exact agg h
  · exact agg h
  · intro u hu a l c e
    subst e
    cases v <;> simp [Value.cells] at hu
    · obtain ⟨rfl, rfl, rfl⟩ := hu
      exact cell_there h
    · exfalso
      unfold Cell.okWide at h
      split at h <;> first | (simp_all; done) | skip
      unfold Cell.ok at h
      split at h <;> simp_all

def wfA : (as : List ATy) → denA as → Prop
  | [], _ => True
  | a :: as, (d, ds) => wfC a.cts (a.to d) ∧ wfA as ds

def isAggT (P : Program) (t : TypeId) : Bool :=
  match P.underlying t with
  | some (.struct _) => true
  | some (.array _ _) => true
  | _ => false

/-- The parameters' types are read so. -/
def tysOk (E : Env) : List TypeId → List ATy → Prop
  | [], [] => True
  | t :: ts, a :: as => layT E 100 t = some a.cts ∧ isAggT E.P t = a.agg ∧ tysOk E ts as
  | _, _ => False

theorem args_read {H : Type} {enc : TypeId × Value → H} {sp : Nat → Bool} {r : Reach} {b : Nat} : ∀ {ts : List TypeId} {as : List ATy} {vs : List Value} {ds : List (DataW H)} {ps : List MemPlace}, tysOk E ts as → DataW.TrodAll enc E.P w 0 sp true ts vs ds ps →
    (∀ (j : Nat) (t : TypeId) (v : Value), ts[j]? = some t → vs[j]? = some v → Value.okWide E.P w r b t v) → ∃ (x : denA as) (ro : List Nat), HA E w as (as.map fun _ => .ro) x vs ro [] [] [] ∧ wfA as x
  | [], [], [], [], ps, _, _, _ => ⟨(), [], ⟨rfl, rfl, rfl, rfl, rfl⟩, trivial⟩
  | t :: ts, a :: as, v :: vs, d :: ds, ps, hT, ⟨p, q, ⟨fuel, h0⟩, h1, _⟩, hok => by
    obtain ⟨hl, hagg, hT⟩ := hT
    have hv := hok 0 t v rfl rfl
    obtain ⟨e, B, he, hw⟩ := (layT_read 100).1 t a.cts hl fuel _ _ h0 fun _ => value_there hv
    obtain ⟨x, ro, hx, hwx⟩ := args_read hT h1 fun j t v ht hv => hok (j + 1) t v (by simpa using ht) (by simpa using hv)
    refine ⟨(a.frm e, x), B ++ ro, ⟨v, vs, _, B, rfl, by rw [a.to_frm]; exact he, ?_, ro, rfl, hx⟩, by rw [a.to_frm]; exact hw, hwx⟩
    unfold Value.okWide at hv
    rw [← hagg]
    unfold isAggT
    split at hv
    · rename_i hu
      obtain ⟨cs, rfl, _⟩ := hv
      rw [hu]
      simp [shapeV, Value.cells]
    · rename_i hu
      obtain ⟨cs, rfl, _⟩ := hv
      rw [hu]
      simp [shapeV, Value.cells]
    · rename_i n1 n2
      have hone : v.cells.toList = [v] := by
        cases v <;> first | rfl | (exfalso; unfold Cell.okWide at hv; split at hv <;> first | (simp_all; done) | skip; unfold Cell.ok at hv; split at hv <;> simp_all)
      split
      · rename_i fs hu; exact (n1 fs hu).elim
      · rename_i n e hu; exact (n2 n e hu).elim
      · exact hone
  | [], _ :: _, _, _, _, h, _, _ => h.elim
  | _ :: _, [], _, _, _, h, _, _ => h.elim
  | [], [], _ :: _, _, _, _, h, _ => h.elim
  | [], [], [], _ :: _, _, _, h, _ => h.elim
  | _ :: _, _ :: _, [], _, _, _, h, _ => h.elim
  | _ :: _, _ :: _, _ :: _, [], _, _, h, _ => h.elim

/-- The contract of a law: whatever is well formed, it returns true; nothing is written. -/
def lawC (as : List ATy) : Ctr := ⟨as, as.map fun _ => .ro, [aBool], wfA as, fun _ => (true, ()), id⟩

theorem law_calls {f : Nat} {as : List ATy} (h : (lawC as).holds E f) {x : denA as} {args : List Value} {ro : List Nat} (ha : HA E w as (as.map fun _ => .ro) x args ro [] [] []) (hw : wfA as x) :
    Calls E.P f args.toArray w fun e w' => e = .returned (.bool true) ∧ Below w.heap.size w w' := by
  refine (h.call x w args ro [] [] [] hw ha List.nodup_nil (fun g hg => by cases hg)).mono fun e w' he => ?_
  cases e with
  | panicked _ => exact he.elim
  | outgrown => exact he.elim
  | returned v =>
    obtain ⟨hk, ⟨ys, US, B, hr, ho, _, _⟩, _⟩ := he
    refine ⟨?_, ⟨hk.os, hk.tape, hk.output, hk.size, fun k hlt => hk.block k hlt (by simp)⟩⟩
    obtain ⟨u, ys', us, US', B1, B2, rfl, _, _, hs, hc, hn⟩ := ho
    obtain ⟨rfl, _, _⟩ := hn
    obtain ⟨us', rfl, _⟩ := hc
    have hu : (LT.bool.leaf true).val :: us' = [u] := hs
    injection hu with h1 h2
    rw [show v = u from hr, ← h1]
    rfl

/-- What is read below the heap's old size reads so behind the call. -/
theorem below_same {w w' : World} (hb : Below w.heap.size w w') {p : MemPlace} (hp : p.block < w.heap.size) : w.sameAt w' p := by
  cases p with
  | cell b off => exact World.cell?_of_block (hb.block b hp)
  | map b => exact hb.block b hp

theorem trodAll_stays {H : Type} {enc : TypeId × Value → H} {w' : World} {sp : Nat → Bool} (hl : laidOutB E.P = true) (hb : Below w.heap.size w w') :
    ∀ {ts : List TypeId} {vs : List Value} {ds : List (DataW H)} {ps : List MemPlace}, (∀ t ∈ ts, E.P.readableRec t = true ∧ t < E.P.types.size) → DataW.TrodAll enc E.P w 0 (fun _ => true) true ts vs ds ps → (∀ p ∈ ps, sp p.block = true) →
      DataW.TrodAll enc E.P w' 0 sp true ts vs ds ps
  | [], [], [], ps, _, h, _ => h
  | t :: ts, v :: vs, d :: ds, ps, hT, h, hs => by
    have hlt := h.lt
    obtain ⟨p, q, ⟨fuel, h0⟩, h1, rfl⟩ := h
    obtain ⟨hr, ht⟩ := hT t List.mem_cons_self
    refine ⟨p, q, ⟨fuel, DataW.trod_stays (kids_book hl hr) (book_sized hr) (fun h => by cases h) ⟨ht, book_self t⟩ h0 (fun x hx => below_same hb (hlt x (List.mem_append_left _ hx))) (fun x hx => hs x (List.mem_append_left _ hx))⟩, ?_, rfl⟩
    exact trodAll_stays hl hb (fun t ht => hT t (List.mem_cons_of_mem _ ht)) h1 fun x hx => hs x (List.mem_append_right _ hx)
  | [], _ :: _, _, _, _, h, _ => h.elim
  | _ :: _, [], _, _, _, h, _ => h.elim
  | [], [], _ :: _, _, _, h, _ => h.elim
  | _ :: _, _ :: _, [], _, _, h, _ => h.elim

/-- The row's answer: a law that returns true and leaves everything below as it was. -/
theorem law_post {H : Type} {enc : TypeId × Value → H} {s : ChangeSpec} {f : Func} {apart fresh handsOn again : Bool} {w' : World} {args : Array Value} {ds gs : List (DataW H)} {before : List MemPlace} {tb : TypeId}
    (hl : laidOutB E.P = true) (hT : ∀ t ∈ f.params.toList, E.P.readableRec t = true ∧ t < E.P.types.size) (hvars : s.vars = []) (hres : f.resultTypes = #[tb]) (htb : E.P.underlying tb = some .bool)
    (hfn : s.fn H (ds ++ gs) = { results := [.lit (.bool true)], args := ds }) (hW : DataW.Whole enc E.P f.params.toList s.vars apart w args.toList ds gs before) (hb : Below w.heap.size w w') :
    s.post enc E.P f apart fresh handsOn again w args (.bool true) w' := by
  have hlt : ∀ p ∈ before, p.block < w.heap.size := fun p hp => hW.lt p hp
  have hW0 := hW
  obtain ⟨pa, pv, hA, hV, rfl, hz, hn⟩ := hW
  rw [hvars] at hV
  obtain ⟨rfl, rfl⟩ : gs = [] ∧ pv = [] := by
    cases gs with
    | nil => exact ⟨rfl, hV⟩
    | cons g gs => exact hV.elim
  rw [List.append_nil] at hlt hW0
  have hr : ∀ (b : Nat) (sp : Nat → Bool) (hd : Bool), DataW.TrodAll enc E.P w' b sp hd [tb] [.bool true] [.lit (.bool true)] [] := fun b sp hd => ⟨[], [], ⟨1, by simp [DataW.trod, htb, Value.cells]⟩, rfl, rfl⟩
  have ha : ∀ sp : Nat → Bool, (∀ p ∈ pa, sp p.block = true) → DataW.TrodAll enc E.P w' 0 sp true f.params.toList args.toList ds pa := fun sp hs => trodAll_stays hl hb hT hA hs
  have hrl : (Value.bool true).resultList 1 = [.bool true] := rfl
  refine ⟨ds, [], pa, [], pa, [], by rw [hvars]; rw [hvars] at hW0; exact hW0, ?_, ?_, ?_, ?_, fun _ => ?_⟩
  · rw [hres, hfn]; exact hr _ _ _
  · rw [hfn]; exact ha _ fun p hp => by simpa using hlt p hp
  · rw [hvars, hfn]; rfl
  · exact hb.frame _
  · refine ⟨fun j t r h1 h2 => ?_, [.lit (.bool true)] ++ ds, [], [] ++ pa, ⟨[] ++ pa, [], ?_, ?_, by simp, ?_, ?_⟩, fun p hp _ => by simpa using hp⟩
    · rw [hres] at h1 h2
      cases j with
      | zero =>
        obtain rfl : tb = t := by simpa using h1
        obtain rfl : Value.bool true = r := by simpa [hrl] using h2
        simp [Value.okWide, htb, Cell.okWide, Cell.ok]
      | succ j => simp at h1
    · rw [hres]
      exact Go.ChangeShapes.trodAll_append (ha _ fun _ _ => rfl) (hr _ _ _)
    · rw [hvars]; rfl
    · intro b off hp
      have hin : MemPlace.cell b off ∈ pa := by simpa using hp
      rw [hb.frozen (hlt _ hin)]
      exact hz b off (by simpa using hin)
    · intro h
      have := hn h
      simpa using this
end
end Go.Eng

namespace Go.Eng

noncomputable def vcR (E : Env) (Γ : List (Nat × Ctr)) (Λ : List (Nat × LoopSpec)) (F B : List Nat) (c : Code) : St → (Ex → St → Prop) → Prop :=
  Code.rec (motive := fun _ => St → (Ex → St → Prop) → Prop)
    (fun S K => K .normal S)
    (fun _ ops draw S K => match draw with
      | false => runK E Γ ops.toList ops.toList S [] fun S A => sidesK A (K .normal S)
      | true => firstK E Γ ops.toList (tailFrom ops.toList) ops.toList S [] fun fs l S A =>
        drawOk ops.toList (tailFrom ops.toList) fs = true ∧ runK E Γ ops.toList l S A fun S A => sidesK A (K .normal S))
    (fun _ _ va vb S K => va S fun e S => match e with
      | .normal => vb S K
      | .exit id => K (.exit id) S
      | .ret => K .ret S)
    (fun c _ _ va vb S K => match S with
      | ⟨vs, bs, rs⟩ => opK vs c fun
        | .a (.c (.leaf (.bool t))) => (t = true → va ⟨vs, bs, rs⟩ K) ∧ (t = false → vb ⟨vs, bs, rs⟩ K)
        | _ => False)
    (fun id _ vc S K => vc S fun e S => match e with
      | .normal => K .normal S
      | .exit id' => match Nat.beq id' id with
        | true => K .normal S
        | false => K (.exit id') S
      | .ret => K .ret S)
    (fun c vc S K => match S with
      | ⟨vs0, bs0, rs0⟩ => match firstReg c with
        | none => False
        | some id => lookK Λ id fun L => dstsK c [] fun D =>
          match nodupB L.vk, nodupB L.bk, nodupB L.rk with
          | true, true, true =>
            clearK L.vk vs0 fun vs1 => clearK D vs1 fun vs2 => plainK vs2 fun kv => keepBK D L.bk bs0 fun kb => keepRK D L.rk rs0 fun kr =>
            (∃ x, Ob (L.inv x) ∧ entailK E F L x bs0 kv kb kr ⟨vs0, bs0, rs0⟩ obP) ∧
            ∀ x, L.inv x → headK L x bs0 kv kb kr fun
              | ⟨vs, bs, rs⟩ => hasK rs F <| hasK bs B <| vc ⟨vs, bs, rs⟩ fun e S => match e with
                | .normal => ∃ y, Ob (L.inv y ∧ L.mu y < L.mu x) ∧ entailK E F L y bs0 kv kb kr S obP
                | .exit id => K (.exit id) S
                | .ret => K .ret S
          | _, _, _ => False)
    (fun _ _ _ _ _ _ _ _ => False)
    (fun id S K => K (.exit id) S)
    (fun _ _ _ _ => False)
    (fun _ _ _ => False)
    (fun _ _ _ => False)
    (fun S K => K .ret S)
    (fun _ _ _ => False)
    c

theorem vcR_eq (E : Env) (Γ : List (Nat × Ctr)) (Λ : List (Nat × LoopSpec)) (F B : List Nat) : ∀ c, vcR E Γ Λ F B c = vcK E Γ Λ F B c := by
  intro c
  induction c with
  | skip => rfl
  | ret => rfl
  | exit id => rfl
  | label l => funext S K; simp only [vcK]; rfl
  | goto l => funext S K; simp only [vcK]; rfl
  | refuse w => funext S K; simp only [vcK]; rfl
  | scope b _ => funext S K; simp only [vcK]; rfl
  | rangeFunc f p a b _ _ => funext S K; simp only [vcK]; rfl
  | region id ops draw => funext S K; cases draw <;> rfl
  | seq a b ha hb =>
    funext S K
    show vcR E Γ Λ F B a S (fun e S => match e with
      | .normal => vcR E Γ Λ F B b S K
      | .exit id => K (.exit id) S
      | .ret => K .ret S) = _
    rw [ha, hb]
    rfl
  | block id b hb =>
    funext S K
    show vcR E Γ Λ F B b S _ = _
    rw [hb]
    rfl
  | cond o a b ha hb =>
    funext S K
    obtain ⟨vs, bs, rs⟩ := S
    show opK vs o (fun
        | .a (.c (.leaf (.bool t))) => (t = true → vcR E Γ Λ F B a ⟨vs, bs, rs⟩ K) ∧ (t = false → vcR E Γ Λ F B b ⟨vs, bs, rs⟩ K)
        | _ => False) = _
    rw [ha, hb]
    rfl
  | loop c hc =>
    funext S K
    obtain ⟨vs0, bs0, rs0⟩ := S
    show (match firstReg c with
        | none => False
        | some id => lookK Λ id fun L => dstsK c [] fun D =>
          match nodupB L.vk, nodupB L.bk, nodupB L.rk with
          | true, true, true =>
            clearK L.vk vs0 fun vs1 => clearK D vs1 fun vs2 => plainK vs2 fun kv => keepBK D L.bk bs0 fun kb => keepRK D L.rk rs0 fun kr =>
            (∃ x, Ob (L.inv x) ∧ entailK E F L x bs0 kv kb kr ⟨vs0, bs0, rs0⟩ obP) ∧
            ∀ x, L.inv x → headK L x bs0 kv kb kr fun
              | ⟨vs, bs, rs⟩ => hasK rs F <| hasK bs B <| vcR E Γ Λ F B c ⟨vs, bs, rs⟩ fun e S => match e with
                | .normal => ∃ y, Ob (L.inv y ∧ L.mu y < L.mu x) ∧ entailK E F L y bs0 kv kb kr S obP
                | .exit id => K (.exit id) S
                | .ret => K .ret S
          | _, _, _ => False) = _
    rw [hc]
    rfl

/-- The condition on a function. -/
def fnR (E : Env) (Γ : List (Nat × Ctr)) (Λ : List (Nat × LoopSpec)) (c : Ctr) (fn : Func) (ty : Nat → TypeId) (x : denA c.ins) : Prop :=
  match fn.body with
  | none => False
  | some code => startK 0 c.ins c.modes ty x fun vs bs rs => anyK (fn.ntmps - vs.length) fun us => appK vs us fun vs =>
    vcR E Γ Λ (fixRows 0 c.ins c.modes) (fixBlks 0 c.modes) code ⟨vs, bs, rs⟩ fun e S => match e with
      | .exit _ => False
      | _ => retK E c ty x fn.results.toList S

theorem fnR_eq (E : Env) (Γ : List (Nat × Ctr)) (Λ : List (Nat × LoopSpec)) (c : Ctr) (fn : Func) (ty : Nat → TypeId) (x : denA c.ins) : fnR E Γ Λ c fn ty x = fnK E Γ Λ c fn ty x := by
  unfold fnR fnK
  cases fn.body with
  | none => rfl
  | some code =>
    simp only [vcR_eq]
    rfl
end Go.Eng

namespace Go.Eng
open Go.RowKit

theorem gnil {E : Env} : ∀ f c, find ([] : List (Nat × Ctr)) f = some c → c.holds E f := fun _ _ h => by cases h

theorem gcons {E : Env} {k : Nat} {c : Ctr} {Γ : List (Nat × Ctr)} (h : c.holds E k) (hΓ : ∀ f c, find Γ f = some c → c.holds E f) : ∀ f c', find ((k, c) :: Γ) f = some c' → c'.holds E f := fun f c' hf => by
  unfold find at hf
  by_cases hk : k = f
  · subst hk
    simp at hf
    exact hf ▸ h
  · simp [hk] at hf
    exact hΓ f c' hf

structure PrgOk (E : Env) : Prop where
  env : EnvOk E
  mixed : E.P.follows .mixedOrders = true

theorem fn_ok {E : Env} (hE : PrgOk E) {Γ : List (Nat × Ctr)} (hΓ : ∀ f c, find Γ f = some c → c.holds E f) {f : Nat} {c : Ctr} {fn : Func} {code : Code}
    (hf : E.P.funcs[f]? = some fn) (hb : fn.body = some code) (hname : (fn.name == "runtime.NumGoroutine") = false) (heid : (eidsB E c.ins && eidsB E c.outs && c.ins.all fun t => Nat.ble t.cts.length 64) = true)
    (hw : writesB c.modes = false) (h : ∀ ty x, c.pre x → ∃ Λ, fnR E Γ Λ c fn ty x) : c.holds E f :=
  holds_of_fnK hE.env hΓ (drawn_ok hE.env hΓ hE.mixed) hf hb hname heid (fun _ _ => noWritesLen hw) fun ty x hx => match h ty x hx with | ⟨Λ, h⟩ => ⟨Λ, fnR_eq _ _ _ _ _ _ _ ▸ h⟩

theorem fn_okw {E : Env} {Γ : List (Nat × Ctr)} (hE : PrgOk E) (hΓ : ∀ f c, find Γ f = some c → c.holds E f) {f : Nat} {c : Ctr} {fn : Func} {code : Code}
    (hf : E.P.funcs[f]? = some fn) (hb : fn.body = some code) (hname : (fn.name == "runtime.NumGoroutine") = false) (heid : (eidsB E c.ins && eidsB E c.outs && c.ins.all fun t => Nat.ble t.cts.length 64) = true)
    (hlen : ∀ x, c.pre x → LenSame c.ins c.modes x (c.upd x)) (h : ∀ ty x, c.pre x → ∃ Λ, fnR E Γ Λ c fn ty x) : c.holds E f :=
  holds_of_fnK hE.env hΓ (drawn_ok hE.env hΓ hE.mixed) hf hb hname heid hlen fun ty x hx => match h ty x hx with | ⟨Λ, h⟩ => ⟨Λ, fnR_eq _ _ _ _ _ _ _ ▸ h⟩

/-- What the walk leaves: an obligation; a state that is wanted. -/
structure Ob2 (p : Prop) : Prop where
  out : p
theorem toOb2 {p : Prop} (h : Ob2 p) : Ob p := ⟨h.out⟩
structure Ex2 {α : Type} (p : α → Prop) : Prop where
  out : ∃ x, p x
theorem toEx2 {α : Type} {p : α → Prop} (h : Ex2 p) : Exists p := h.out
theorem Ex2.of {α : Type} {p q : α → Prop} (x : α) (h : p x) (h' : q x) : Ex2 fun x => Ob (p x) ∧ q x := ⟨x, ⟨h⟩, h'⟩

theorem w64_id {n : Int} (h1 : -9223372036854775808 ≤ n) (h2 : n ≤ 9223372036854775807) : w64 n = n := by
  unfold w64 IntKind.wrap
  simp [IntKind.signed, IntKind.bits]
  omega
theorem w64_succ {i m : Nat} (h : i < m) (hm : m ≤ 1073741824) : w64 ((i : Int) + 1) = ((i + 1 : Nat) : Int) := by
  rw [w64_id] <;> omega
theorem drop_step {α : Type} (l : List α) (i : Nat) (d : α) (h : i < l.length) : l.drop i = l.getD i d :: l.drop (i + 1) := by
  rw [List.drop_eq_getElem_cons h]
  simp [List.getD, h]
theorem at_step {α : Type} (l : List α) (i : Nat) (d : α) (h : i < l.length) : ∃ x, l.getD (i : Int).toNat d = x ∧ l[i]? = some x ∧ l.drop i = x :: l.drop (i + 1) := by
  refine ⟨l[i], ?_, ?_, ?_⟩
  · simp [List.getD, h]
  · simp [h]
  · rw [List.drop_eq_getElem_cons h]
theorem fill_step {α : Type} (a : List α) (d : α) (i : Nat) (x : α) (h : a[i]? = some x) : (a.take i ++ List.replicate (a.length - i) d).set (i : Int).toNat x = a.take (i + 1) ++ List.replicate (a.length - (i + 1)) d := by
  obtain ⟨hi, rfl⟩ := List.getElem?_eq_some_iff.1 h
  have e : a.length - i = (a.length - (i + 1)) + 1 := by omega
  have hl : (a.take i).length = i := by simp; omega
  rw [e, List.replicate_succ, Int.toNat_natCast, List.set_append_right _ _ (by omega), hl, Nat.sub_self, List.set_cons_zero, List.take_succ_eq_append_getElem hi, List.append_assoc]
  rfl
theorem lt_of_dec {i n : Nat} (h : decide ((i : Int) < (n : Int)) = true) : i < n := by simpa using h
theorem ge_of_dec {i n : Nat} (h : decide ((i : Int) < (n : Int)) = false) : n ≤ i := by simpa using h

end Go.Eng

namespace Go.Eng

abbrev sp : Char := Char.ofNat 32

theorem words_word : ∀ (w r : List Char), (w.all fun c => c != sp) = true → wordsSigns (w ++ sp :: r) = w :: wordsSigns r
  | [], r, _ => rfl
  | c :: w, r, h => by
    rw [List.all_cons, Bool.and_eq_true] at h
    have hc : c ≠ sp := by simpa using h.1
    have ih := words_word w r h.2
    show wordsSigns (c :: (w ++ sp :: r)) = _
    rw [wordsSigns, ih]
    exact fun e => hc e

theorem behind_head {P : Program} {h s c r : List Char} (e : P.initOrder = String.ofList (h ++ sp :: (s ++ sp :: (c ++ sp :: r)))) (h1 : (h.all fun c => c != sp) = true) (h2 : (s.all fun c => c != sp) = true) (h3 : (c.all fun c => c != sp) = true)
    (h4 : behindMainWord (h :: s :: []) = []) (h5 : ∀ r, behindMainWord (h :: s :: []) = [] → behindMainWord (h :: s :: r) = r) : behindMainWord (wordsSigns P.initOrder.toList) = c :: wordsSigns r := by
  rw [e, String.toList_ofList, words_word h _ h1, words_word s _ h2, words_word c _ h3, h5 _ h4]

theorem behind_two (h s : List Char) (r : List (List Char)) (k : behindMainWord (h :: s :: []) = []) : behindMainWord (h :: s :: r) = r := by
  simp only [behindMainWord] at k ⊢
  split at k
  · rename_i hc; rw [if_pos hc]
  · cases k
def cutW : List Char := [Char.ofNat 99, Char.ofNat 117, Char.ofNat 116]

theorem strip_cut (ws : List (List Char)) : stripLifts liftWords (cutW :: ws) = ([], cutW :: ws) := by
  simp [liftWords, stripLifts, cutW]

section
variable {P : Program} {ws : List (List Char)} (h : behindMainWord (wordsSigns P.initOrder.toList) = cutW :: ws)
include h
theorem enter_of (hl : P.laysLater = false) (hb : P.bearsReflect = false) (hd : P.doorFits [] = true) : P.mayEnter = true := by
  unfold Program.mayEnter
  rw [h]
  simp only [strip_cut, hl, hb, hd]
  simp [cutW]
theorem headLifts_of : P.headLifts = [] := by
  unfold Program.headLifts
  rw [h]
  simp only [strip_cut]
  simp
theorem lift_of : P.liftsFinal = false := by
  unfold Program.liftsFinal
  rw [headLifts_of h, h]
  simp [cutW]
theorem make_of : P.make = some .cut := by
  unfold Program.make
  rw [h]
  simp [cutW]
end
end Go.Eng

