/- Contracts of functions of the program, each shown over the text. -/
import Derived.Test.YtnpeomhpbakgnaaGreatFun19
set_option linter.unusedVariables false
set_option linter.unusedSimpArgs false
set_option maxRecDepth 100000
set_option maxHeartbeats 1000000
namespace Go.Proofs.YtnpeomhpbakgnaaGreat
open Go.Eng
theorem h_spec_l01Long : Ctr.holds E 212 (.reads [aInt, aU8] [aStr] (fun ((n : Int), (x : Int), _) => (0 ≤ n ∧ n ≤ 1000) ∧ 0 ≤ x ∧ x ≤ 255) fun ((n : Int), (x : Int), _) => (mLong n x, ())) := by
  refine fn_ok prgOk gnil Tryz.func212 rfl rfl rfl rfl ?_
  rintro ty ⟨(n : Int), (x : Int), _⟩ (hp : (0 ≤ n ∧ n ≤ 1000) ∧ 0 ≤ x ∧ x ≤ 255)
  obtain ⟨⟨hn0, hn1⟩, hx0, hx1⟩ := hp
  refine ⟨[(3, { X := Nat × List Int, inv := fun z => z.1 ≤ n.toNat ∧ z.2 = List.replicate z.1 x ++ List.replicate (n.toNat - z.1) 0, mu := fun z => n.toNat - z.1, vk := [6, 5, 8], ov := fun z => [.a (.c (.leaf (.int (z.1 : Int)))), .a (.c (.row 512)), .any], bk := [], ob := fun z => [], rk := [512], orr := fun z => [⟨.u8, z.2, true, none⟩] })], ?_⟩
  repeat' ((conv => whnf); first | refine toOb2 ?_ | (refine fun y hy => ?_; (try simp only [Ctr.reads, Ctr.parts, beq_iff_eq, spps, reduceCtorEq, ETy.frm, if_true, if_false, implies_true, nbls, etas] at hy); subst hy) | (refine And.intro (fun h => ?_) (fun h => ?_) <;> (try simp only [beq_iff_eq, spps, reduceCtorEq, ETy.frm, if_true, if_false, implies_true, nbls, etas] at h)) | refine And.intro (toOb2 ?_) ?_ | refine And.intro (?_ : drawOk _ _ _ = true) ?_ | (refine And.intro ⟨?_, ?_⟩ ?_; fail) | intro _)
  all_goals try (exfalso; omega)
  all_goals first | (refine Ob2.mk ?_; (try simp only [allP, side, Ctr.reads, beq_iff_eq, etas]); first | done | trivial | with_reducible assumption | ((repeat' (first | exact id | exact trivial | with_reducible rfl | with_reducible assumption | exact fun _ => id | refine And.intro ?_ ?_)); all_goals first | done | omega | (refine fun _ => ?_; first | with_reducible assumption | omega) | trace_state) | trace_state) | (show drawOk _ _ _ = true; exact rfl) | skip
  conv => whnf
  refine And.intro ⟨((0, List.replicate n.toNat 0) : Nat × List Int), Ob.mk ?_, ?_⟩ (fun (z : Nat × List Int) hi => ?_)
  · exact And.intro (Nat.zero_le _) (by simp)
  · conv => whnf
    refine Ob.mk ?_
    all_goals (try simp only [allP, side, Ctr.reads, etas]); all_goals repeat' (first | exact sp1 | refine And.intro ?_ ?_)
    all_goals first | done | rfl | exact trivial
  obtain ⟨i, l⟩ := z
  obtain ⟨hi, hl⟩ := hi
  have hi : i ≤ n.toNat := hi
  have hl : l = List.replicate i x ++ List.replicate (n.toNat - i) 0 := hl
  have hll : l.length = n.toNat := by rw [hl]; exact rep_len x hi
  have hby : ∀ y ∈ l, 0 ≤ y ∧ y ≤ 255 := fun y hy => by
    rw [hl] at hy
    rcases List.mem_append.1 hy with h | h
    · rw [(List.mem_replicate.1 h).2]; exact ⟨hx0, hx1⟩
    · rw [(List.mem_replicate.1 h).2]; decide
  rcases Nat.lt_or_ge i n.toNat with hlt | hge
  · have hw := w64_succ (i := i) (m := n.toNat) hlt (by omega)
    have hst : l.set i x = List.replicate (i + 1) x ++ List.replicate (n.toNat - (i + 1)) 0 := by rw [hl]; exact rep_step x hlt
    have hlti : ((i : Int) < n) = True := by simp; omega
    repeat' ((conv => whnf); first | refine toOb2 ?_ | (refine fun y hy => ?_; (try simp only [Ctr.reads, Ctr.parts, hlti, spps, reduceCtorEq, ETy.frm, if_true, if_false, implies_true, nbls, etas] at hy); subst hy) | (refine And.intro (fun h => ?_) (fun h => ?_) <;> (try simp only [hlti, spps, reduceCtorEq, ETy.frm, if_true, if_false, implies_true, nbls, etas] at h)) | refine And.intro (toOb2 ?_) ?_ | refine And.intro (?_ : drawOk _ _ _ = true) ?_ | (refine And.intro ⟨?_, ?_⟩ ?_; fail) | intro _)
    all_goals try (exfalso; omega)
    all_goals first | (refine Ob2.mk ?_; (try simp only [allP, side, Ctr.reads, hlti, etas]); first | done | trivial | with_reducible assumption | ((repeat' (first | exact id | exact trivial | with_reducible rfl | with_reducible assumption | exact fun _ => id | refine And.intro ?_ ?_)); all_goals first | done | omega | (refine fun _ => ?_; first | with_reducible assumption | omega) | trace_state) | trace_state) | (show drawOk _ _ _ = true; exact rfl) | skip
    all_goals (refine toEx2 ?_; refine Ex2.of ((i + 1, l.set i x) : Nat × List Int) (And.intro (And.intro hlt hst) (by show n.toNat - (i + 1) < n.toNat - i; omega)) ?_; (conv => whnf); refine Ob.mk ?_)
    all_goals (try simp only [allP, side, Ctr.reads, etas]); all_goals repeat' (first | exact sp1 | refine And.intro ?_ ?_)
    all_goals first | done | exact hw | exact hw.symm | (rw [Int.toNat_natCast]; done) | trace_state
  · have hlti : ((i : Int) < n) = False := by simp; omega
    have hM : mLong n x = l.map fun n => UInt8.ofNat n.toNat := by
      have h0 : n.toNat - i = 0 := by omega
      have h1 : i = n.toNat := by omega
      rw [hl, h0, h1, mLong]
      simp
    repeat' ((conv => whnf); first | refine toOb2 ?_ | (refine fun y hy => ?_; (try simp only [Ctr.reads, Ctr.parts, hlti, hM, spps, reduceCtorEq, ETy.frm, if_true, if_false, implies_true, nbls, etas] at hy); subst hy) | (refine And.intro (fun h => ?_) (fun h => ?_) <;> (try simp only [hlti, hM, spps, reduceCtorEq, ETy.frm, if_true, if_false, implies_true, nbls, etas] at h)) | refine And.intro (toOb2 ?_) ?_ | refine And.intro (?_ : drawOk _ _ _ = true) ?_ | (refine And.intro ⟨?_, ?_⟩ ?_; fail) | intro _)
    all_goals try (exfalso; omega)
    all_goals first | (refine Ob2.mk ?_; (try simp only [allP, side, Ctr.reads, hlti, hM, etas]); first | done | trivial | with_reducible assumption | ((repeat' (first | exact id | exact trivial | with_reducible rfl | with_reducible assumption | exact fun _ => id | refine And.intro ?_ ?_)); all_goals first | done | omega | (refine fun _ => ?_; first | with_reducible assumption | omega) | trace_state) | trace_state) | (show drawOk _ _ _ = true; exact rfl) | skip
end Go.Proofs.YtnpeomhpbakgnaaGreat
