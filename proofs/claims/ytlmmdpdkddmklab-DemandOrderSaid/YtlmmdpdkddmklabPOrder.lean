import Derived.Test.YtlmmdpdkddmklabPs
import Derived.Test.YtlmmdpdkddmklabQx9
namespace Go.Proofs.Ytlmmdpdkddmklab.Q
open Go.RowKit Go.Proofs.YtlmmdpdkddmklabW.PrintWords Go.Proofs.YtlmmdpdkddmklabW.PrintLast
set_option linter.unusedVariables false

theorem rdO_at (xs : List Int) (n : Nat) (h : n < xs.length) : rd xs (n : Int) = xs[n] := by
  unfold rd
  rw [Int.toNat_natCast, List.getD_eq_getElem?_getD, List.getElem?_eq_getElem h]
  rfl
theorem mayB_perm {l m : List S38} (h : m.Perm l) (hm : mayB l = true) : mayB m = true := by
  obtain ⟨h1, h2⟩ := (mayB_iff l).1 hm
  exact (mayB_iff m).2 ⟨by rw [h.length_eq]; exact h1, fun w hw => h2 w (h.mem_iff.1 hw)⟩
theorem order_j2 (l m : List S38) (hp : m.Perm l) (hm : mayB l = true) (hl : l.length ≤ 100) (a : Int) (ha : 0 ≤ a ∧ a ≤ 65535) (b : Int) (hb : 0 ≤ b ∧ b ≤ 65535) (c : Int) (hc : 0 ≤ c ∧ c ≤ 255) : Ev (fun k => carillonlaw23_DemandOrder.j2 k l a b c m) true := by
  have hmm := mayB_perm hp hm
  have hml : m.length ≤ 100 := by rw [hp.length_eq]; exact hl
  have e1 := of_eq l a b
  have e2 := of_eq m a b
  rw [if_pos hm] at e1
  rw [if_pos hmm, dem_perm hp] at e2
  obtain ⟨r, hr, hE⟩ := worst_eq l c hm (by omega) (by omega)
  obtain ⟨r', hr', hE'⟩ := worst_eq m c hmm (by omega) (by omega)
  obtain rfl := hr'.perm hp hr
  refine Ev.step (f := fun k => (demand_Of.f k l a b).bind fun bt311 => ((demand_Of.f k m a b).bind fun bt316 => ((demand_Worst.f k l c).bind fun bt321 => ((demand_Worst.f k m c).bind fun bt325 => (if bt311.2 = 0 then (if bt316.2 = 0 then (if bt321.2.2.2 = 0 then (if bt325.2.2.2 = 0 then (if bt311.1 = bt316.1 then (if bt321.1 = bt325.1 then (if bt321.2.1 = bt325.2.1 then (if (bt321.2.2.1 == bt325.2.2.1) = true then ((carillonlaw23_works.f k).bind fun t329 => (some t329)) else (some false)) else (some false)) else (some false)) else (some false)) else (some false)) else (some false)) else (some false)) else (some false)))))) (fun k => ?_) (Ev.bind e1 (Ev.bind e2 (Ev.bind hE (Ev.bind hE' ?_))))
  · simp only [carillonlaw23_DemandOrder.j2]
    rw [copied_eq l (by omega), Option.bind_some, copied_eq m (by omega), wrap_id (x := a) (by omega) (by omega), wrap_id (x := b) (by omega) (by omega), wrap_id (x := c) (by omega) (by omega)]
    rfl
  · refine Ev.congr (fun k => ?_) works_bind
    simp
theorem order_l0 (l : List S38) (os : List Int) (hm : mayB l = true) (hl : l.length ≤ 100) (hol : os.length ≤ 100) (hos : ∀ x ∈ os, 0 ≤ x ∧ x ≤ 65535) (a : Int) (ha : 0 ≤ a ∧ a ≤ 65535) (b : Int) (hb : 0 ≤ b ∧ b ≤ 65535) (c : Int) (hc : 0 ≤ c ∧ c ≤ 255) :
    ∀ (d n : Nat) (m : List S38), n ≤ os.length → os.length - n = d → m.Perm l → Ev (fun k => carillonlaw23_DemandOrder.l0 k l os a b c m (n : Int)) true := by
  intro d
  induction d with
  | zero =>
    intro n m h1 h2 hp
    obtain rfl : n = os.length := by omega
    refine Ev.step (fun k => ?_) (order_j2 l m hp hm hl a ha b hb c hc)
    simp only [carillonlaw23_DemandOrder.l0]
    rw [if_neg (by omega)]
  | succ d ih =>
    intro n m h1 h2 hp
    have hn : n < os.length := by omega
    by_cases hlen : (m.length : Int) > 1
    · obtain ⟨o0, o1⟩ := hos _ (List.getElem_mem hn)
      have w1 : wrap64 os[n] = os[n] := wrap_id (by omega) (by omega)
      obtain ⟨i, hi, ei⟩ : ∃ i : Nat, i < m.length ∧ Int.tmod (n : Int) (m.length : Int) = (i : Int) := by
        have h0 := Int.tmod_nonneg (m.length : Int) (by omega : (0 : Int) ≤ (n : Int))
        have h1 := Int.tmod_lt_of_pos (n : Int) (by omega : 0 < (m.length : Int))
        exact ⟨(Int.tmod (n : Int) (m.length : Int)).toNat, by omega, by omega⟩
      obtain ⟨j, hj, ej⟩ : ∃ j : Nat, j < m.length ∧ Int.tmod os[n] (m.length : Int) = (j : Int) := by
        have h0 := Int.tmod_nonneg (m.length : Int) o0
        have h1 := Int.tmod_lt_of_pos os[n] (by omega : 0 < (m.length : Int))
        exact ⟨(Int.tmod os[n] (m.length : Int)).toNat, by omega, by omega⟩
      refine Ev.step (fun k => ?_) (ih (n + 1) ((m.set i m[j]).set j m[i]) (by omega) (by omega) ((List.set_set_perm hi hj).trans hp))
      simp only [carillonlaw23_DemandOrder.l0]
      rw [if_pos (by omega), if_pos hlen, if_neg (by omega), if_pos (by omega), rdO_at os n hn, w1, ei, ej, if_pos (by omega), if_pos (by omega), if_pos (by omega), if_pos (by omega), rd_at m i hi, rd_at m j hj, wrap_succ n (by omega)]
      rfl
    · refine Ev.step (fun k => ?_) (order_j2 l m hp hm hl a ha b hb c hc)
      simp only [carillonlaw23_DemandOrder.l0]
      rw [if_pos (by omega), if_neg hlen]
theorem order_pure (l : List S38) (_ : l.length * 24 ≤ 140737488351232) (_ : ∀ x ∈ l, In64 x) (os : List Int) (hos : ∀ n ∈ os, (Lit.int .u16 n).wf = true)
    (a : Int) (ha : 0 ≤ a ∧ a ≤ 65535) (b : Int) (hb : 0 ≤ b ∧ b ≤ 65535) (c : Int) (hc : 0 ≤ c ∧ c ≤ 255) : Ev (fun k => carillonlaw23_DemandOrder.f k l os a b c) true := by
  unfold carillonlaw23_DemandOrder.f
  have hworks : Ev (fun k => carillonlaw23_DemandOrder.j0 k l os a b c true) true := Ev.step (fun k => by simp only [carillonlaw23_DemandOrder.j0]; exact if_pos trivial) works_bind
  by_cases hl : (l.length : Int) > 100
  · exact Ev.congr (fun k => if_pos hl) hworks
  refine Ev.congr (fun k => if_neg hl) ?_
  by_cases hl2 : (os.length : Int) > 100
  · exact Ev.congr (fun k => if_pos hl2) hworks
  refine Ev.congr (fun k => if_neg hl2) (Ev.bind (refMay_eq l) ?_)
  by_cases hm : mayB l = true
  · rw [hm]
    refine Ev.step (f := fun k => carillonlaw23_DemandOrder.l0 k l os a b c l ((0 : Nat) : Int)) (fun k => ?_) (order_l0 l os hm (by omega) (by omega) (fun x hx => bounds_u16 (hos x hx)) a ha b hb c hc os.length 0 l (by omega) (by omega) (List.Perm.refl l))
    simp only [carillonlaw23_DemandOrder.j0]
    rw [if_neg (by simp), copied_eq l (by omega), Option.bind_some]
    rfl
  · have hm' : mayB l = false := by simpa using hm
    rw [hm']
    exact hworks
end Go.Proofs.Ytlmmdpdkddmklab.Q
