import Derived.Test.YtlmmdpdkddmklabPd
import Derived.Test.YtlmmdpdkddmklabQx5
import Derived.Test.YtlmmdpdkddmklabRk
namespace Go.Proofs.Ytlmmdpdkddmklab.Q
open Go.RowKit Go.Proofs.YtlmmdpdkddmklabW.PrintWords Go.Proofs.YtlmmdpdkddmklabW.PrintLast
set_option linter.unusedVariables false

theorem copied_eq (l : List S38) (h : l.length < 5864062014805) : carillonlaw23_copied.f l = some l := by
  unfold carillonlaw23_copied.f
  rw [if_pos (by simpa using h)]
  rfl
theorem works_bind : Ev (fun k => (carillonlaw23_works.f k).bind fun t => some t) true := Ev.bind works_eq (Ev.now _)
theorem dem_far {l : List S38} (h : ∀ w ∈ l, Okw w) (a : Int) {b b' : Int} (hb : 2251799813685248 ≤ b) (hb' : 2251799813685248 ≤ b') : dem l a b = dem l a b' := by
  rw [dem_all (fun w hw => by have := (h w hw).d1; omega), dem_all (fun w hw => by have := (h w hw).d1; omega)]

theorem tells_pure (l : List S38) (_ : l.length * 24 ≤ 140737488351232) (_ : ∀ x ∈ l, In64 x) (a1 : Int) (_ : -9223372036854775808 ≤ a1 ∧ a1 ≤ 9223372036854775807) (a2 : Int) (_ : -9223372036854775808 ≤ a2 ∧ a2 ≤ 9223372036854775807) (a3 : Int) (_ : -9223372036854775808 ≤ a3 ∧ a3 ≤ 9223372036854775807) : Ev (fun k => carillonlaw23_DemandTells.f k l a1 a2 a3) true := by
  unfold carillonlaw23_DemandTells.f
  by_cases hl : (l.length : Int) > 100
  · exact Ev.congr (fun k => if_pos hl) works_bind
  refine Ev.congr (fun k => if_neg hl) ?_
  simp only [copied_eq l (by omega), Option.bind_some]
  refine Ev.bind (of_eq l a1 a2) (Ev.bind (load_eq l) ?_)
  by_cases hm : mayB l = true
  · obtain ⟨hlen, hok⟩ := (mayB_iff l).1 hm
    simp only [may_eq, hm, if_true, Option.bind_some]
    by_cases hb : 0 ≤ a3 ∧ a3 ≤ 1048576
    · obtain ⟨r, hr, hE⟩ := worst_eq l a3 hm hb.1 hb.2
      obtain ⟨r', hr', hE'⟩ := refWorst_eq l a3 hm hb.1 hb.2
      obtain rfl := hr.unique hr'
      refine Ev.bind hE (Ev.bind (refMay_eq l) ?_)
      refine Ev.congr (fun k => by rw [hm]; exact if_neg (by simp)) (Ev.bind (refMay_eq l) ?_)
      refine Ev.congr (fun k => by rw [hm]; exact if_pos rfl) (Ev.bind (refOf_eq l a1 a2 hm) ?_)
      refine Ev.congr (fun k => if_pos rfl) (Ev.bind (refOf_eq l 0 1152921504606846976 hm) ?_)
      refine Ev.congr (fun k => if_pos (dem_far hok 0 (by omega) (by omega))) ?_
      refine Ev.step (f := fun k => carillonlaw23_DemandTells.j1 k l a3 r.1 r.2.1 r.2.2 0 false) (fun k => ?_) (Ev.step (f := fun k => (carillonref23_Worst.f k l a3).bind fun bt => (if r.1 = bt.1 then (if r.2.1 = bt.2.1 then (if (r.2.2 == bt.2.2) = true then (if (0 : Int) = 0 then ((carillonlaw23_works.f k).bind fun t => (some t)) else (some false)) else (some false)) else (some false)) else (some false))) (fun k => ?_) (Ev.bind hE' ?_))
      · simp only [carillonlaw23_DemandTells.j0]
        rw [if_neg (by simp), if_neg (by omega), decide_eq_false (by omega)]
      · simp only [carillonlaw23_DemandTells.j1]
        rw [if_neg (by simp)]
      · refine Ev.congr (fun k => ?_) works_bind
        simp
    · refine Ev.bind (worst_no l a3 (fun h => hb h.2)) (Ev.bind (refMay_eq l) ?_)
      refine Ev.congr (fun k => by rw [hm]; exact if_neg (by simp)) (Ev.bind (refMay_eq l) ?_)
      refine Ev.congr (fun k => by rw [hm]; exact if_pos rfl) (Ev.bind (refOf_eq l a1 a2 hm) ?_)
      refine Ev.congr (fun k => if_pos rfl) (Ev.bind (refOf_eq l 0 1152921504606846976 hm) ?_)
      refine Ev.congr (fun k => if_pos (dem_far hok 0 (by omega) (by omega))) ?_
      refine Ev.step (f := fun k => carillonlaw23_DemandTells.j1 k l a3 0 0 false 2 true) (fun k => ?_) (Ev.step (fun k => ?_) works_bind)
      · simp only [carillonlaw23_DemandTells.j0]
        rw [if_neg (by simp)]
        by_cases c : a3 < 0
        · rw [if_pos c]
        · rw [if_neg c, decide_eq_true (by omega)]
      · simp only [carillonlaw23_DemandTells.j1]
        simp
  · have hm' : mayB l = false := by simpa using hm
    simp only [may_eq, hm', Bool.false_eq_true, if_false, Option.bind_some]
    refine Ev.bind (worst_no l a3 (fun h => hm h.1)) (Ev.bind (refMay_eq l) ?_)
    refine Ev.congr (fun k => by rw [hm']; exact if_neg (by simp)) (Ev.bind (refMay_eq l) ?_)
    refine Ev.congr (fun k => by rw [hm']; exact if_neg (by simp)) (Ev.congr (fun k => rfl) works_bind)
end Go.Proofs.Ytlmmdpdkddmklab.Q
