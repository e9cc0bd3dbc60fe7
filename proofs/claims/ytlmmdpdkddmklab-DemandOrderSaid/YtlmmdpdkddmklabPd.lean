import Derived.Test.YtlmmdpdkddmklabPc
namespace Go.Proofs.Ytlmmdpdkddmklab.Q
open Go.RowKit Go.Proofs.YtlmmdpdkddmklabW.PrintWords Go.Proofs.YtlmmdpdkddmklabW.PrintLast
set_option linter.unusedVariables false

abbrev two : List S38 := [⟨0, 5, 2⟩, ⟨1, 4, 2⟩]
theorem two_may : mayB two = true := by decide
theorem two_one : IsWorst two 1 (0, 0, false) := by
  refine .inr ⟨rfl, fun p hp => ?_⟩
  simp only [pairsOf, List.flatMap_cons, List.flatMap_nil, List.map_cons, List.map_nil, List.cons_append, List.nil_append, List.append_nil, List.mem_cons, List.not_mem_nil, or_false] at hp
  rcases hp with rfl | rfl | rfl | rfl <;> simp [Bad, dem]
theorem two_two : IsWorst two 2 (0, 5, true) := by
  refine .inl ⟨rfl, by simp [pairsOf], by simp [Bad, dem], fun p hp hb => ?_⟩
  simp only [pairsOf, List.flatMap_cons, List.flatMap_nil, List.map_cons, List.map_nil, List.cons_append, List.nil_append, List.append_nil, List.mem_cons, List.not_mem_nil, or_false] at hp
  rcases hp with rfl | rfl | rfl | rfl <;> simp [Bad, dem] at hb ⊢
theorem load_eq (l : List S38) : Ev (fun k => demand_Load.f k l) (if mayB l then (dem l 0 4611686018427387904, 0) else (0, 2)) := by
  refine Ev.congr (f := fun k => (demand_Of.f k l 0 4611686018427387904).bind fun t => some (t.1, t.2)) (fun k => rfl) (Ev.bind (of_eq l 0 4611686018427387904) ?_)
  exact Ev.now _
theorem works_eq : Ev (fun k => carillonlaw23_works.f k) true := by
  obtain ⟨r1, hr1, hE1⟩ := worst_eq two 1 two_may (by omega) (by omega)
  obtain rfl := hr1.unique two_one
  obtain ⟨r2, hr2, hE2⟩ := worst_eq two 2 two_may (by omega) (by omega)
  obtain rfl := hr2.unique two_two
  have h1 := of_eq two 0 5
  have h2 := of_eq two 1 5
  have h3 := load_eq two
  rw [two_may, if_pos rfl] at h1 h2 h3
  unfold carillonlaw23_works.f
  simp only [Option.bind_some]
  refine Ev.bind h1 (Ev.bind h2 (Ev.bind hE1 (Ev.bind hE2 (Ev.bind h3 ?_))))
  refine Ev.congr (f := fun _ => some true) (fun k => ?_) (Ev.now _)
  rw [may_eq, may_eq]
  rfl
end Go.Proofs.Ytlmmdpdkddmklab.Q
