/- The walks of the image of nothing: what the checks of layers 14 to 26 answer on empty lists. -/
import Derived.Test.YtbhbjfaljpfdgaaGreatProg
import Derived.Handy
import Derived.Recover
import Derived.Defers
import Derived.Below
import Derived.Laws.Pointers
import Derived.Laws.IdiomRangeMap
namespace Go.Proofs.YtbhbjfaljpfdgaaGreat
open Go.RowKit
set_option linter.unusedVariables false
theorem heap_new (w : World) (o : Obj) (i : Nat) (h : i = w.heap.size) : (w.alloc o).heap[i]? = some o := by
  subst h
  exact heap_alloc_new w o
theorem heap_old (w : World) (o : Obj) (i : Nat) (x : Obj) (h : w.heap[i]? = some x) : (w.alloc o).heap[i]? = some x := by
  rw [heap_alloc_old w o (by rcases Nat.lt_or_ge i w.heap.size with h' | h'; exact h'; simp [Array.getElem?_eq_none h'] at h)]
  exact h
theorem range0 (t k e : TypeId) (ht : Tryz.prog.underlying t = some (.map k e)) (w : World) (bm : Nat) (hb : w.heap[bm]? = some (.map #[] 0)) : (Instr.range t (.map (some bm))).run Tryz.prog w = .ok (.pointer (some ⟨w.heap.size, 0, none⟩)) (w.alloc (.mapIter (some bm) 0 #[] 0)) :=
  run_range_map w t k e bm #[] 0 ht hb
theorem next0 (ty : TypeId) (w : World) (b bm : Nat) (h1 : b = w.heap.size) (h2 : w.heap[bm]? = some (.map #[] 0)) : (Instr.next (.pointer (some ⟨b, 0, none⟩)) false ty).run Tryz.prog (w.alloc (.mapIter (some bm) 0 #[] 0)) = .ok (.tuple #[.bool false]) (w.alloc (.mapIter (some bm) 0 #[] 0)) := by
  subst h1
  rcases run_next_map (P := Tryz.prog) w ty bm 0 0 #[] #[] 0 h2 (by simp) (Nat.le_refl _) with h | ⟨e, he, _⟩
  · exact h.2
  · simp [leftOf] at he
theorem below_step {w W w2 : World} (h : Below w.heap.size w W) (k : Below W.heap.size W w2) : Below w.heap.size w w2 := h.trans (k.mono h.size)
theorem kept_cell {W w' : World} (hb : Below W.heap.size W w') {b i : Nat} {v : Value} (hlt : b < W.heap.size) (hc : W.cell? ⟨b, i, none⟩ = some v) :
    w'.cell? ⟨b, i, none⟩ = some v ∧ b < w'.heap.size ∧ b < w'.heap.size + 1 ∧ b < w'.heap.size + 1 + 1 ∧ b < w'.heap.size + 1 + 1 + 1 ∧ b < w'.heap.size + 1 + 1 + 1 + 1 := by
  have := hb.size
  exact ⟨(hb.cell hlt).trans hc, by omega, by omega, by omega, by omega, by omega⟩
theorem size_of {w w' : World} (h : Below w.heap.size w w') : w.heap.size ≤ w'.heap.size := h.size
abbrev nl : Value := .slice none 0 0
set_option maxRecDepth 100000 in
set_option maxHeartbeats 1600000 in
theorem of_nil (w : World) : Calls Tryz.prog 16 #[.agg #[nl, nl, nl]] w fun e w' => e = .returned (.agg #[nl, nl, nl, nl, nl, nl]) ∧ Below w.heap.size w w' := by
  go_enter Tryz.func16, Tryz.ntmps16
  go_wp2
  repeat go_rounds 1
  go_returns
  exact ⟨rfl, by go_grown⟩
set_option maxRecDepth 100000 in
set_option maxHeartbeats 1600000 in
theorem cI_nil (v : Value) (w : World) : Calls Tryz.prog 17 #[nl, v] w fun e w' => e = .returned (.bool false) ∧ Below w.heap.size w w' := by
  go_enter Tryz.func17, Tryz.ntmps17
  go_wp2
  repeat go_rounds 1
  go_returns
  exact ⟨rfl, by go_grown⟩
set_option maxRecDepth 100000 in
set_option maxHeartbeats 1600000 in
theorem cC_nil (v : Value) (w : World) : Calls Tryz.prog 57 #[nl, v] w fun e w' => e = .returned (.bool false) ∧ Below w.heap.size w w' := by
  go_enter Tryz.func57, Tryz.ntmps57
  go_wp2
  repeat go_rounds 1
  go_returns
  exact ⟨rfl, by go_grown⟩
set_option maxRecDepth 100000 in
set_option maxHeartbeats 1600000 in
theorem cT_nil (v : Value) (w : World) : Calls Tryz.prog 22 #[nl, v] w fun e w' => e = .returned (.bool false) ∧ Below w.heap.size w w' := by
  go_enter Tryz.func22, Tryz.ntmps22
  go_wp2
  repeat go_rounds 1
  go_returns
  exact ⟨rfl, by go_grown⟩
set_option maxRecDepth 100000 in
set_option maxHeartbeats 1600000 in
theorem cK_nil (v : Value) (w : World) : Calls Tryz.prog 166 #[nl, v] w fun e w' => e = .returned (.bool false) ∧ Below w.heap.size w w' := by
  go_enter Tryz.func166, Tryz.ntmps166
  go_wp2
  repeat go_rounds 1
  go_returns
  exact ⟨rfl, by go_grown⟩
set_option maxRecDepth 100000 in
set_option maxHeartbeats 1600000 in
theorem may_nil (w : World) : Calls Tryz.prog 20 #[nl, nl] w fun e w' => e = .returned (.int .i64 0) ∧ Below w.heap.size w w' := by
  have hmf : ∀ (fn : Fn) (first cap : Array Value) (w : World), (Instr.makeFunc fn first cap).run Tryz.prog w = .ok (.func fn first cap) w := fun _ _ _ _ => rfl
  go_enter Tryz.func20, Tryz.ntmps20
  go_wp2
  repeat go_rounds 1
  go_returns
  exact ⟨rfl, by go_grown⟩
set_option maxRecDepth 100000 in
set_option maxHeartbeats 1600000 in
theorem outs_nil (w : World) : Calls Tryz.prog 21 #[.agg #[nl, nl, nl]] w fun e w' => e = .returned (.bool true) ∧ Below w.heap.size w w' := by
  go_enter Tryz.func21, Tryz.ntmps21
  go_wp2
  repeat go_rounds 1
  go_returns
  exact ⟨rfl, by go_grown⟩
set_option maxRecDepth 100000 in
set_option maxHeartbeats 1600000 in
theorem unf_nil (w : World) : Calls Tryz.prog 72 #[nl, nl] w fun e w' => e = .returned (.tuple #[.agg #[.int .i64 0, .int .i64 1], .int .i64 0]) ∧ Below w.heap.size w w' := by
  have hmf : ∀ (fn : Fn) (first cap : Array Value) (w : World), (Instr.makeFunc fn first cap).run Tryz.prog w = .ok (.func fn first cap) w := fun _ _ _ _ => rfl
  go_enter Tryz.func72, Tryz.ntmps72
  go_wp2
  repeat go_rounds 1
  go_returns
  exact ⟨rfl, by go_grown⟩
set_option maxRecDepth 100000 in
set_option maxHeartbeats 1600000 in
theorem jobs_nil (w : World) : Calls Tryz.prog 124 #[nl, .int .i64 3] w fun e w' => e = .returned (.tuple #[nl, .int .i64 0]) ∧ Below w.heap.size w w' := by
  have hmf : ∀ (fn : Fn) (first cap : Array Value) (w : World), (Instr.makeFunc fn first cap).run Tryz.prog w = .ok (.func fn first cap) w := fun _ _ _ _ => rfl
  have hmk : ∀ (t : TypeId) (w : World), (Instr.makeMap t none).run Tryz.prog w = .ok (.map (some w.heap.size)) (w.alloc (.map #[] 0)) := fun _ _ => rfl
  go_enter Tryz.func124, Tryz.ntmps124
  go_wp2
  repeat go_rounds 1
  go_returns
  exact ⟨rfl, by go_grown⟩
set_option maxRecDepth 100000 in
set_option maxHeartbeats 1600000 in
theorem chk_nil (w : World) : Calls Tryz.prog 25 #[nl, nl, nl, nl] w fun e w' => e = .returned (.int .i64 0) ∧ Below w.heap.size w w' := by
  have hmf : ∀ (fn : Fn) (first cap : Array Value) (w : World), (Instr.makeFunc fn first cap).run Tryz.prog w = .ok (.func fn first cap) w := fun _ _ _ _ => rfl
  have hmk : ∀ (t : TypeId) (w : World), (Instr.makeMap t none).run Tryz.prog w = .ok (.map (some w.heap.size)) (w.alloc (.map #[] 0)) := fun _ _ => rfl
  go_enter Tryz.func25, Tryz.ntmps25
  go_wp2
  repeat go_rounds 1
  rw [range0 147 _ _ Tryz.underlying147 _ _ (by repeat (first | exact heap_new _ _ _ (by simp only [World.size_alloc]) | refine heap_old _ _ _ _ ?_))]
  go_wp2
  go_rounds 1
  rw [next0 _ _ _ _ (by simp only [World.size_alloc]) (by repeat (first | exact heap_new _ _ _ (by simp only [World.size_alloc]) | refine heap_old _ _ _ _ ?_))]
  go_wp2
  repeat go_rounds 1
  rw [range0 147 _ _ Tryz.underlying147 _ _ (by repeat (first | exact heap_new _ _ _ (by simp only [World.size_alloc]) | refine heap_old _ _ _ _ ?_))]
  go_wp2
  go_rounds 1
  rw [next0 _ _ _ _ (by simp only [World.size_alloc]) (by repeat (first | exact heap_new _ _ _ (by simp only [World.size_alloc]) | refine heap_old _ _ _ _ ?_))]
  go_wp2
  repeat go_rounds 1
  go_returns
  exact ⟨rfl, by go_grown⟩
set_option maxRecDepth 100000 in
set_option maxHeartbeats 1600000 in
theorem works_nil (w : World) : Calls Tryz.prog 71 #[nl, nl, nl, nl] w fun e w' => e = .returned (.tuple #[nl, .int .i64 0]) ∧ Below w.heap.size w w' := by
  have hmf : ∀ (fn : Fn) (first cap : Array Value) (w : World), (Instr.makeFunc fn first cap).run Tryz.prog w = .ok (.func fn first cap) w := fun _ _ _ _ => rfl
  have hmk : ∀ (t : TypeId) (w : World), (Instr.makeMap t none).run Tryz.prog w = .ok (.map (some w.heap.size)) (w.alloc (.map #[] 0)) := fun _ _ => rfl
  have hB := Below.refl w.heap.size w
  go_enter Tryz.func71, Tryz.ntmps71
  go_wp2_with (first | (go_at_call 25; refine (chk_nil _).mono ?_; rintro e w' ⟨rfl, hb⟩; have hB := below_step (w := w) (by go_grown) hb; have hS := size_of hB; clear hb) | (go_at_call 72; refine (unf_nil _).mono ?_; rintro e w' ⟨rfl, hb⟩; have hB := below_step (w := w) (by go_grown) hb; have hS := size_of hB; clear hb) | (go_at_call 124; refine (jobs_nil _).mono ?_; rintro e w' ⟨rfl, hb⟩; have hB := below_step (w := w) (by go_grown) hb; have hS := size_of hB; clear hb))
  repeat go_rounds 1
  go_returns
  exact ⟨rfl, by go_grown⟩
set_option maxRecDepth 100000 in
set_option maxHeartbeats 1600000 in
theorem pass_nil (w : World) : Calls Tryz.prog 26 #[nl, nl, nl, nl] w fun e w' => e = .returned (.int .i64 0) ∧ Below w.heap.size w w' := by
  have hmf : ∀ (fn : Fn) (first cap : Array Value) (w : World), (Instr.makeFunc fn first cap).run Tryz.prog w = .ok (.func fn first cap) w := fun _ _ _ _ => rfl
  have hmk : ∀ (t : TypeId) (w : World), (Instr.makeMap t none).run Tryz.prog w = .ok (.map (some w.heap.size)) (w.alloc (.map #[] 0)) := fun _ _ => rfl
  have hB := Below.refl w.heap.size w
  go_enter Tryz.func26, Tryz.ntmps26
  go_wp2_with (first | (go_at_call 71; refine (works_nil _).mono ?_; rintro e w' ⟨rfl, hb⟩; have hB := below_step (w := w) (by go_grown) hb; have hS := size_of hB; obtain ⟨c0, c0a, c0b, c0c, c0d, c0e⟩ := kept_cell hb (b := w.heap.size) (i :=  0) (v := nl) (by simp <;> omega) (by simp [go_sem]); obtain ⟨c1, c1a, c1b, c1c, c1d, c1e⟩ := kept_cell hb (b := w.heap.size + 1) (i :=  0) (v := nl) (by simp <;> omega) (by simp [go_sem]); obtain ⟨c2, c2a, c2b, c2c, c2d, c2e⟩ := kept_cell hb (b := w.heap.size + 1 + 1) (i :=  0) (v := nl) (by simp <;> omega) (by simp [go_sem]); clear hb))
  repeat go_rounds 1
  go_returns
  exact ⟨rfl, by go_grown⟩
set_option maxRecDepth 100000 in
set_option maxHeartbeats 1600000 in
theorem bufs_nil (w : World) : Calls Tryz.prog 27 #[nl, nl, nl] w fun e w' => e = .returned (.tuple #[.agg #[nl, nl], .int .i64 0]) ∧ Below w.heap.size w w' := by
  have hmf : ∀ (fn : Fn) (first cap : Array Value) (w : World), (Instr.makeFunc fn first cap).run Tryz.prog w = .ok (.func fn first cap) w := fun _ _ _ _ => rfl
  have hmk : ∀ (t : TypeId) (w : World), (Instr.makeMap t none).run Tryz.prog w = .ok (.map (some w.heap.size)) (w.alloc (.map #[] 0)) := fun _ _ => rfl
  go_enter Tryz.func27, Tryz.ntmps27
  go_wp2
  repeat go_rounds 1
  go_returns
  exact ⟨rfl, by go_grown⟩
set_option maxRecDepth 100000 in
set_option maxHeartbeats 1600000 in
theorem same_nil (w : World) : Calls Tryz.prog 28 #[.agg #[nl, nl], .agg #[nl, nl]] w fun e w' => e = .returned (.bool true) ∧ Below w.heap.size w w' := by
  have hmf : ∀ (fn : Fn) (first cap : Array Value) (w : World), (Instr.makeFunc fn first cap).run Tryz.prog w = .ok (.func fn first cap) w := fun _ _ _ _ => rfl
  have hmk : ∀ (t : TypeId) (w : World), (Instr.makeMap t none).run Tryz.prog w = .ok (.map (some w.heap.size)) (w.alloc (.map #[] 0)) := fun _ _ => rfl
  go_enter Tryz.func28, Tryz.ntmps28
  go_wp2
  repeat go_rounds 1
  go_returns
  exact ⟨rfl, by go_grown⟩
set_option maxRecDepth 100000 in
set_option maxHeartbeats 1600000 in
theorem img_same (w : World) : Calls Tryz.prog 14 #[.agg #[nl, nl, nl], .agg #[nl, nl, nl]] w fun e w' => e = .returned (.bool true) ∧ Below w.heap.size w w' := by
  have hmf : ∀ (fn : Fn) (first cap : Array Value) (w : World), (Instr.makeFunc fn first cap).run Tryz.prog w = .ok (.func fn first cap) w := fun _ _ _ _ => rfl
  have hmk : ∀ (t : TypeId) (w : World), (Instr.makeMap t none).run Tryz.prog w = .ok (.map (some w.heap.size)) (w.alloc (.map #[] 0)) := fun _ _ => rfl
  go_enter Tryz.func14, Tryz.ntmps14
  go_wp2
  repeat go_rounds 1
  go_returns
  exact ⟨rfl, by go_grown⟩

end Go.Proofs.YtbhbjfaljpfdgaaGreat
