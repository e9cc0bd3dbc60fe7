/- Decode at bytes that are none of an image's: too long; the first byte is none of the head's. -/
import Derived.Test.YtbhbjfaljpfdgaaGreatMc
namespace Go.Proofs.YtbhbjfaljpfdgaaGreat
open Go.RowKit
set_option linter.unusedVariables false
theorem wp_norm {P : Program} {c : Code} {Q : Exit → Act → World → Prop} {a : Act} {w : World} (h : c.wp P (fun e a w => match e with | .normal => Q .normal a w | _ => False) a w) : c.wp P Q a w :=
  Code.wp_mono (fun e a w q => by cases e <;> first | exact q | exact q.elim) h
set_option maxRecDepth 100000 in
set_option maxHeartbeats 4000000 in
theorem dec_x (w : World) : Calls Tryz.prog 12 #[.string ⟨#[120]⟩] w fun e w' => e = .returned (.tuple #[.agg #[nl, nl, nl], .int .i64 8]) ∧ Below w.heap.size w w' := by
  have hmf : ∀ (fn : Fn) (first cap : Array Value) (w : World), (Instr.makeFunc fn first cap).run Tryz.prog w = .ok (.func fn first cap) w := fun _ _ _ _ => rfl
  go_enter_defers Tryz.func12, Tryz.ntmps12
  go_wp2_with (first | (go_at_call 36; refine (bad_dies _).mono ?_; rintro e w' ⟨rfl, rfl⟩) | go_in)
  refine wp_loop_rounds 1 ?_
  rw [rounds_succ]
  go_wp2_with (first | (go_at_call 36; refine (bad_dies _).mono ?_; rintro e w' ⟨rfl, rfl⟩) | go_in)
  refine wp_norm ?_
  go_region_calls
  all_goals (show Exit.then _ _ _ _ _)
  all_goals go_wp2_with (first | (go_at_call 36; refine (bad_dies _).mono ?_; rintro e w' ⟨rfl, rfl⟩) | go_in)
  all_goals
    refine leaves_cons (f := 34) (args := #[.pointer (some ⟨w.heap.size + 1, 0, none⟩)]) (by simp) (by simp [go_sem]) ?_
    refine (caught_panicking ⟨w.heap.size + 1, 0, none⟩ 0 [] _ (by simp [go_sem]) (by simp [go_sem])).mono ?_
    rintro e u' w'' ⟨rfl, rfl, rfl⟩
    refine leaves_cons (f := 33) (args := #[.pointer (some ⟨w.heap.size + 1, 0, none⟩), .pointer (some ⟨w.heap.size, 0, none⟩)]) (by simp [settle]) (by simp [go_sem]) ?_
    refine (clear_some ⟨w.heap.size + 1, 0, none⟩ w.heap.size 8 (by decide) _ _ (by simp [go_sem]) (by simp [go_sem]) (by simp [go_sem]) (by simp [go_sem]) (by simp [go_sem]) (by simp [go_sem]) (by simp [go_sem])).mono ?_
    rintro e u' w'' ⟨rfl, rfl, rfl⟩
    simp [Leaves, settle, results, Tryz.results12, go_sem]
    go_grown
set_option maxRecDepth 100000 in
set_option maxHeartbeats 4000000 in
/-- Too long. -/
theorem dec_long (s : ByteArray) (hs : 1048576 < (s.size : Int)) (w : World) : Calls Tryz.prog 12 #[.string s] w fun e w' => e = .returned (.tuple #[.agg #[nl, nl, nl], .int .i64 4]) ∧ Below w.heap.size w w' := by
  have hmf : ∀ (fn : Fn) (first cap : Array Value) (w : World), (Instr.makeFunc fn first cap).run Tryz.prog w = .ok (.func fn first cap) w := fun _ _ _ _ => rfl
  go_enter_defers Tryz.func12, Tryz.ntmps12
  have h1 : decide (1048576 < (s.size : Int)) = true := decide_eq_true hs
  go_wp2
  refine leaves_cons (f := 33) (args := #[.pointer (some ⟨w.heap.size + 1, 0, none⟩), .pointer (some ⟨w.heap.size, 0, none⟩)]) (by simp) (by simp [go_sem]) ?_
  refine (clear_some ⟨w.heap.size + 1, 0, none⟩ w.heap.size 4 (by decide) _ _ (by simp [go_sem]) (by simp [go_sem]) (by simp [go_sem]) (by simp [go_sem]) (by simp [go_sem]) (by simp [go_sem]) (by simp [go_sem])).mono ?_
  rintro e u' w'' ⟨rfl, rfl, rfl⟩
  simp [Leaves, settle, results, Tryz.results12, go_sem]
  go_grown
set_option maxRecDepth 100000 in
set_option maxHeartbeats 4000000 in
/-- The first byte is 0. -/
theorem dec_nul (s : ByteArray) (hs : (s.size : Int) ≤ 1048576) (hp : 0 < s.size) (h0 : s[0] = 0) (hne : s.toList.isEmpty = false) (w : World) : Calls Tryz.prog 12 #[.string s] w fun e w' => e = .returned (.tuple #[.agg #[nl, nl, nl], .int .i64 8]) ∧ Below w.heap.size w w' := by
  have hmf : ∀ (fn : Fn) (first cap : Array Value) (w : World), (Instr.makeFunc fn first cap).run Tryz.prog w = .ok (.func fn first cap) w := fun _ _ _ _ => rfl
  have h1 : decide (1048576 < (s.size : Int)) = false := decide_eq_false (by omega)
  go_enter_defers Tryz.func12, Tryz.ntmps12
  go_wp2_with (first | (go_at_call 36; refine (bad_dies _).mono ?_; rintro e w' ⟨rfl, rfl⟩) | go_in)
  refine wp_loop_rounds 1 ?_
  rw [rounds_succ]
  go_wp2_with (first | (go_at_call 36; refine (bad_dies _).mono ?_; rintro e w' ⟨rfl, rfl⟩) | go_in)
  refine wp_norm ?_
  go_region_calls
  all_goals (show Exit.then _ _ _ _ _)
  all_goals go_wp2_with (first | (go_at_call 36; refine (bad_dies _).mono ?_; rintro e w' ⟨rfl, rfl⟩) | go_in)
  all_goals
    refine leaves_cons (f := 34) (args := #[.pointer (some ⟨w.heap.size + 1, 0, none⟩)]) (by simp) (by simp [go_sem]) ?_
    refine (caught_panicking ⟨w.heap.size + 1, 0, none⟩ 0 [] _ (by simp [go_sem]) (by simp [go_sem])).mono ?_
    rintro e u' w'' ⟨rfl, rfl, rfl⟩
    refine leaves_cons (f := 33) (args := #[.pointer (some ⟨w.heap.size + 1, 0, none⟩), .pointer (some ⟨w.heap.size, 0, none⟩)]) (by simp [settle]) (by simp [go_sem]) ?_
    refine (clear_some ⟨w.heap.size + 1, 0, none⟩ w.heap.size 8 (by decide) _ _ (by simp [go_sem]) (by simp [go_sem]) (by simp [go_sem]) (by simp [go_sem]) (by simp [go_sem]) (by simp [go_sem]) (by simp [go_sem])).mono ?_
    rintro e u' w'' ⟨rfl, rfl, rfl⟩
    simp [Leaves, settle, results, Tryz.results12, go_sem]
    go_grown
end Go.Proofs.YtbhbjfaljpfdgaaGreat
