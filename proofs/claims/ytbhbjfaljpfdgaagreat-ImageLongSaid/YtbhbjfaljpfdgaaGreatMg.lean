/- Decode at the image of nothing, and with a zero byte behind it. -/
import Derived.Test.YtbhbjfaljpfdgaaGreatMf
import Derived.Deep.RegionWith
namespace Go.Proofs.YtbhbjfaljpfdgaaGreat
open Go.RowKit
set_option linter.unusedVariables false
set_option maxRecDepth 100000 in
set_option maxHeartbeats 4000000 in
theorem caught_idle (p : Addr) (w : World) :
    CallsD Tryz.prog 34 #[.pointer (some p)] .returning w fun e u' w' => e = .returned (.tuple #[]) ∧ u' = .returning ∧ w' = w := by
  refine callsD_of_wpS Tryz.func34 rfl fun c₀ cs hu => ?_
  apply wpS_seq
  apply wpS_region
  simp [wpOpsS, go_sem, recoverD, hu, Tryz.ntmps34, Exit.thenS]
  refine wpS_of_wp ?_
  generalize hT : (#[Value.pointer (some p)] ++ _ : Array Value) = T
  have hT' : T = #[.pointer (some p), undef, .nilIface, undef, undef, .nilIface, undef, undef, undef, undef, undef, undef, undef, undef, undef, undef, undef, undef, undef] := by rw [← hT]; rfl
  clear hT
  subst hT'
  go_wp2
  cases c₀
  simp_all [bodyPostS, results, Tryz.results34]
set_option maxRecDepth 100000 in
set_option maxHeartbeats 4000000 in
theorem dec_one (w : World) : Calls Tryz.prog 12 #[.string ⟨#[99, 97, 114, 108, 1, 0, 0, 0]⟩] w fun e w' => e = .returned (.tuple #[.agg #[nl, nl, nl], .int .i64 0]) ∧ Below w.heap.size w w' := by
  have hmf : ∀ (fn : Fn) (first cap : Array Value) (w : World), (Instr.makeFunc fn first cap).run Tryz.prog w = .ok (.func fn first cap) w := fun _ _ _ _ => rfl
  have x0 : (ByteArray.extract ⟨#[99, 97, 114, 108, 1, 0, 0, 0]⟩ 1 8) = ⟨#[97, 114, 108, 1, 0, 0, 0]⟩ := by rfl
  have x1 : (ByteArray.extract ⟨#[97, 114, 108, 1, 0, 0, 0]⟩ 1 7) = ⟨#[114, 108, 1, 0, 0, 0]⟩ := by rfl
  have x2 : (ByteArray.extract ⟨#[114, 108, 1, 0, 0, 0]⟩ 1 6) = ⟨#[108, 1, 0, 0, 0]⟩ := by rfl
  have x3 : (ByteArray.extract ⟨#[108, 1, 0, 0, 0]⟩ 1 5) = ⟨#[1, 0, 0, 0]⟩ := by rfl
  have x4 : (ByteArray.extract ⟨#[1, 0, 0, 0]⟩ 1 4) = ⟨#[0, 0, 0]⟩ := by rfl
  have x5 : (ByteArray.extract ⟨#[0, 0, 0]⟩ 1 3) = ⟨#[0, 0]⟩ := by rfl
  have x6 : (ByteArray.extract ⟨#[0, 0]⟩ 1 2) = ⟨#[0]⟩ := by rfl
  have x7 : (ByteArray.extract ⟨#[0]⟩ 1 1) = ⟨#[]⟩ := by rfl
  go_enter_defers Tryz.func12, Tryz.ntmps12
  go_wp2_with (first | (go_at_call 36; refine (bad_dies _).mono ?_; rintro e w' ⟨rfl, rfl⟩) | go_in)
  refine wp_loop_rounds 6 ?_
  rw [rounds_succ]
  go_wp2_with (first | (go_at_call 36; refine (bad_dies _).mono ?_; rintro e w' ⟨rfl, rfl⟩) | go_in)
  apply wp_at
  · go_region_calls
    all_goals exact ⟨rfl, rfl⟩
  go_wp2_with (first | (go_at_call 36; refine (bad_dies _).mono ?_; rintro e w' ⟨rfl, rfl⟩) | go_in)
  try simp only [x0]
  rw [rounds_succ]
  go_wp2_with (first | (go_at_call 36; refine (bad_dies _).mono ?_; rintro e w' ⟨rfl, rfl⟩) | go_in)
  apply wp_at
  · go_region_calls
    all_goals exact ⟨rfl, rfl⟩
  go_wp2_with (first | (go_at_call 36; refine (bad_dies _).mono ?_; rintro e w' ⟨rfl, rfl⟩) | go_in)
  try simp only [x1]
  rw [rounds_succ]
  go_wp2_with (first | (go_at_call 36; refine (bad_dies _).mono ?_; rintro e w' ⟨rfl, rfl⟩) | go_in)
  apply wp_at
  · go_region_calls
    all_goals exact ⟨rfl, rfl⟩
  go_wp2_with (first | (go_at_call 36; refine (bad_dies _).mono ?_; rintro e w' ⟨rfl, rfl⟩) | go_in)
  try simp only [x2]
  rw [rounds_succ]
  go_wp2_with (first | (go_at_call 36; refine (bad_dies _).mono ?_; rintro e w' ⟨rfl, rfl⟩) | go_in)
  apply wp_at
  · go_region_calls
    all_goals exact ⟨rfl, rfl⟩
  go_wp2_with (first | (go_at_call 36; refine (bad_dies _).mono ?_; rintro e w' ⟨rfl, rfl⟩) | go_in)
  try simp only [x3]
  rw [rounds_succ]
  go_wp2_with (first | (go_at_call 36; refine (bad_dies _).mono ?_; rintro e w' ⟨rfl, rfl⟩) | go_in)
  apply wp_at
  · go_region_calls
    all_goals exact ⟨rfl, rfl⟩
  go_wp2_with (first | (go_at_call 36; refine (bad_dies _).mono ?_; rintro e w' ⟨rfl, rfl⟩) | go_in)
  try simp only [x4]
  rw [rounds_succ]
  go_wp2_with (first | (go_at_call 36; refine (bad_dies _).mono ?_; rintro e w' ⟨rfl, rfl⟩) | go_in)
  apply wp_at
  · go_region_with (go_at_call 46; refine (list46_zero (w.heap.size + 1 + 1) w.heap.size 0 _ ⟨#[0, 0, 0]⟩ _ (by decide) (by rfl) (by simp [go_sem, ByteArray.toList, ByteArray.toList.loop]) (by simp [go_sem]) (by simp [go_sem]) (by simp [go_sem]) (by simp [go_sem]) (by simp <;> omega) (by simp <;> omega)).mono ?_; rintro e w' ⟨rfl, rfl⟩)
    all_goals exact ⟨rfl, rfl⟩
  try simp only [x5]
  go_wp2_with (first | (go_at_call 36; refine (bad_dies _).mono ?_; rintro e w' ⟨rfl, rfl⟩) | go_in)
  apply wp_at
  · go_region_with (go_at_call 52; refine (list52_zero (w.heap.size + 1 + 1) w.heap.size 1 _ ⟨#[0, 0]⟩ _ (by decide) (by rfl) (by simp [go_sem, ByteArray.toList, ByteArray.toList.loop]) (by simp [go_sem]) (by simp [go_sem]) (by simp [go_sem]) (by simp [go_sem]) (by simp <;> omega) (by simp <;> omega)).mono ?_; rintro e w' ⟨rfl, rfl⟩)
    all_goals exact ⟨rfl, rfl⟩
  try simp only [x6]
  go_wp2_with (first | (go_at_call 36; refine (bad_dies _).mono ?_; rintro e w' ⟨rfl, rfl⟩) | go_in)
  apply wp_at
  · go_region_with (go_at_call 54; refine (list54_zero (w.heap.size + 1 + 1) w.heap.size 2 _ ⟨#[0]⟩ _ (by decide) (by rfl) (by simp [go_sem, ByteArray.toList, ByteArray.toList.loop]) (by simp [go_sem]) (by simp [go_sem]) (by simp [go_sem]) (by simp [go_sem]) (by simp <;> omega) (by simp <;> omega)).mono ?_; rintro e w' ⟨rfl, rfl⟩)
    all_goals exact ⟨rfl, rfl⟩
  try simp only [x7]
  go_wp2_with (first | (go_at_call 36; refine (bad_dies _).mono ?_; rintro e w' ⟨rfl, rfl⟩) | go_in)
  refine wp_norm ?_
  go_region_with (go_at_call 10; refine (emay_nil _).mono ?_; rintro e w' ⟨rfl, hb⟩; obtain ⟨d0, d0a, -⟩ := kept_cell hb (b := w.heap.size) (i := 0) (v := nl) (by simp <;> omega) (by simp [go_sem]); obtain ⟨d1, d1a, -⟩ := kept_cell hb (b := w.heap.size) (i := 1) (v := nl) (by simp <;> omega) (by simp [go_sem]); obtain ⟨d2, d2a, -⟩ := kept_cell hb (b := w.heap.size) (i := 2) (v := nl) (by simp <;> omega) (by simp [go_sem]); obtain ⟨d3, d3a, -⟩ := kept_cell hb (b := w.heap.size + 1) (i := 0) (v := .int .i64 0) (by simp <;> omega) (by simp [go_sem]); have f0 : w'.frozen? ⟨w.heap.size, 0, none⟩ = false := (hb.frozen (by simp <;> omega)).trans (by simp [go_sem]); have f1 : w'.frozen? ⟨w.heap.size, 1, none⟩ = false := (hb.frozen (by simp <;> omega)).trans (by simp [go_sem]); have f2 : w'.frozen? ⟨w.heap.size, 2, none⟩ = false := (hb.frozen (by simp <;> omega)).trans (by simp [go_sem]); have f3 : w'.frozen? ⟨w.heap.size + 1, 0, none⟩ = false := (hb.frozen (by simp <;> omega)).trans (by simp [go_sem]); have hB : Below w.heap.size w w' := below_step (by go_grown) hb; clear hb)
  all_goals (show Exit.then _ _ _ _ _)
  all_goals go_wp2
  all_goals
    refine leaves_cons (f := 34) (args := #[.pointer (some ⟨w.heap.size + 1, 0, none⟩)]) (by simp) (by simp [go_sem]) ?_
    refine (caught_idle ⟨w.heap.size + 1, 0, none⟩ _).mono ?_
    rintro e u' w'' ⟨rfl, rfl, rfl⟩
    refine leaves_cons (f := 33) (args := #[.pointer (some ⟨w.heap.size + 1, 0, none⟩), .pointer (some ⟨w.heap.size, 0, none⟩)]) (by simp [settle]) (by simp [go_sem]) ?_
    refine (clear_none ⟨w.heap.size + 1, 0, none⟩ ⟨w.heap.size, 0, none⟩ _ _ (by simp [go_sem, *])).mono ?_
    rintro e u' w'' ⟨rfl, rfl, rfl⟩
    simp [Leaves, settle, results, Tryz.results12, go_sem, *]
    exact (((hB.setCell (by simp) _).setCell (by simp) _).setCell (by simp) _).setCell (by simp) _
set_option maxRecDepth 100000 in
set_option maxHeartbeats 4000000 in
theorem dec_two (w : World) : Calls Tryz.prog 12 #[.string ⟨#[99, 97, 114, 108, 1, 0, 0, 0, 0]⟩] w fun e w' => e = .returned (.tuple #[.agg #[nl, nl, nl], .int .i64 8]) ∧ Below w.heap.size w w' := by
  have hmf : ∀ (fn : Fn) (first cap : Array Value) (w : World), (Instr.makeFunc fn first cap).run Tryz.prog w = .ok (.func fn first cap) w := fun _ _ _ _ => rfl
  have x0 : (ByteArray.extract ⟨#[99, 97, 114, 108, 1, 0, 0, 0, 0]⟩ 1 9) = ⟨#[97, 114, 108, 1, 0, 0, 0, 0]⟩ := by rfl
  have x1 : (ByteArray.extract ⟨#[97, 114, 108, 1, 0, 0, 0, 0]⟩ 1 8) = ⟨#[114, 108, 1, 0, 0, 0, 0]⟩ := by rfl
  have x2 : (ByteArray.extract ⟨#[114, 108, 1, 0, 0, 0, 0]⟩ 1 7) = ⟨#[108, 1, 0, 0, 0, 0]⟩ := by rfl
  have x3 : (ByteArray.extract ⟨#[108, 1, 0, 0, 0, 0]⟩ 1 6) = ⟨#[1, 0, 0, 0, 0]⟩ := by rfl
  have x4 : (ByteArray.extract ⟨#[1, 0, 0, 0, 0]⟩ 1 5) = ⟨#[0, 0, 0, 0]⟩ := by rfl
  have x5 : (ByteArray.extract ⟨#[0, 0, 0, 0]⟩ 1 4) = ⟨#[0, 0, 0]⟩ := by rfl
  have x6 : (ByteArray.extract ⟨#[0, 0, 0]⟩ 1 3) = ⟨#[0, 0]⟩ := by rfl
  have x7 : (ByteArray.extract ⟨#[0, 0]⟩ 1 2) = ⟨#[0]⟩ := by rfl
  go_enter_defers Tryz.func12, Tryz.ntmps12
  go_wp2_with (first | (go_at_call 36; refine (bad_dies _).mono ?_; rintro e w' ⟨rfl, rfl⟩) | go_in)
  refine wp_loop_rounds 6 ?_
  rw [rounds_succ]
  go_wp2_with (first | (go_at_call 36; refine (bad_dies _).mono ?_; rintro e w' ⟨rfl, rfl⟩) | go_in)
  apply wp_at
  · go_region_calls
    all_goals exact ⟨rfl, rfl⟩
  go_wp2_with (first | (go_at_call 36; refine (bad_dies _).mono ?_; rintro e w' ⟨rfl, rfl⟩) | go_in)
  try simp only [x0]
  rw [rounds_succ]
  go_wp2_with (first | (go_at_call 36; refine (bad_dies _).mono ?_; rintro e w' ⟨rfl, rfl⟩) | go_in)
  apply wp_at
  · go_region_calls
    all_goals exact ⟨rfl, rfl⟩
  go_wp2_with (first | (go_at_call 36; refine (bad_dies _).mono ?_; rintro e w' ⟨rfl, rfl⟩) | go_in)
  try simp only [x1]
  rw [rounds_succ]
  go_wp2_with (first | (go_at_call 36; refine (bad_dies _).mono ?_; rintro e w' ⟨rfl, rfl⟩) | go_in)
  apply wp_at
  · go_region_calls
    all_goals exact ⟨rfl, rfl⟩
  go_wp2_with (first | (go_at_call 36; refine (bad_dies _).mono ?_; rintro e w' ⟨rfl, rfl⟩) | go_in)
  try simp only [x2]
  rw [rounds_succ]
  go_wp2_with (first | (go_at_call 36; refine (bad_dies _).mono ?_; rintro e w' ⟨rfl, rfl⟩) | go_in)
  apply wp_at
  · go_region_calls
    all_goals exact ⟨rfl, rfl⟩
  go_wp2_with (first | (go_at_call 36; refine (bad_dies _).mono ?_; rintro e w' ⟨rfl, rfl⟩) | go_in)
  try simp only [x3]
  rw [rounds_succ]
  go_wp2_with (first | (go_at_call 36; refine (bad_dies _).mono ?_; rintro e w' ⟨rfl, rfl⟩) | go_in)
  apply wp_at
  · go_region_calls
    all_goals exact ⟨rfl, rfl⟩
  go_wp2_with (first | (go_at_call 36; refine (bad_dies _).mono ?_; rintro e w' ⟨rfl, rfl⟩) | go_in)
  try simp only [x4]
  rw [rounds_succ]
  go_wp2_with (first | (go_at_call 36; refine (bad_dies _).mono ?_; rintro e w' ⟨rfl, rfl⟩) | go_in)
  apply wp_at
  · go_region_with (go_at_call 46; refine (list46_zero (w.heap.size + 1 + 1) w.heap.size 0 _ ⟨#[0, 0, 0, 0]⟩ _ (by decide) (by rfl) (by simp [go_sem, ByteArray.toList, ByteArray.toList.loop]) (by simp [go_sem]) (by simp [go_sem]) (by simp [go_sem]) (by simp [go_sem]) (by simp <;> omega) (by simp <;> omega)).mono ?_; rintro e w' ⟨rfl, rfl⟩)
    all_goals exact ⟨rfl, rfl⟩
  try simp only [x5]
  go_wp2_with (first | (go_at_call 36; refine (bad_dies _).mono ?_; rintro e w' ⟨rfl, rfl⟩) | go_in)
  apply wp_at
  · go_region_with (go_at_call 52; refine (list52_zero (w.heap.size + 1 + 1) w.heap.size 1 _ ⟨#[0, 0, 0]⟩ _ (by decide) (by rfl) (by simp [go_sem, ByteArray.toList, ByteArray.toList.loop]) (by simp [go_sem]) (by simp [go_sem]) (by simp [go_sem]) (by simp [go_sem]) (by simp <;> omega) (by simp <;> omega)).mono ?_; rintro e w' ⟨rfl, rfl⟩)
    all_goals exact ⟨rfl, rfl⟩
  try simp only [x6]
  go_wp2_with (first | (go_at_call 36; refine (bad_dies _).mono ?_; rintro e w' ⟨rfl, rfl⟩) | go_in)
  apply wp_at
  · go_region_with (go_at_call 54; refine (list54_zero (w.heap.size + 1 + 1) w.heap.size 2 _ ⟨#[0, 0]⟩ _ (by decide) (by rfl) (by simp [go_sem, ByteArray.toList, ByteArray.toList.loop]) (by simp [go_sem]) (by simp [go_sem]) (by simp [go_sem]) (by simp [go_sem]) (by simp <;> omega) (by simp <;> omega)).mono ?_; rintro e w' ⟨rfl, rfl⟩)
    all_goals exact ⟨rfl, rfl⟩
  try simp only [x7]
  go_wp2_with (first | (go_at_call 36; refine (bad_dies _).mono ?_; rintro e w' ⟨rfl, rfl⟩) | go_in)
  refine leaves_cons (f := 34) (args := #[.pointer (some ⟨w.heap.size + 1, 0, none⟩)]) (by simp) (by simp [go_sem]) ?_
  refine (caught_panicking ⟨w.heap.size + 1, 0, none⟩ 0 [] _ (by simp [go_sem]) (by simp [go_sem])).mono ?_
  rintro e u' w'' ⟨rfl, rfl, rfl⟩
  refine leaves_cons (f := 33) (args := #[.pointer (some ⟨w.heap.size + 1, 0, none⟩), .pointer (some ⟨w.heap.size, 0, none⟩)]) (by simp [settle]) (by simp [go_sem]) ?_
  refine (clear_some ⟨w.heap.size + 1, 0, none⟩ w.heap.size 8 (by decide) _ _ (by simp [go_sem]) (by simp [go_sem]) (by simp [go_sem]) (by simp [go_sem]) (by simp [go_sem]) (by simp [go_sem]) (by simp [go_sem])).mono ?_
  rintro e u' w'' ⟨rfl, rfl, rfl⟩
  simp [Leaves, settle, results, Tryz.results12, go_sem]
  go_grown
end Go.Proofs.YtbhbjfaljpfdgaaGreat
