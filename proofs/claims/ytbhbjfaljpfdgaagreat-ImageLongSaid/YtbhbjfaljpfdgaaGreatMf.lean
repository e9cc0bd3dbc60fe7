/- Lists of which none are told. -/
import Derived.Test.YtbhbjfaljpfdgaaGreatMe
namespace Go.Proofs.YtbhbjfaljpfdgaaGreat
open Go.RowKit
set_option linter.unusedVariables false
set_option maxRecDepth 100000 in
set_option maxHeartbeats 4000000 in
theorem list46_zero (b a : Nat) (i : Nat) (fn : Value) (s : ByteArray) (w : World) (hp : 0 < s.size) (h0 : s[0] = 0) (hne : s.toList.isEmpty = false) (hc : w.cell? ⟨b, 0, none⟩ = some (.string s)) (hz : w.frozen? ⟨b, 0, none⟩ = false) (h2 : w.cell? ⟨b, 2, none⟩ = some (.bool true))
    (hl : w.cell? ⟨a, i, none⟩ = some nl) (hb : b < w.heap.size) (ha : a < w.heap.size) :
    Calls Tryz.prog 46 #[.pointer (some ⟨b, 0, none⟩), .pointer (some ⟨a, i, none⟩), fn] w fun e w' => e = .returned (.tuple #[]) ∧ w' = (((w.setCell ⟨b, 0, none⟩ (.string (s.extract 1 s.size))).alloc (.cells #[.int .i64 0] 3)).alloc (.cells #[.pointer (some ⟨w.heap.size, 0, none⟩)] 120)).drew := by
  have hmf : ∀ (fn : Fn) (first cap : Array Value) (w : World), (Instr.makeFunc fn first cap).run Tryz.prog w = .ok (.func fn first cap) w := fun _ _ _ _ => rfl
  go_enter Tryz.func46, Tryz.ntmps46
  go_wp2_with (first | (go_at_call 97; refine (get_zero b s _ hp h0 hne (by first | assumption | (simp [go_sem, hc, hb, Nat.lt_succ_of_lt]; done)) (by first | assumption | (simp [go_sem, hz, hb, Nat.lt_succ_of_lt]; done))).mono ?_; rintro e w' ⟨rfl, rfl⟩) | go_in)
  refine wp_loop_rounds 2 ?_
  rw [rounds_succ]
  go_wp2_with (first | (go_at_call 97; refine (get_zero b s _ hp h0 hne (by first | assumption | (simp [go_sem, hc, hb, Nat.lt_succ_of_lt]; done)) (by first | assumption | (simp [go_sem, hz, hb, Nat.lt_succ_of_lt]; done))).mono ?_; rintro e w' ⟨rfl, rfl⟩) | go_in)
  rw [rounds_succ]
  go_wp2_with (first | (go_at_call 97; refine (get_zero b s _ hp h0 hne (by first | assumption | (simp [go_sem, hc, hb, Nat.lt_succ_of_lt]; done)) (by first | assumption | (simp [go_sem, hz, hb, Nat.lt_succ_of_lt]; done))).mono ?_; rintro e w' ⟨rfl, rfl⟩) | go_in)
  apply wp_at
  · go_region_calls
    all_goals exact ⟨rfl, rfl⟩
  go_wp2_with (first | (go_at_call 97; refine (get_zero b s _ hp h0 hne (by first | assumption | (simp [go_sem, hc, hb, Nat.lt_succ_of_lt]; done)) (by first | assumption | (simp [go_sem, hz, hb, Nat.lt_succ_of_lt]; done))).mono ?_; rintro e w' ⟨rfl, rfl⟩) | go_in)
  refine wp_loop_rounds 1 ?_
  rw [rounds_succ]
  go_wp2_with (first | (go_at_call 97; refine (get_zero b s _ hp h0 hne (by first | assumption | (simp [go_sem, hc, hb, Nat.lt_succ_of_lt]; done)) (by first | assumption | (simp [go_sem, hz, hb, Nat.lt_succ_of_lt]; done))).mono ?_; rintro e w' ⟨rfl, rfl⟩) | go_in)
  go_end0
  exact ⟨rfl, rfl⟩
set_option maxRecDepth 100000 in
set_option maxHeartbeats 4000000 in
theorem list52_zero (b a : Nat) (i : Nat) (fn : Value) (s : ByteArray) (w : World) (hp : 0 < s.size) (h0 : s[0] = 0) (hne : s.toList.isEmpty = false) (hc : w.cell? ⟨b, 0, none⟩ = some (.string s)) (hz : w.frozen? ⟨b, 0, none⟩ = false) (h2 : w.cell? ⟨b, 2, none⟩ = some (.bool true))
    (hl : w.cell? ⟨a, i, none⟩ = some nl) (hb : b < w.heap.size) (ha : a < w.heap.size) :
    Calls Tryz.prog 52 #[.pointer (some ⟨b, 0, none⟩), .pointer (some ⟨a, i, none⟩), fn] w fun e w' => e = .returned (.tuple #[]) ∧ w' = (((w.setCell ⟨b, 0, none⟩ (.string (s.extract 1 s.size))).alloc (.cells #[.int .i64 0] 3)).alloc (.cells #[.pointer (some ⟨w.heap.size, 0, none⟩)] 120)).drew := by
  have hmf : ∀ (fn : Fn) (first cap : Array Value) (w : World), (Instr.makeFunc fn first cap).run Tryz.prog w = .ok (.func fn first cap) w := fun _ _ _ _ => rfl
  go_enter Tryz.func52, Tryz.ntmps52
  go_wp2_with (first | (go_at_call 97; refine (get_zero b s _ hp h0 hne (by first | assumption | (simp [go_sem, hc, hb, Nat.lt_succ_of_lt]; done)) (by first | assumption | (simp [go_sem, hz, hb, Nat.lt_succ_of_lt]; done))).mono ?_; rintro e w' ⟨rfl, rfl⟩) | go_in)
  refine wp_loop_rounds 2 ?_
  rw [rounds_succ]
  go_wp2_with (first | (go_at_call 97; refine (get_zero b s _ hp h0 hne (by first | assumption | (simp [go_sem, hc, hb, Nat.lt_succ_of_lt]; done)) (by first | assumption | (simp [go_sem, hz, hb, Nat.lt_succ_of_lt]; done))).mono ?_; rintro e w' ⟨rfl, rfl⟩) | go_in)
  rw [rounds_succ]
  go_wp2_with (first | (go_at_call 97; refine (get_zero b s _ hp h0 hne (by first | assumption | (simp [go_sem, hc, hb, Nat.lt_succ_of_lt]; done)) (by first | assumption | (simp [go_sem, hz, hb, Nat.lt_succ_of_lt]; done))).mono ?_; rintro e w' ⟨rfl, rfl⟩) | go_in)
  apply wp_at
  · go_region_calls
    all_goals exact ⟨rfl, rfl⟩
  go_wp2_with (first | (go_at_call 97; refine (get_zero b s _ hp h0 hne (by first | assumption | (simp [go_sem, hc, hb, Nat.lt_succ_of_lt]; done)) (by first | assumption | (simp [go_sem, hz, hb, Nat.lt_succ_of_lt]; done))).mono ?_; rintro e w' ⟨rfl, rfl⟩) | go_in)
  refine wp_loop_rounds 1 ?_
  rw [rounds_succ]
  go_wp2_with (first | (go_at_call 97; refine (get_zero b s _ hp h0 hne (by first | assumption | (simp [go_sem, hc, hb, Nat.lt_succ_of_lt]; done)) (by first | assumption | (simp [go_sem, hz, hb, Nat.lt_succ_of_lt]; done))).mono ?_; rintro e w' ⟨rfl, rfl⟩) | go_in)
  go_end0
  exact ⟨rfl, rfl⟩
set_option maxRecDepth 100000 in
set_option maxHeartbeats 4000000 in
theorem list54_zero (b a : Nat) (i : Nat) (fn : Value) (s : ByteArray) (w : World) (hp : 0 < s.size) (h0 : s[0] = 0) (hne : s.toList.isEmpty = false) (hc : w.cell? ⟨b, 0, none⟩ = some (.string s)) (hz : w.frozen? ⟨b, 0, none⟩ = false) (h2 : w.cell? ⟨b, 2, none⟩ = some (.bool true))
    (hl : w.cell? ⟨a, i, none⟩ = some nl) (hb : b < w.heap.size) (ha : a < w.heap.size) :
    Calls Tryz.prog 54 #[.pointer (some ⟨b, 0, none⟩), .pointer (some ⟨a, i, none⟩), fn] w fun e w' => e = .returned (.tuple #[]) ∧ w' = (((w.setCell ⟨b, 0, none⟩ (.string (s.extract 1 s.size))).alloc (.cells #[.int .i64 0] 3)).alloc (.cells #[.pointer (some ⟨w.heap.size, 0, none⟩)] 120)).drew := by
  have hmf : ∀ (fn : Fn) (first cap : Array Value) (w : World), (Instr.makeFunc fn first cap).run Tryz.prog w = .ok (.func fn first cap) w := fun _ _ _ _ => rfl
  go_enter Tryz.func54, Tryz.ntmps54
  go_wp2_with (first | (go_at_call 97; refine (get_zero b s _ hp h0 hne (by first | assumption | (simp [go_sem, hc, hb, Nat.lt_succ_of_lt]; done)) (by first | assumption | (simp [go_sem, hz, hb, Nat.lt_succ_of_lt]; done))).mono ?_; rintro e w' ⟨rfl, rfl⟩) | go_in)
  refine wp_loop_rounds 2 ?_
  rw [rounds_succ]
  go_wp2_with (first | (go_at_call 97; refine (get_zero b s _ hp h0 hne (by first | assumption | (simp [go_sem, hc, hb, Nat.lt_succ_of_lt]; done)) (by first | assumption | (simp [go_sem, hz, hb, Nat.lt_succ_of_lt]; done))).mono ?_; rintro e w' ⟨rfl, rfl⟩) | go_in)
  rw [rounds_succ]
  go_wp2_with (first | (go_at_call 97; refine (get_zero b s _ hp h0 hne (by first | assumption | (simp [go_sem, hc, hb, Nat.lt_succ_of_lt]; done)) (by first | assumption | (simp [go_sem, hz, hb, Nat.lt_succ_of_lt]; done))).mono ?_; rintro e w' ⟨rfl, rfl⟩) | go_in)
  apply wp_at
  · go_region_calls
    all_goals exact ⟨rfl, rfl⟩
  go_wp2_with (first | (go_at_call 97; refine (get_zero b s _ hp h0 hne (by first | assumption | (simp [go_sem, hc, hb, Nat.lt_succ_of_lt]; done)) (by first | assumption | (simp [go_sem, hz, hb, Nat.lt_succ_of_lt]; done))).mono ?_; rintro e w' ⟨rfl, rfl⟩) | go_in)
  refine wp_loop_rounds 1 ?_
  rw [rounds_succ]
  go_wp2_with (first | (go_at_call 97; refine (get_zero b s _ hp h0 hne (by first | assumption | (simp [go_sem, hc, hb, Nat.lt_succ_of_lt]; done)) (by first | assumption | (simp [go_sem, hz, hb, Nat.lt_succ_of_lt]; done))).mono ?_; rintro e w' ⟨rfl, rfl⟩) | go_in)
  go_end0
  exact ⟨rfl, rfl⟩
end Go.Proofs.YtbhbjfaljpfdgaaGreat
