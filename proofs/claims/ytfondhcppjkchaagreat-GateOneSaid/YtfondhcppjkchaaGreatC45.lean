import Derived.Test.YtfondhcppjkchaaGreatC5
import Derived.Test.YtfondhcppjkchaaGreatC3
import Derived.Handy
import Derived.Deep.RegionHeld3
set_option maxHeartbeats 40000000
set_option maxRecDepth 100000
set_option linter.unusedVariables false
set_option linter.unusedSimpArgs false
namespace Go.Proofs.YtfondhcppjkchaaGreat.Q
open Go.RowKit Go.Proofs.YtfondhcppjkchaaGreatW.PrintWords Go.Proofs.YtfondhcppjkchaaGreatW.PrintLast
open Go.Proofs.YtfondhcppjkchaaGreatW.PrintMore
def sampleT (a : Int) : List S78 := [⟨⟨a, 0⟩, a, 0, -1, [⟨1, 0, 0, ⟨[], [⟨false, 0, 0⟩], 1⟩⟩], 1⟩, ⟨⟨a, 0⟩, a, -1, 0, [⟨2, 0, 0, ⟨[], [⟨false, 0, 0⟩], 1⟩⟩], 0⟩]
def sample.f (a : Int) : Option (List S78 × List S68) := some (sampleT a, [⟨a, 0⟩])
theorem zza {W : World} {base g : Nat} {cur : Array Value} {e : TypeId} (n size : Nat) (h : W.heap[g]? = some (.cells cur e (0, 0))) (hs : cur.size = n * size) (hb : base ≤ g) (hn : n ≤ maxLen) : W.ownsRow base e size (.slice (some ⟨g, 0, none⟩) n n) n cur.toList :=
 ⟨by rw [Array.length_toList]; exact hs, .inr ⟨g, n, cur, rfl, hb, h, Nat.le_refl _, hn, hs, by rw [← hs, ← Array.length_toList, List.take_length]⟩⟩
theorem sample_R (W : World) (base B0 B3 B5 B7 B8 : Nat) (a : Int)
  (h0 : W.heap[B0]? = some (.cells #[.bool false, .int .i64 0, .int .i64 0] 70 (0, 0)))
  (h3 : W.heap[B3]? = some (.cells #[.int .u8 1, .int .i64 0, .int .i64 0, .slice none 0 0, .slice (some ⟨B0, 0, none⟩) 1 1, .int .i64 1] 75 (0, 0)))
  (h5 : W.heap[B5]? = some (.cells #[.int .u8 2, .int .i64 0, .int .i64 0, .slice none 0 0, .slice (some ⟨B0, 0, none⟩) 1 1, .int .i64 1] 75 (0, 0)))
  (h7 : W.heap[B7]? = some (.cells #[.int .i64 a, .int .i64 0, .int .i64 a, .int .i64 0, .int .i64 (-1), .slice (some ⟨B3, 0, none⟩) 1 1, .int .i64 1, .int .i64 a, .int .i64 0, .int .i64 a, .int .i64 (-1), .int .i64 0, .slice (some ⟨B5, 0, none⟩) 1 1, .int .i64 0] 78 (0, 0)))
  (h8 : W.heap[B8]? = some (.cells #[.int .i64 a, .int .i64 0] 68 (0, 0)))
  (b0 : base ≤ B0) (b3 : B0 < B3) (b5 : B3 < B5) (b7 : B5 < B7) (b8 : B5 < B8) :
  Kd.R k78 78 W base (fun _ => True) (.slice (some ⟨B7, 0, none⟩) 2 2) (sampleT a) ∧ Kd.R k68 68 W base (fun _ => True) (.slice (some ⟨B8, 0, none⟩) 1 1) [⟨a, 0⟩] := by
 have hm : ∀ n, n ≤ 2 → n ≤ maxLen := fun n hn => by unfold maxLen; omega
 have r0 : ∀ ok : Nat → Prop, ok B0 → Kd.R k70 70 W base ok (.slice (some ⟨B0, 0, none⟩) 1 1) [⟨false, 0, 0⟩] := fun ok hk =>
  ⟨fun k e => by injection e with e; rw [← e]; exact hk, _, zza 1 3 h0 rfl b0 (hm 1 (by omega)), Reps.c3 (k70_mkM W base _ ⟨false, 0, 0⟩) (Reps.none _ _)⟩
 have rn : ∀ ok : Nat → Prop, Kd.R k70 70 W base ok (.slice none 0 0) [] := fun ok => Kd.R_nil _ _ _ _ _
 have r3 : ∀ ok : Nat → Prop, ok B0 → ok B3 → Kd.R k75 75 W base ok (.slice (some ⟨B3, 0, none⟩) 1 1) [⟨1, 0, 0, ⟨[], [⟨false, 0, 0⟩], 1⟩⟩] := fun ok hk hk3 =>
  ⟨fun k e => by injection e with e; rw [← e]; exact hk3, _, zza 1 6 h3 rfl (by omega) (hm 1 (by omega)), Reps.c6 (k75_mkM W base _ ⟨1, 0, 0, ⟨[], [⟨false, 0, 0⟩], 1⟩⟩ (rn _) (r0 _ ⟨hk, fun e => by injection e with e; change B0 = B3 at e; omega⟩)) (Reps.none _ _)⟩
 have r5 : ∀ ok : Nat → Prop, ok B0 → ok B5 → Kd.R k75 75 W base ok (.slice (some ⟨B5, 0, none⟩) 1 1) [⟨2, 0, 0, ⟨[], [⟨false, 0, 0⟩], 1⟩⟩] := fun ok hk hk3 =>
  ⟨fun k e => by injection e with e; rw [← e]; exact hk3, _, zza 1 6 h5 rfl (by omega) (hm 1 (by omega)), Reps.c6 (k75_mkM W base _ ⟨2, 0, 0, ⟨[], [⟨false, 0, 0⟩], 1⟩⟩ (rn _) (r0 _ ⟨hk, fun e => by injection e with e; change B0 = B5 at e; omega⟩)) (Reps.none _ _)⟩
 refine ⟨⟨fun _ _ => trivial, _, zza 2 7 h7 rfl (by omega) (hm 2 (by omega)), Reps.c7 (k78_mkM W base _ ⟨⟨a, 0⟩, a, 0, -1, [⟨1, 0, 0, ⟨[], [⟨false, 0, 0⟩], 1⟩⟩], 1⟩ (r3 _ ⟨trivial, fun e => ?_⟩ ⟨trivial, fun e => ?_⟩)) (Reps.c7 (k78_mkM W base _ ⟨⟨a, 0⟩, a, -1, 0, [⟨2, 0, 0, ⟨[], [⟨false, 0, 0⟩], 1⟩⟩], 0⟩ (r5 _ ⟨trivial, fun e => ?_⟩ ⟨trivial, fun e => ?_⟩)) (Reps.none _ _))⟩, ⟨fun _ _ => trivial, _, zza 1 2 h8 rfl (by omega) (hm 1 (by omega)), Reps.c2 (k68_mkM W base _ ⟨a, 0⟩) (Reps.none _ _)⟩⟩
 ·injection e with e; change B0 = B7 at e; omega
 ·injection e with e; change B3 = B7 at e; omega
 ·injection e with e; change B0 = B7 at e; omega
 ·injection e with e; change B5 = B7 at e; omega
theorem heap_new' (W : World) (o : Obj) (i : Nat) (h : i = W.heap.size) : (W.alloc o).heap[i]? = some o := by rw [h]; exact heap_alloc_new W o
theorem heap_old' (W : World) (o : Obj) (i : Nat) (h : i < W.heap.size) : (W.alloc o).heap[i]? = W.heap[i]? := heap_alloc_old W o h
theorem sample.calls (a : Int) (r1 : List S78) (r2 : List S68) (w : World) (h : sample.f a = some (r1, r2)) : Calls Tryz.prog 33 #[.int .i64 a] w fun e w' => ∃ v0 v1, e = .returned (.tuple #[v0, v1]) ∧ Kd.R k78 78 w' w.heap.size (fun _ => True) v0 r1 ∧ Kd.R k68 68 w' w.heap.size (fun _ => True) v1 r2 ∧ Below w.heap.size w w' := by
 unfold sample.f at h
 injection h with h
 injection h with h1 h2
 subst h1 h2
 go_enter Tryz.func33, Tryz.ntmps33
 go_wp2_with fail
 go_region
 ·go_wp2
  go_ret2
  refine ⟨_, _, rfl, ?_, ?_, by go_grown⟩
  ·refine (sample_R _ w.heap.size w.heap.size (w.heap.size + 1 + 1 + 1) (w.heap.size + 1 + 1 + 1 + 1 + 1) (w.heap.size + 1 + 1 + 1 + 1 + 1 + 1 + 1) (w.heap.size + 1 + 1 + 1 + 1 + 1 + 1 + 1 + 1) a ?_ ?_ ?_ ?_ ?_ ?_ ?_ ?_ ?_ ?_).1
   all_goals first
    | omega
    | (repeat (first | exact heap_new' _ _ _ (by simp) | (refine (heap_old' _ _ _ ?_).trans ?_; focus (simp <;> omega))))
  ·refine (sample_R _ w.heap.size w.heap.size (w.heap.size + 1 + 1 + 1) (w.heap.size + 1 + 1 + 1 + 1 + 1) (w.heap.size + 1 + 1 + 1 + 1 + 1 + 1 + 1) (w.heap.size + 1 + 1 + 1 + 1 + 1 + 1 + 1 + 1) a ?_ ?_ ?_ ?_ ?_ ?_ ?_ ?_ ?_ ?_).2
   all_goals first
    | omega
    | (repeat (first | exact heap_new' _ _ _ (by simp) | (refine (heap_old' _ _ _ ?_).trans ?_; focus (simp <;> omega))))
 ·go_wp2
  go_ret2
  refine ⟨_, _, rfl, ?_, ?_, by go_grown⟩
  ·refine (sample_R _ w.heap.size w.heap.size (w.heap.size + 1 + 1 + 1) (w.heap.size + 1 + 1 + 1 + 1 + 1) (w.heap.size + 1 + 1 + 1 + 1 + 1 + 1 + 1 + 1) (w.heap.size + 1 + 1 + 1 + 1 + 1 + 1 + 1) a ?_ ?_ ?_ ?_ ?_ ?_ ?_ ?_ ?_ ?_).1
   all_goals first
    | omega
    | (repeat (first | exact heap_new' _ _ _ (by simp) | (refine (heap_old' _ _ _ ?_).trans ?_; focus (simp <;> omega))))
  ·refine (sample_R _ w.heap.size w.heap.size (w.heap.size + 1 + 1 + 1) (w.heap.size + 1 + 1 + 1 + 1 + 1) (w.heap.size + 1 + 1 + 1 + 1 + 1 + 1 + 1 + 1) (w.heap.size + 1 + 1 + 1 + 1 + 1 + 1 + 1) a ?_ ?_ ?_ ?_ ?_ ?_ ?_ ?_ ?_ ?_).2
   all_goals first
    | omega
    | (repeat (first | exact heap_new' _ _ _ (by simp) | (refine (heap_old' _ _ _ ?_).trans ?_; focus (simp <;> omega))))
end Go.Proofs.YtfondhcppjkchaaGreat.Q
