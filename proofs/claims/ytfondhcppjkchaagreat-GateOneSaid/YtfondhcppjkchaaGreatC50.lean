import Derived.Test.YtfondhcppjkchaaGreatC49
import Derived.Test.YtfondhcppjkchaaGreatC5
import Derived.Handy
set_option maxHeartbeats 40000000
set_option maxRecDepth 100000
set_option linter.unusedVariables false
set_option linter.unusedSimpArgs false
namespace Go.Proofs.YtfondhcppjkchaaGreat.Q
open Go.RowKit Go.Proofs.YtfondhcppjkchaaGreatW.PrintWords Go.Proofs.YtfondhcppjkchaaGreatW.PrintLast
open Go.Proofs.YtfondhcppjkchaaGreatW.PrintMore
theorem row68 (W : World) (B : Nat) (P S : Int) (h : W.heap[B]? = some (.cells #[.int .i64 P, .int .i64 S] 68 (0, 0))) : Kd.C k68 W (some ⟨B, 0, none⟩) 1 [⟨P, S⟩] :=
 (Kd.R_reads' (base := 0) (ok := fun _ => True) (e := 68) ⟨fun _ _ => trivial, _, zza 1 2 h rfl (Nat.zero_le _) (by unfold maxLen; omega), Reps.c2 (k68_mkM W 0 _ ⟨P, S⟩) (Reps.none _ _)⟩).2.2
theorem row2 (W : World) (B : Nat) (K : Int) (h : W.heap[B]? = some (.cells #[.int .i64 K] 2 (0, 0))) (ok : Nat → Prop) (hk : ok B) : Kd.R (Kd.int .i64) 2 W 0 ok (.slice (some ⟨B, 0, none⟩) 1 1) [K] :=
 Kd.zmb (h1 := fun _ => rfl) (zza 1 1 h rfl (Nat.zero_le _) (by unfold maxLen; omega)) (fun k e => by injection e with e; rw [← e]; exact hk)
theorem one_rows (W : World) (B1 B2 B3 B4 B5 : Nat) (P S d : Int)
  (h1 : W.heap[B1]? = some (.cells #[.bool false, .int .i64 0, .int .i64 0] 70 (0, 0)))
  (h2 : W.heap[B2]? = some (.cells #[.int .u8 1, .int .i64 0, .int .i64 0, .slice none 0 0, .slice (some ⟨B1, 0, none⟩) 1 1, .int .i64 1] 75 (0, 0)))
  (h3 : W.heap[B3]? = some (.cells #[.int .i64 P, .int .i64 S, .int .i64 d, .int .i64 0, .int .i64 (-1), .slice (some ⟨B2, 0, none⟩) 1 1, .int .i64 1] 78 (0, 0)))
  (h4 : W.heap[B4]? = some (.cells #[.int .i64 d] 2 (0, 0)))
  (h5 : W.heap[B5]? = some (.cells #[.slice none 0 0, .slice (some ⟨B4, 0, none⟩) 1 1] 27 (0, 0)))
  (b2 : B1 < B2) (b3 : B2 < B3) (b5 : B4 < B5) :
  Kd.C k78 W (some ⟨B3, 0, none⟩) 1 [taskO P S d] ∧ Kd.C k27 W (some ⟨B5, 0, none⟩) 1 [wordO d] := by
 have hm : 1 ≤ maxLen := by unfold maxLen; omega
 have r1 : ∀ ok : Nat → Prop, ok B1 → Kd.R k70 70 W 0 ok (.slice (some ⟨B1, 0, none⟩) 1 1) [⟨false, 0, 0⟩] := fun ok hk =>
  ⟨fun k e => by injection e with e; rw [← e]; exact hk, _, zza 1 3 h1 rfl (Nat.zero_le _) hm, Reps.c3 (k70_mkM W 0 _ ⟨false, 0, 0⟩) (Reps.none _ _)⟩
 have r2 : ∀ ok : Nat → Prop, ok B1 → ok B2 → Kd.R k75 75 W 0 ok (.slice (some ⟨B2, 0, none⟩) 1 1) [readO 1] := fun ok hk hk2 =>
  ⟨fun k e => by injection e with e; rw [← e]; exact hk2, _, zza 1 6 h2 rfl (Nat.zero_le _) hm, Reps.c6 (k75_mkM W 0 _ (readO 1) (Kd.R_nil _ _ _ _ _) (r1 _ ⟨hk, fun e => by injection e with e; change B1 = B2 at e; omega⟩)) (Reps.none _ _)⟩
 have r3 : Kd.R k78 78 W 0 (fun _ => True) (.slice (some ⟨B3, 0, none⟩) 1 1) [taskO P S d] :=
  ⟨fun _ _ => trivial, _, zza 1 7 h3 rfl (Nat.zero_le _) hm, Reps.c7 (k78_mkM W 0 _ (taskO P S d) (r2 _ ⟨trivial, fun e => by injection e with e; change B1 = B3 at e; omega⟩ ⟨trivial, fun e => by injection e with e; change B2 = B3 at e; omega⟩)) (Reps.none _ _)⟩
 have r5 : Kd.R k27 27 W 0 (fun _ => True) (.slice (some ⟨B5, 0, none⟩) 1 1) [wordO d] :=
  ⟨fun _ _ => trivial, _, zza 1 2 h5 rfl (Nat.zero_le _) hm, Reps.c2 (k27_mkM W 0 _ (wordO d) (Kd.R_nil _ _ _ _ _) (row2 W B4 d h4 _ ⟨trivial, fun e => by injection e with e; change B4 = B5 at e; omega⟩)) (Reps.none _ _)⟩
 exact ⟨(Kd.R_reads' r3).2.2, (Kd.R_reads' r5).2.2⟩
theorem one_true (a0 a1 a2 a3 : Int) (b0 : 0 ≤ a0 ∧ a0 ≤ 65535) (b1 : 0 ≤ a1 ∧ a1 ≤ 65535) (b2 : 0 ≤ a2 ∧ a2 ≤ 65535) (b3 : 0 ≤ a3 ∧ a3 ≤ 65535) (w : World) :
  Calls Tryz.prog 6 #[.int .u16 a0, .int .u16 a1, .int .u16 a2, .int .u16 a3] w fun e w' => e = .returned (.bool true) ∧ Below w.heap.size w w' := by
 obtain ⟨P, hP⟩ : ∃ P, P = a0 + 1 := ⟨_, rfl⟩
 obtain ⟨K, hK⟩ : ∃ K, K = a3 + 1 := ⟨_, rfl⟩
 obtain ⟨d, hd⟩ : ∃ d, d = P - a2 % P := ⟨_, rfl⟩
 have m0 := Int.emod_nonneg a2 (show P ≠ 0 by omega)
 have m1 := Int.emod_lt_of_pos a2 (show 0 < P by omega)
 have v0 : IntKind.i64.wrap a0 = a0 := IntWalk.i64_in _ ⟨by omega, by omega⟩
 have v1 : IntKind.i64.wrap a1 = a1 := IntWalk.i64_in _ ⟨by omega, by omega⟩
 have v2 : IntKind.i64.wrap a2 = a2 := IntWalk.i64_in _ ⟨by omega, by omega⟩
 have v3 : IntKind.i64.wrap a3 = a3 := IntWalk.i64_in _ ⟨by omega, by omega⟩
 have e1 : IntKind.i64.wrap (a0 + 1) = P := by rw [IntWalk.i64_in _ ⟨by omega, by omega⟩]; omega
 have e4 : IntKind.i64.wrap (a3 + 1) = K := by rw [IntWalk.i64_in _ ⟨by omega, by omega⟩]; omega
 obtain ⟨q, hq⟩ : ∃ q, q = a2 % P := ⟨_, rfl⟩
 have e2 : a2.tmod P = q := by rw [Int.tmod_eq_emod_of_nonneg (by omega)]; omega
 have e3 : IntKind.i64.wrap (P - q) = d := by rw [IntWalk.i64_in _ ⟨by omega, by omega⟩]; omega
 have e5 : IntKind.i64.wrap (K + 8) = K + 8 := IntWalk.i64_in _ ⟨by omega, by omega⟩
 have e6 : IntKind.i64.wrap (K + 8 - 1) = K + 7 := by rw [IntWalk.i64_in _ ⟨by omega, by omega⟩]; omega
 have p0 : (P == 0) = false := by simp; omega
 have p1 : (P = 0) = False := by rw [eq_iff_iff, iff_false]; omega
 have HB := Lib.hid (⟨by omega, by omega, by omega, by omega, by omega, by omega, by omega, by omega⟩ : 1 ≤ P ∧ P ≤ 65536 ∧ 0 ≤ a1 ∧ a1 ≤ 65535 ∧ 1 ≤ d ∧ d ≤ P ∧ 1 ≤ K ∧ K ≤ 65536)
 clear b0 b1 b2 b3 hP hK hd m0 m1 hq
 go_enter Tryz.func6, Tryz.ntmps6
 go_wp2_with fail
 have g0 : ((((((((w.alloc (.cells #[.int .i64 P, .int .i64 a1] 68)).alloc (.cells #[.bool false, .int .i64 0, .int .i64 0] 70)).alloc (.cells #[.int .u8 1, .int .i64 0, .int .i64 0, .slice none 0 0, .slice (some ⟨w.heap.size + 1, 0, none⟩) 1 1, .int .i64 1] 75)).alloc (.cells #[.int .i64 P, .int .i64 a1, .int .i64 d, .int .i64 0, .int .i64 (-1), .slice (some ⟨w.heap.size + 1 + 1, 0, none⟩) 1 1, .int .i64 1] 78)).alloc (.cells #[.int .i64 d] 2)).alloc (.cells #[.slice none 0 0, .slice (some ⟨w.heap.size + 1 + 1 + 1 + 1, 0, none⟩) 1 1] 27)).alloc (.cells #[.int .i64 P, .int .i64 a1] 68)).alloc (.cells #[.int .i64 K] 2)).heap[w.heap.size]? = some (.cells #[.int .i64 P, .int .i64 a1] 68) := by ((refine (heap_old' _ _ _ ?_).trans ?_; focus (simp <;> omega)); (refine (heap_old' _ _ _ ?_).trans ?_; focus (simp <;> omega)); (refine (heap_old' _ _ _ ?_).trans ?_; focus (simp <;> omega)); (refine (heap_old' _ _ _ ?_).trans ?_; focus (simp <;> omega)); (refine (heap_old' _ _ _ ?_).trans ?_; focus (simp <;> omega)); (refine (heap_old' _ _ _ ?_).trans ?_; focus (simp <;> omega)); (refine (heap_old' _ _ _ ?_).trans ?_; focus (simp <;> omega)); exact heap_new' _ _ _ (by simp))
 have g1 : ((((((((w.alloc (.cells #[.int .i64 P, .int .i64 a1] 68)).alloc (.cells #[.bool false, .int .i64 0, .int .i64 0] 70)).alloc (.cells #[.int .u8 1, .int .i64 0, .int .i64 0, .slice none 0 0, .slice (some ⟨w.heap.size + 1, 0, none⟩) 1 1, .int .i64 1] 75)).alloc (.cells #[.int .i64 P, .int .i64 a1, .int .i64 d, .int .i64 0, .int .i64 (-1), .slice (some ⟨w.heap.size + 1 + 1, 0, none⟩) 1 1, .int .i64 1] 78)).alloc (.cells #[.int .i64 d] 2)).alloc (.cells #[.slice none 0 0, .slice (some ⟨w.heap.size + 1 + 1 + 1 + 1, 0, none⟩) 1 1] 27)).alloc (.cells #[.int .i64 P, .int .i64 a1] 68)).alloc (.cells #[.int .i64 K] 2)).heap[w.heap.size + 1]? = some (.cells #[.bool false, .int .i64 0, .int .i64 0] 70) := by ((refine (heap_old' _ _ _ ?_).trans ?_; focus (simp <;> omega)); (refine (heap_old' _ _ _ ?_).trans ?_; focus (simp <;> omega)); (refine (heap_old' _ _ _ ?_).trans ?_; focus (simp <;> omega)); (refine (heap_old' _ _ _ ?_).trans ?_; focus (simp <;> omega)); (refine (heap_old' _ _ _ ?_).trans ?_; focus (simp <;> omega)); (refine (heap_old' _ _ _ ?_).trans ?_; focus (simp <;> omega)); exact heap_new' _ _ _ (by simp))
 have g2 : ((((((((w.alloc (.cells #[.int .i64 P, .int .i64 a1] 68)).alloc (.cells #[.bool false, .int .i64 0, .int .i64 0] 70)).alloc (.cells #[.int .u8 1, .int .i64 0, .int .i64 0, .slice none 0 0, .slice (some ⟨w.heap.size + 1, 0, none⟩) 1 1, .int .i64 1] 75)).alloc (.cells #[.int .i64 P, .int .i64 a1, .int .i64 d, .int .i64 0, .int .i64 (-1), .slice (some ⟨w.heap.size + 1 + 1, 0, none⟩) 1 1, .int .i64 1] 78)).alloc (.cells #[.int .i64 d] 2)).alloc (.cells #[.slice none 0 0, .slice (some ⟨w.heap.size + 1 + 1 + 1 + 1, 0, none⟩) 1 1] 27)).alloc (.cells #[.int .i64 P, .int .i64 a1] 68)).alloc (.cells #[.int .i64 K] 2)).heap[w.heap.size + 1 + 1]? = some (.cells #[.int .u8 1, .int .i64 0, .int .i64 0, .slice none 0 0, .slice (some ⟨w.heap.size + 1, 0, none⟩) 1 1, .int .i64 1] 75) := by ((refine (heap_old' _ _ _ ?_).trans ?_; focus (simp <;> omega)); (refine (heap_old' _ _ _ ?_).trans ?_; focus (simp <;> omega)); (refine (heap_old' _ _ _ ?_).trans ?_; focus (simp <;> omega)); (refine (heap_old' _ _ _ ?_).trans ?_; focus (simp <;> omega)); (refine (heap_old' _ _ _ ?_).trans ?_; focus (simp <;> omega)); exact heap_new' _ _ _ (by simp))
 have g3 : ((((((((w.alloc (.cells #[.int .i64 P, .int .i64 a1] 68)).alloc (.cells #[.bool false, .int .i64 0, .int .i64 0] 70)).alloc (.cells #[.int .u8 1, .int .i64 0, .int .i64 0, .slice none 0 0, .slice (some ⟨w.heap.size + 1, 0, none⟩) 1 1, .int .i64 1] 75)).alloc (.cells #[.int .i64 P, .int .i64 a1, .int .i64 d, .int .i64 0, .int .i64 (-1), .slice (some ⟨w.heap.size + 1 + 1, 0, none⟩) 1 1, .int .i64 1] 78)).alloc (.cells #[.int .i64 d] 2)).alloc (.cells #[.slice none 0 0, .slice (some ⟨w.heap.size + 1 + 1 + 1 + 1, 0, none⟩) 1 1] 27)).alloc (.cells #[.int .i64 P, .int .i64 a1] 68)).alloc (.cells #[.int .i64 K] 2)).heap[w.heap.size + 1 + 1 + 1]? = some (.cells #[.int .i64 P, .int .i64 a1, .int .i64 d, .int .i64 0, .int .i64 (-1), .slice (some ⟨w.heap.size + 1 + 1, 0, none⟩) 1 1, .int .i64 1] 78) := by ((refine (heap_old' _ _ _ ?_).trans ?_; focus (simp <;> omega)); (refine (heap_old' _ _ _ ?_).trans ?_; focus (simp <;> omega)); (refine (heap_old' _ _ _ ?_).trans ?_; focus (simp <;> omega)); (refine (heap_old' _ _ _ ?_).trans ?_; focus (simp <;> omega)); exact heap_new' _ _ _ (by simp))
 have g4 : ((((((((w.alloc (.cells #[.int .i64 P, .int .i64 a1] 68)).alloc (.cells #[.bool false, .int .i64 0, .int .i64 0] 70)).alloc (.cells #[.int .u8 1, .int .i64 0, .int .i64 0, .slice none 0 0, .slice (some ⟨w.heap.size + 1, 0, none⟩) 1 1, .int .i64 1] 75)).alloc (.cells #[.int .i64 P, .int .i64 a1, .int .i64 d, .int .i64 0, .int .i64 (-1), .slice (some ⟨w.heap.size + 1 + 1, 0, none⟩) 1 1, .int .i64 1] 78)).alloc (.cells #[.int .i64 d] 2)).alloc (.cells #[.slice none 0 0, .slice (some ⟨w.heap.size + 1 + 1 + 1 + 1, 0, none⟩) 1 1] 27)).alloc (.cells #[.int .i64 P, .int .i64 a1] 68)).alloc (.cells #[.int .i64 K] 2)).heap[w.heap.size + 1 + 1 + 1 + 1]? = some (.cells #[.int .i64 d] 2) := by ((refine (heap_old' _ _ _ ?_).trans ?_; focus (simp <;> omega)); (refine (heap_old' _ _ _ ?_).trans ?_; focus (simp <;> omega)); (refine (heap_old' _ _ _ ?_).trans ?_; focus (simp <;> omega)); exact heap_new' _ _ _ (by simp))
 have g5 : ((((((((w.alloc (.cells #[.int .i64 P, .int .i64 a1] 68)).alloc (.cells #[.bool false, .int .i64 0, .int .i64 0] 70)).alloc (.cells #[.int .u8 1, .int .i64 0, .int .i64 0, .slice none 0 0, .slice (some ⟨w.heap.size + 1, 0, none⟩) 1 1, .int .i64 1] 75)).alloc (.cells #[.int .i64 P, .int .i64 a1, .int .i64 d, .int .i64 0, .int .i64 (-1), .slice (some ⟨w.heap.size + 1 + 1, 0, none⟩) 1 1, .int .i64 1] 78)).alloc (.cells #[.int .i64 d] 2)).alloc (.cells #[.slice none 0 0, .slice (some ⟨w.heap.size + 1 + 1 + 1 + 1, 0, none⟩) 1 1] 27)).alloc (.cells #[.int .i64 P, .int .i64 a1] 68)).alloc (.cells #[.int .i64 K] 2)).heap[w.heap.size + 1 + 1 + 1 + 1 + 1]? = some (.cells #[.slice none 0 0, .slice (some ⟨w.heap.size + 1 + 1 + 1 + 1, 0, none⟩) 1 1] 27) := by ((refine (heap_old' _ _ _ ?_).trans ?_; focus (simp <;> omega)); (refine (heap_old' _ _ _ ?_).trans ?_; focus (simp <;> omega)); exact heap_new' _ _ _ (by simp))
 have g6 : ((((((((w.alloc (.cells #[.int .i64 P, .int .i64 a1] 68)).alloc (.cells #[.bool false, .int .i64 0, .int .i64 0] 70)).alloc (.cells #[.int .u8 1, .int .i64 0, .int .i64 0, .slice none 0 0, .slice (some ⟨w.heap.size + 1, 0, none⟩) 1 1, .int .i64 1] 75)).alloc (.cells #[.int .i64 P, .int .i64 a1, .int .i64 d, .int .i64 0, .int .i64 (-1), .slice (some ⟨w.heap.size + 1 + 1, 0, none⟩) 1 1, .int .i64 1] 78)).alloc (.cells #[.int .i64 d] 2)).alloc (.cells #[.slice none 0 0, .slice (some ⟨w.heap.size + 1 + 1 + 1 + 1, 0, none⟩) 1 1] 27)).alloc (.cells #[.int .i64 P, .int .i64 a1] 68)).alloc (.cells #[.int .i64 K] 2)).heap[w.heap.size + 1 + 1 + 1 + 1 + 1 + 1]? = some (.cells #[.int .i64 P, .int .i64 a1] 68) := by ((refine (heap_old' _ _ _ ?_).trans ?_; focus (simp <;> omega)); exact heap_new' _ _ _ (by simp))
 have g7 : ((((((((w.alloc (.cells #[.int .i64 P, .int .i64 a1] 68)).alloc (.cells #[.bool false, .int .i64 0, .int .i64 0] 70)).alloc (.cells #[.int .u8 1, .int .i64 0, .int .i64 0, .slice none 0 0, .slice (some ⟨w.heap.size + 1, 0, none⟩) 1 1, .int .i64 1] 75)).alloc (.cells #[.int .i64 P, .int .i64 a1, .int .i64 d, .int .i64 0, .int .i64 (-1), .slice (some ⟨w.heap.size + 1 + 1, 0, none⟩) 1 1, .int .i64 1] 78)).alloc (.cells #[.int .i64 d] 2)).alloc (.cells #[.slice none 0 0, .slice (some ⟨w.heap.size + 1 + 1 + 1 + 1, 0, none⟩) 1 1] 27)).alloc (.cells #[.int .i64 P, .int .i64 a1] 68)).alloc (.cells #[.int .i64 K] 2)).heap[w.heap.size + 1 + 1 + 1 + 1 + 1 + 1 + 1]? = some (.cells #[.int .i64 K] 2) := by (exact heap_new' _ _ _ (by simp))
 have hbw : Below w.heap.size w ((((((((w.alloc (.cells #[.int .i64 P, .int .i64 a1] 68)).alloc (.cells #[.bool false, .int .i64 0, .int .i64 0] 70)).alloc (.cells #[.int .u8 1, .int .i64 0, .int .i64 0, .slice none 0 0, .slice (some ⟨w.heap.size + 1, 0, none⟩) 1 1, .int .i64 1] 75)).alloc (.cells #[.int .i64 P, .int .i64 a1, .int .i64 d, .int .i64 0, .int .i64 (-1), .slice (some ⟨w.heap.size + 1 + 1, 0, none⟩) 1 1, .int .i64 1] 78)).alloc (.cells #[.int .i64 d] 2)).alloc (.cells #[.slice none 0 0, .slice (some ⟨w.heap.size + 1 + 1 + 1 + 1, 0, none⟩) 1 1] 27)).alloc (.cells #[.int .i64 P, .int .i64 a1] 68)).alloc (.cells #[.int .i64 K] 2)) := by go_grown
 have hb := HB.out
 obtain ⟨c78, c27⟩ := one_rows _ _ _ _ _ _ P a1 d g1 g2 g3 g4 g5 (by omega) (by omega) (by omega)
 have HPS := Lib.hid (gate_Pass.calls _ 1 [taskO P a1 d] _ 1 [⟨P, a1⟩] _ 1 [K] _ 1 [wordO d] _ _ c78 (Nat.le_refl _) (row68 _ _ P a1 g6) (Nat.le_refl _) (Kd.R_reads' (row2 _ _ K g7 (fun _ => True) trivial)).2.2 (Nat.le_refl _) c27 (Nat.le_refl _) (pass_one P a1 d K (by omega) (by omega) (by omega) (by omega) (by omega) (by omega) (by omega) (by omega)))
 have C78 := Lib.hid c78
 have HBW := Lib.hid hbw
 have x0 : ((((((((w.alloc (.cells #[.int .i64 P, .int .i64 a1] 68)).alloc (.cells #[.bool false, .int .i64 0, .int .i64 0] 70)).alloc (.cells #[.int .u8 1, .int .i64 0, .int .i64 0, .slice none 0 0, .slice (some ⟨w.heap.size + 1, 0, none⟩) 1 1, .int .i64 1] 75)).alloc (.cells #[.int .i64 P, .int .i64 a1, .int .i64 d, .int .i64 0, .int .i64 (-1), .slice (some ⟨w.heap.size + 1 + 1, 0, none⟩) 1 1, .int .i64 1] 78)).alloc (.cells #[.int .i64 d] 2)).alloc (.cells #[.slice none 0 0, .slice (some ⟨w.heap.size + 1 + 1 + 1 + 1, 0, none⟩) 1 1] 27)).alloc (.cells #[.int .i64 P, .int .i64 a1] 68)).alloc (.cells #[.int .i64 K] 2)).cell? ⟨w.heap.size, 0, none⟩ = some (.int .i64 P) := (zg g0 0).trans rfl
 have x1 : ((((((((w.alloc (.cells #[.int .i64 P, .int .i64 a1] 68)).alloc (.cells #[.bool false, .int .i64 0, .int .i64 0] 70)).alloc (.cells #[.int .u8 1, .int .i64 0, .int .i64 0, .slice none 0 0, .slice (some ⟨w.heap.size + 1, 0, none⟩) 1 1, .int .i64 1] 75)).alloc (.cells #[.int .i64 P, .int .i64 a1, .int .i64 d, .int .i64 0, .int .i64 (-1), .slice (some ⟨w.heap.size + 1 + 1, 0, none⟩) 1 1, .int .i64 1] 78)).alloc (.cells #[.int .i64 d] 2)).alloc (.cells #[.slice none 0 0, .slice (some ⟨w.heap.size + 1 + 1 + 1 + 1, 0, none⟩) 1 1] 27)).alloc (.cells #[.int .i64 P, .int .i64 a1] 68)).alloc (.cells #[.int .i64 K] 2)).cell? ⟨w.heap.size, 1, none⟩ = some (.int .i64 a1) := (zg g0 1).trans rfl
 clear g0 g1 g2 g3 g4 g5 g6 g7 hbw hb c78 c27
 generalize ((((((((w.alloc (.cells #[.int .i64 P, .int .i64 a1] 68)).alloc (.cells #[.bool false, .int .i64 0, .int .i64 0] 70)).alloc (.cells #[.int .u8 1, .int .i64 0, .int .i64 0, .slice none 0 0, .slice (some ⟨w.heap.size + 1, 0, none⟩) 1 1, .int .i64 1] 75)).alloc (.cells #[.int .i64 P, .int .i64 a1, .int .i64 d, .int .i64 0, .int .i64 (-1), .slice (some ⟨w.heap.size + 1 + 1, 0, none⟩) 1 1, .int .i64 1] 78)).alloc (.cells #[.int .i64 d] 2)).alloc (.cells #[.slice none 0 0, .slice (some ⟨w.heap.size + 1 + 1 + 1 + 1, 0, none⟩) 1 1] 27)).alloc (.cells #[.int .i64 P, .int .i64 a1] 68)).alloc (.cells #[.int .i64 K] 2)) = W8 at HPS C78 HBW x0 x1 ⊢
 obtain ⟨pv, hpv⟩ : ∃ pv, pv = passO P d K := ⟨_, rfl⟩
 rw [← hpv] at HPS
 have HPV := Lib.hid hpv
 clear hpv
 refine HPS.out.mono ?_
 rintro e w1 ⟨rfl, hb1⟩
 have x0 := keepc hb1 x0
 have x1 := keepc hb1 x1
 have z0 := World.block_lt_of_cell? w1 _ x0
 simp only at z0
 have C78 := Lib.hid (Kd.zu C78.out hb1)
 have HBW := Lib.hid (HBW.out.trans (hb1.mono HBW.out.size))
 clear hb1 HPS
 dsimp only
 go_wp2_with fail
 have hbA := (Below.refl w1.heap.size w1).alloc (Nat.le_refl _) (.cells #[.int .i64 P, .int .i64 a1] 68)
 have hb := HB.out
 have HOF := Lib.hid (unfold_Of.calls _ 1 [taskO P a1 d] _ 1 [⟨P, a1⟩] _ _ _ _ (Kd.zu C78.out hbA) (Nat.le_refl _) (row68 _ _ P a1 (heap_alloc_new w1 _)) (Nat.le_refl _) (of_one P a1 d (by omega) (by omega) (by omega) (by omega) (by omega) (by omega)))
 have HBW := Lib.hid (HBW.out.trans (hbA.mono HBW.out.size))
 clear hb hbA C78 x0 x1 z0
 refine HOF.out.mono ?_
 rintro e w2 ⟨rfl, hb2⟩
 have HBW := Lib.hid (HBW.out.trans (hb2.mono HBW.out.size))
 clear hb2 HOF
 dsimp only
 have HWK := Lib.hid (fun W => carillonlaw24_works.calls 15 true W (law24_works 0))
 have hpv := HPV.out
 unfold passO at hpv
 have hb := HB.out
 by_cases q1 : d < K
 ·rw [if_pos q1] at hpv
  subst hpv
  have r1 : decide (K > d) = true := decide_eq_true q1
  clear hb q1
  go_wp2_with fail
  refine (HWK.out _).mono ?_
  rintro e w3 ⟨rfl, hb3⟩
  have HB3 := Lib.hid hb3
  clear hb3
  dsimp only
  go_wp2_with fail
  go_ret
  exact ⟨rfl, (HBW.out.alloc HBW.out.size _).trans (HB3.out.mono (by simp; have := HBW.out.size; omega))⟩
 ·rw [if_neg q1] at hpv
  have r1 : decide (K > d) = false := decide_eq_false q1
  have r1' : decide (d < K) = false := decide_eq_false q1
  by_cases q2 : P ≤ K
  ·rw [if_pos q2] at hpv
   subst hpv
   have r2 : decide (K ≥ P) = true := decide_eq_true q2
   have r2' : decide (P ≤ K) = true := decide_eq_true q2
   clear hb q1 q2
   go_wp2_with fail
   refine (HWK.out _).mono ?_
   rintro e w3 ⟨rfl, hb3⟩
   have HB3 := Lib.hid hb3
   clear hb3
   dsimp only
   go_wp2_with fail
   go_ret
   exact ⟨rfl, (HBW.out.alloc HBW.out.size _).trans (HB3.out.mono (by simp; have := HBW.out.size; omega))⟩
  ·rw [if_neg q2] at hpv
   have r2 : decide (K ≥ P) = false := decide_eq_false q2
   have r2' : decide (P ≤ K) = false := decide_eq_false q2
   by_cases q3 : d < K + 7
   ·rw [if_pos q3] at hpv
    subst hpv
    have r3 : decide (K + 7 > d) = true := decide_eq_true q3
    have r3' : decide (d < K + 7) = true := decide_eq_true q3
    clear hb q1 q2 q3
    go_wp2_with fail
    refine (HWK.out _).mono ?_
    rintro e w3 ⟨rfl, hb3⟩
    have HB3 := Lib.hid hb3
    clear hb3
    dsimp only
    go_wp2_with fail
    go_ret
    exact ⟨rfl, (HBW.out.alloc HBW.out.size _).trans (HB3.out.mono (by simp; have := HBW.out.size; omega))⟩
   ·rw [if_neg q3] at hpv
    subst hpv
    have r3 : decide (K + 7 > d) = false := decide_eq_false q3
    have r3' : decide (d < K + 7) = false := decide_eq_false q3
    clear hb q1 q2 q3
    go_wp2_with fail
    refine (HWK.out _).mono ?_
    rintro e w3 ⟨rfl, hb3⟩
    have HB3 := Lib.hid hb3
    clear hb3
    dsimp only
    go_wp2_with fail
    go_ret
    exact ⟨rfl, (HBW.out.alloc HBW.out.size _).trans (HB3.out.mono (by simp; have := HBW.out.size; omega))⟩
end Go.Proofs.YtfondhcppjkchaaGreat.Q
