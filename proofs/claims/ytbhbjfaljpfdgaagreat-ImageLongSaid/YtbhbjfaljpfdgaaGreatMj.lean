/- The law: bytes that are too many are refused, ahead of all else. -/
import Derived.Test.YtbhbjfaljpfdgaaGreatMi
import Derived.OwnWalk
import Derived.Lib.Strings
namespace Go.Proofs.YtbhbjfaljpfdgaaGreat
open Go.RowKit
set_option linter.unusedVariables false
/-- So many zero bytes. -/
def zs (n : Nat) : ByteArray := ⟨(List.replicate n 0).toArray⟩
theorem zs_size (n : Nat) : (zs n).size = n := by
  show (List.replicate n (0 : UInt8)).toArray.size = n
  simp
theorem zs_head (n : Nat) (h : 0 < (zs n).size) : (zs n)[0] = 0 := by
  show (List.replicate n (0 : UInt8)).toArray[0]'_ = 0
  simp
theorem zs_list (n : Nat) (h : 0 < n) : (zs n).toList.isEmpty = false := by
  rw [Lib.toList_data]
  obtain ⟨m, rfl⟩ : ∃ m, n = m + 1 := ⟨n - 1, by omega⟩
  simp [zs, List.replicate_succ]
theorem zs_str {W : World} {g n : Nat} (hown : W.ownsRow g 5 1 (.slice (some ⟨g, 0, none⟩) n n) n (madeCells (Value.int .u8 0).cells (n * 1)).toList) :
    (convert 40 9 (.slice (some ⟨g, 0, none⟩) n n)).run Tryz.prog W = .ok (.string (zs n)) W := by
  have h := run_convert_bytes_back W 40 9 5 ⟨g, 0, none⟩ n (List.replicate n 0) Tryz.underlying40 Tryz.underlying5 Tryz.underlying9 (fun j hj => by
    refine hown.cells (g := g) rfl j _ ?_
    have hj' : j < n := by simpa using hj
    simp [madeCells, Value.cells, hj', Nat.mod_one])
  simpa [zs] using h
theorem info5 : ∃ i, Tryz.prog.info? 5 = some i ∧ i.zero = some (.int .u8 0) ∧ i.size = 1 ∧ i.bytes = 1 := info_parts (by kernel_rfl)
set_option maxRecDepth 100000 in
set_option maxHeartbeats 4000000 in
theorem long_pos (o : Int) (w : World) (h1 : 0 < o) (h2 : o ≤ 127) : Calls Tryz.prog 6 #[.int .i8 o] w fun e w' => e = .returned (.bool true) ∧ Below w.heap.size w w' := by
  obtain ⟨i0, hi, hz0, hs0, hb0⟩ := info5
  have HI := Lib.hid hi
  have hZ := Lib.hid hz0
  have hS := Lib.hid hs0
  have hN := Lib.hid hb0
  clear hi hz0 hs0 hb0
  obtain ⟨n, hn⟩ : ∃ n : Nat, 1048576 + o = (n : Int) := ⟨(1048576 + o).toNat, by omega⟩
  have HN := Lib.hid hn
  have hs := zs_size n
  have hlong : 1048576 < ((zs n).size : Int) := by omega
  have HL := Lib.hid hlong
  clear hn hs hlong
  go_enter Tryz.func6, Tryz.ntmps6
  go_wp2_with (first
    | (refine wpList_make_full _ rfl _ _ 40 rfl w.heap.size 5 i0 (.int .u8 0) 1 Tryz.underlying40 HI.out hZ.out hS.out .i64 .i64 _ _ n rfl rfl HN.out HN.out (by have := HN.out; rw [hN.out]; omega) (by have := HN.out; unfold maxLen; omega) (Nat.le_refl _) ?_; intro w1 hown hgrow; have hcs := zs_str hown; have HB := Lib.hid (Below.grown (Below.refl w.heap.size w) hgrow (Nat.le_refl _) (fun k e => by cases e)); have hsz := HB.out.size; clear hown hgrow)
    | (go_at_call 12; (with_reducible refine (dec_long _ HL.out _).mono ?_); rintro e w2 ⟨rfl, hb⟩; have HB := Lib.hid (below_step (w := w) (Below.trans HB.out (by go_grown)) hb); have hsz := HB.out.size; clear hb)
    | (go_at_call 8; (with_reducible refine (alive_true _).mono ?_); rintro e w3 ⟨rfl, hb⟩; have HB := Lib.hid (below_step (w := w) (Below.trans HB.out (by go_grown)) hb); have hsz := HB.out.size; clear hb))
  go_ret
  exact ⟨rfl, HB.out⟩
set_option maxRecDepth 100000 in
set_option maxHeartbeats 4000000 in
theorem long_neg (o : Int) (w : World) (h1 : -128 ≤ o) (h2 : o ≤ 0) : Calls Tryz.prog 6 #[.int .i8 o] w fun e w' => e = .returned (.bool true) ∧ Below w.heap.size w w' := by
  obtain ⟨i0, hi, hz0, hs0, hb0⟩ := info5
  have HI := Lib.hid hi
  have hZ := Lib.hid hz0
  have hS := Lib.hid hs0
  have hN := Lib.hid hb0
  clear hi hz0 hs0 hb0
  obtain ⟨n, hn⟩ : ∃ n : Nat, 1048576 + o = (n : Int) := ⟨(1048576 + o).toNat, by omega⟩
  have HN := Lib.hid hn
  have hs := zs_size n
  have hlong : ((zs n).size : Int) ≤ 1048576 ∧ 0 < (zs n).size ∧ 0 < n := by omega
  have HL := Lib.hid hlong
  clear hn hs hlong
  go_enter Tryz.func6, Tryz.ntmps6
  go_wp2_with (first
    | (refine wpList_make_full _ rfl _ _ 40 rfl w.heap.size 5 i0 (.int .u8 0) 1 Tryz.underlying40 HI.out hZ.out hS.out .i64 .i64 _ _ n rfl rfl HN.out HN.out (by have := HN.out; rw [hN.out]; omega) (by have := HN.out; unfold maxLen; omega) (Nat.le_refl _) ?_; intro w1 hown hgrow; have hcs := zs_str hown; have HB := Lib.hid (Below.grown (Below.refl w.heap.size w) hgrow (Nat.le_refl _) (fun k e => by cases e)); have hsz := HB.out.size; clear hown hgrow)
    | (go_at_call 12; (with_reducible refine (dec_nul _ HL.out.1 HL.out.2.1 (zs_head n _) (zs_list n HL.out.2.2) _).mono ?_); rintro e w2 ⟨rfl, hb⟩; have HB := Lib.hid (below_step (w := w) (Below.trans HB.out (by go_grown)) hb); have hsz := HB.out.size; clear hb)
    | (go_at_call 8; (with_reducible refine (alive_true _).mono ?_); rintro e w3 ⟨rfl, hb⟩; have HB := Lib.hid (below_step (w := w) (Below.trans HB.out (by go_grown)) hb); have hsz := HB.out.size; clear hb))
  go_ret
  exact ⟨rfl, HB.out⟩
theorem long_true (o : Int) (w : World) (h1 : -128 ≤ o) (h2 : o ≤ 127) : Calls Tryz.prog 6 #[.int .i8 o] w fun e w' => e = .returned (.bool true) ∧ Below w.heap.size w w' := by
  by_cases h : 0 < o
  · exact long_pos o w h h2
  · exact long_neg o w h1 (by omega)
end Go.Proofs.YtbhbjfaljpfdgaaGreat
