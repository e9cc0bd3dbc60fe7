/- Encode at the image of nothing; what the document fixes. -/
import Derived.Test.YtbhbjfaljpfdgaaGreatMg
import Derived.Test.YtbhbjfaljpfdgaaGreatMh
import Derived.Laws.IdiomStrings
import Derived.Lib.SlBytesConst
namespace Go.Proofs.YtbhbjfaljpfdgaaGreat
open Go.RowKit
set_option linter.unusedVariables false
abbrev head5 : List Value := [.int .u8 99, .int .u8 97, .int .u8 114, .int .u8 108, .int .u8 1]
theorem StV.start {w W : World} {m g : Nat} (hm : m < W.heap.size) (hg : g = W.heap.size) (i0 : W.cell? ⟨m, 0, none⟩ = some nl) (i1 : W.cell? ⟨m, 1, none⟩ = some nl) (i2 : W.cell? ⟨m, 2, none⟩ = some nl) :
    StV (.slice (some ⟨g, 0, none⟩) 5 5) (g + 1) m head5 ((W.alloc (.cells head5.toArray 5 (5, 6))).alloc (.cells #[.string ⟨#[]⟩, .slice (some ⟨g, 0, none⟩) 5 5, .bool false] 69)) := by
  subst hg
  have e1 : ((W.alloc (.cells head5.toArray 5 (5, 6))).alloc (.cells #[.string ⟨#[]⟩, .slice (some ⟨W.heap.size, 0, none⟩) 5 5, .bool false] 69)).heap[W.heap.size]? = some (.cells head5.toArray 5 (5, 6)) := by
    rw [heap_alloc_old _ _ (by simp)]; exact heap_alloc_new W _
  have e2 : ((W.alloc (.cells head5.toArray 5 (5, 6))).alloc (.cells #[.string ⟨#[]⟩, .slice (some ⟨W.heap.size, 0, none⟩) 5 5, .bool false] 69)).heap[W.heap.size + 1]? = some (.cells #[.string ⟨#[]⟩, .slice (some ⟨W.heap.size, 0, none⟩) 5 5, .bool false] 69) := by
    have := heap_alloc_new (W.alloc (.cells head5.toArray 5 (5, 6))) (.cells #[.string ⟨#[]⟩, .slice (some ⟨W.heap.size, 0, none⟩) 5 5, .bool false] 69)
    simpa using this
  have e3 : ∀ i, ((W.alloc (.cells head5.toArray 5 (5, 6))).alloc (.cells #[.string ⟨#[]⟩, .slice (some ⟨W.heap.size, 0, none⟩) 5 5, .bool false] 69)).cell? ⟨m, i, none⟩ = W.cell? ⟨m, i, none⟩ := fun i => World.cell?_of_block (by
    rw [heap_alloc_old _ _ (by simp; omega), heap_alloc_old _ _ hm])
  refine ⟨by simp only [World.cell?, e2]; rfl, (.inr ⟨_, _, _, rfl, hm, e1, rfl, rfl⟩), by simp [Value.ownBlock], by simp only [World.cell?, e2]; rfl, by simp only [World.frozen?, e2]; rfl, (e3 0).trans i0, (e3 1).trans i1, (e3 2).trans i2, by omega, by simp⟩
abbrev bytes8 : List UInt8 := [99, 97, 114, 108, 1, 0, 0, 0]
theorem OwnF.read {w : World} {base : Nat} {v : Value} (h : OwnF w base v 8 (bytes8.map fun b => .int .u8 (b.toNat : Int))) : ∃ g cap, v = .slice (some ⟨g, 0, none⟩) 8 cap ∧ ∀ j (hj : j < bytes8.length), w.cell? ((⟨g, 0, none⟩ : Addr).add j) = some (.int .u8 (bytes8[j].toNat : Int)) := by
  have key : ∀ g cur fr, w.heap[g]? = some (.cells cur 5 fr) → cur.toList.take 8 = bytes8.map (fun b => .int .u8 (b.toNat : Int)) → ∀ j (hj : j < bytes8.length), w.cell? ((⟨g, 0, none⟩ : Addr).add j) = some (.int .u8 (bytes8[j].toNat : Int)) := by
    intro g cur fr hg ht j hj
    have hadd : (⟨g, 0, none⟩ : Addr).add j = ⟨g, j, none⟩ := by unfold Addr.add; split <;> simp_all
    have hj8 : j < 8 := hj
    rw [hadd, cell_of_row w g j cur 5 fr hg, ← Array.getElem?_toList, ← List.getElem?_take_of_lt hj8, ht, List.getElem?_map, List.getElem?_eq_getElem hj]
    rfl
  rcases h with h | ⟨g, C, fr, rfl, hb, hg, hx, hn⟩
  · rcases h.2 with ⟨_, h0⟩ | ⟨g, cap, cur, rfl, -, hg, -, -, -, ht⟩
    · cases h0
    · exact ⟨g, cap, rfl, key g cur _ hg ht⟩
  · refine ⟨g, 8, rfl, key g C fr hg ?_⟩
    rw [hx]; rfl
theorem Done.read {b m : Nat} {w w' : World} (h : Done b m head5 w w') : ∃ g cap, w'.cell? ⟨b, 1, none⟩ = some (.slice (some ⟨g, 0, none⟩) 8 cap) ∧ (convert 40 9 (.slice (some ⟨g, 0, none⟩) 8 cap)).run Tryz.prog w' = .ok (.string ⟨#[99, 97, 114, 108, 1, 0, 0, 0]⟩) w' ∧ Below m w w' := by
  obtain ⟨⟨v', hv⟩, hB⟩ := h
  obtain ⟨g, cap, rfl, hc⟩ := OwnF.read hv.own
  exact ⟨g, cap, hv.c1, run_convert_bytes_back w' 40 9 5 _ cap bytes8 Tryz.underlying40 Tryz.underlying5 Tryz.underlying9 hc, hB⟩
set_option maxRecDepth 100000 in
set_option maxHeartbeats 4000000 in
theorem enc_nil (w : World) : Calls Tryz.prog 9 #[.agg #[nl, nl, nl]] w fun e w' => e = .returned (.tuple #[.string ⟨#[99, 97, 114, 108, 1, 0, 0, 0]⟩, .int .i64 0]) ∧ Below w.heap.size w w' := by
  go_enter Tryz.func9, Tryz.ntmps9
  go_wp2_with (first | (go_at_call 10; refine (emay_nil _).mono ?_; rintro e w1 ⟨rfl, hb⟩; obtain ⟨d0, d0a, -⟩ := kept_cell hb (b := w.heap.size) (i := 0) (v := nl) (by simp <;> omega) (by simp [go_sem]); obtain ⟨d1, d1a, -⟩ := kept_cell hb (b := w.heap.size) (i := 1) (v := nl) (by simp <;> omega) (by simp [go_sem]); obtain ⟨d2, d2a, -⟩ := kept_cell hb (b := w.heap.size) (i := 2) (v := nl) (by simp <;> omega) (by simp [go_sem]); have hB := Lib.hid (below_step (w := w) (by go_grown) hb); have HS := Lib.hid (StV.start (W := w1) (w := w1) d0a rfl d0 d1 d2); have hcv : (convert 40 40 (.slice (some ⟨w1.heap.size, 0, none⟩) 5 5)).run Tryz.prog (w1.alloc (.cells #[.int .u8 99, .int .u8 97, .int .u8 114, .int .u8 108, .int .u8 1] 5)) = .ok (.slice (some ⟨w1.heap.size, 0, none⟩) 5 5) (w1.alloc (.cells #[.int .u8 99, .int .u8 97, .int .u8 114, .int .u8 108, .int .u8 1] 5 (5, 6))) := Lib.run_convert_bytes_const w1 40 5 _ 5 5 Tryz.underlying40 Tryz.underlying5; clear hb) | (go_at_call 15; refine (image_put _ _ _ _ _ HS.out (by simp)).mono ?_; rintro e w2 ⟨rfl, hd⟩; obtain ⟨g, cap, hg, hcs, hb2⟩ := hd.read; have HB2 := Lib.hid hb2; clear hd hb2))
  go_ret2
  exact ⟨rfl, Below.trans (Below.trans hB.out (by go_grown)) HB2.out⟩
set_option maxRecDepth 100000 in
set_option maxHeartbeats 4000000 in
theorem alive_true (w : World) : Calls Tryz.prog 8 #[] w fun e w' => e = .returned (.bool true) ∧ Below w.heap.size w w' := by
  have HB := Lib.hid (Below.refl w.heap.size w)
  go_enter Tryz.func8, Tryz.ntmps8
  go_wp2_with (first | (go_at_call 12; (with_reducible refine (dec_x _).mono ?_); rintro e w1 ⟨rfl, hb⟩; have HB := Lib.hid (below_step (w := w) (Below.trans HB.out (by go_grown)) hb); have hs := HB.out.size; clear hb) | (go_at_call 12; (with_reducible refine (dec_two _).mono ?_); rintro e w2 ⟨rfl, hb⟩; have HB := Lib.hid (below_step (w := w) (Below.trans HB.out (by go_grown)) hb); have hs := HB.out.size; clear hb) | (go_at_call 12; (with_reducible refine (dec_one _).mono ?_); rintro e w4 ⟨rfl, hb⟩; have HB := Lib.hid (below_step (w := w) (Below.trans HB.out (by go_grown)) hb); have hs := HB.out.size; clear hb) | (go_at_call 9; (with_reducible refine (enc_nil _).mono ?_); rintro e w3 ⟨rfl, hb⟩; have HB := Lib.hid (below_step (w := w) (Below.trans HB.out (by go_grown)) hb); have hs := HB.out.size; clear hb) | (go_at_call 10; (with_reducible refine (emay_nil _).mono ?_); rintro e w5 ⟨rfl, hb⟩; obtain ⟨d0, d0a, -⟩ := kept_cell hb (b := w4.heap.size) (i := 0) (v := nl) (by simp <;> omega) (by simp [go_sem]); obtain ⟨d1, d1a, -⟩ := kept_cell hb (b := w4.heap.size) (i := 1) (v := nl) (by simp <;> omega) (by simp [go_sem]); obtain ⟨d2, d2a, -⟩ := kept_cell hb (b := w4.heap.size) (i := 2) (v := nl) (by simp <;> omega) (by simp [go_sem]); have HB := Lib.hid (below_step (w := w) (Below.trans HB.out (by go_grown)) hb); have hs := HB.out.size; clear hb) | (go_at_call 14; (with_reducible refine (img_same _).mono ?_); rintro e w6 ⟨rfl, hb⟩; have HB := Lib.hid (below_step (w := w) (Below.trans HB.out (by go_grown)) hb); have hs := HB.out.size; clear hb))
  go_ret
  exact ⟨rfl, HB.out⟩
end Go.Proofs.YtbhbjfaljpfdgaaGreat
