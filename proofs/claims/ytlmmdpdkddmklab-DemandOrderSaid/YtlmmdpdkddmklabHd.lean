import Derived.Test.YtlmmdpdkddmklabHc
namespace Go.Proofs.Ytlmmdpdkddmklab.Q
open Go.Sort hiding Below
open Go.RowKit Go.Proofs.YtlmmdpdkddmklabW.PrintWords Go.Proofs.YtlmmdpdkddmklabW.PrintLast

def slices_Sort.f (l0 : List Int) : Option (List Int) := if l0.length ≤ 4096 then some (l0.mergeSort fun x y => decide (x ≤ y)) else none
def slices_Compact.f (l0 : List Int) : Option (List Int) := if l0.length ≤ 4096 then some (Lib.compact l0) else none

theorem reps_ints : ∀ {l : List Int} {cs : List Value}, Reps (fun (x : Int) cs => cs = [Value.int .i64 x]) 1 l cs → cs = l.map (Value.int .i64) := by
  intro l cs ⟨hl, h⟩
  apply List.ext_getElem?
  intro j
  by_cases hj : j < l.length
  · have h1 := h j l[j] (List.getElem?_eq_getElem hj)
    have h2 : ((cs.drop (j * 1)).take 1)[0]? = some (Value.int .i64 l[j]) := by rw [h1]; rfl
    rw [List.getElem?_take_of_lt (by omega), List.getElem?_drop] at h2
    simpa [hj] using h2
  · rw [List.getElem?_eq_none (by omega), List.getElem?_eq_none (by simp; omega)]
theorem reps_ints_mk : ∀ l : List Int, Reps (fun (x : Int) cs => cs = [Value.int .i64 x]) 1 l (l.map (Value.int .i64))
  | [] => Reps.none _ _
  | _ :: l => Reps.one (R := fun (x : Int) cs => cs = [Value.int .i64 x]) rfl (reps_ints_mk l)
/-- A row of whole numbers of the call's own, as a row of cells. -/
theorem ints_row {W : World} {base : Nat} {ok : Nat → Prop} {v : Value} {l : List Int} (h : Kd.R (Kd.int .i64) 2 W base ok v l) : W.ownsRow base 2 1 v l.length (l.map (Value.int .i64)) ∧ ∀ k, v.ownBlock = some k → ok k := by
  obtain ⟨h1, inner, ho, hr⟩ := h
  refine ⟨?_, h1⟩
  have e : inner = l.map (Value.int .i64) := reps_ints hr
  rwa [e] at ho
theorem ints_R {W : World} {base : Nat} {ok : Nat → Prop} {v : Value} {l : List Int} (h : W.ownsRow base 2 1 v l.length (l.map (Value.int .i64))) (hk : ∀ k, v.ownBlock = some k → ok k) : Kd.R (Kd.int .i64) 2 W base ok v l :=
  ⟨hk, _, h, reps_ints_mk l⟩
theorem kept_of {w w' : World} {g : Nat} {P0 : Nat → Prop} (hg : P0 g) (h : w.grownBy w' (some g)) : Kept w w' (fun k_ => P0 k_) :=
  ⟨h.size, fun i hi hp => h.block i hi (fun e => hp (by cases e; exact hg))⟩
theorem below_of {w0 w w' : World} {g : Nat} (hB : Below w0.heap.size w0 w) (hg : w0.heap.size ≤ g) (h : w.grownBy w' (some g)) : Below w0.heap.size w0 w' :=
  hB.grown h hB.size (fun k e => by cases e; exact hg)

set_option maxHeartbeats 2000000 in
set_option maxRecDepth 100000 in
theorem insNone46 (w : World) : Calls Try.prog 46 #[.slice none 0 0, .int .i64 0, .int .i64 0] w fun e w' => e = .returned (.tuple #[]) ∧ w' = w := by
  go_enter Try.func46, Try.ntmps46
  go_wp2
  refine wp_loop_rounds 1 ?_
  rw [rounds_succ]
  go_wp2
  go_end0
  exact ⟨rfl, rfl⟩
set_option maxHeartbeats 2000000 in
set_option maxRecDepth 100000 in
theorem pdqNone35 (lim : Int) (w : World) : Calls Try.prog 35 #[.slice none 0 0, .int .i64 0, .int .i64 0, .int .i64 lim] w fun e w' => e = .returned (.tuple #[]) ∧ w' = w := by
  have hi := fun W => insNone46 W
  go_enter Try.func35, Try.ntmps35
  go_wp2
  refine wp_loop_rounds 1 ?_
  rw [rounds_succ]
  go_wp2_with (go_at_call 46; refine (hi _).mono ?_; rintro e w' ⟨rfl, rfl⟩)
  refine bodyPost_ret (results_none rfl _ _ _) rfl ?_
  exact ⟨rfl, rfl⟩
set_option maxHeartbeats 2000000 in
set_option maxRecDepth 100000 in
theorem sortNone29 (w : World) : Calls Try.prog 29 #[.slice none 0 0] w fun e w' => e = .returned (.tuple #[]) ∧ w' = w := by
  have hp := fun lim W => pdqNone35 lim W
  have hl := fun W => Any.bits_Len (SlLaysF0.n15.bits (P := Try.prog) (ρ := Try.laysSortFunc_ren) { Try.laysSortFunc with }) 0 W (by omega) (by omega)
  change ∀ W, Calls Try.prog 34 _ _ _ at hl
  go_enter Try.func29, Try.ntmps29
  go_wp2_with (first | (go_at_call 34; refine (hl _).mono ?_; rintro e w' ⟨rfl, rfl⟩) | (go_at_call 35; refine (hp _ _).mono ?_; rintro e w' ⟨rfl, rfl⟩))
  go_end0
  exact ⟨rfl, rfl⟩

theorem slices_Sort.calls (P0_ : Nat → Prop) (u9000_ : Value) (l0 r : List Int) (w0 w : World) (hB : Below w0.heap.size w0 w) (ho0 : Kd.R (Kd.int .i64) 2 w w0.heap.size P0_ u9000_ l0) (h : slices_Sort.f l0 = some r) :
    Calls Try.prog 29 #[u9000_] w fun e w' => e = .returned (.tuple #[]) ∧ Kd.R (Kd.int .i64) 2 w' w0.heap.size P0_ u9000_ r ∧ Below w0.heap.size w0 w' ∧ Kept w w' (fun k_ => P0_ k_) := by
  unfold slices_Sort.f at h
  split at h
  case isFalse => cases h
  case isTrue hlen =>
    cases h
    obtain ⟨ho, hk⟩ := ints_row ho0
    rcases ho.2 with ⟨rfl, hn⟩ | ⟨g, cap, cur, rfl, hbase, hb, hle, hcap, hsz, htk⟩
    · have hl : l0 = [] := List.eq_nil_of_length_eq_zero hn
      subst hl
      refine (sortNone29 w).mono ?_
      rintro e w' ⟨rfl, rfl⟩
      exact ⟨rfl, by simpa using ho0, hB, Kept.refl _ _⟩
    · have hg : g < w.heap.size := (Array.getElem?_eq_some_iff.1 hb).1
      have hH : Holds (Value.int .i64) w g 0 l0.toArray := holdsG (enc := Value.int .i64) hb (by simpa using htk)
      have hcon := AnyG.slices_Sort_int Try.laysSort g 0 cap l0 w hH hg (by omega)
      change Calls Try.prog 29 _ _ _ at hcon
      refine hcon.mono ?_
      rintro e w' ⟨he, n, os, rfl⟩
      have hlm : (l0.mergeSort fun x y => decide (x ≤ y)).length = l0.length := List.length_mergeSort _
      have hG := grownG (enc := Value.int .i64) (w := w) (g := g) (n := n) (os := os) (l0.mergeSort fun x y => decide (x ≤ y)).toArray
      refine ⟨he, ints_R ?_ hk, below_of hB hbase hG, kept_of (hk g rfl) hG⟩
      rw [hlm]
      exact ownsG (enc := Value.int .i64) (ts := l0.mergeSort fun x y => decide (x ≤ y)) _ hbase hb hle hcap hsz (by omega) (by simp) (List.take_of_length_le (by simp)) (by omega)

theorem compact_len (l : List Int) : (Lib.compact l).length ≤ l.length := by
  unfold Lib.compact Lib.compactUpTo
  rw [List.length_map]
  exact Nat.le_trans (List.length_filter_le _ _) (by simp)

theorem slices_Compact.calls (P0_ : Nat → Prop) (u9000_ : Value) (l0 r : List Int) (w0 w : World) (hB : Below w0.heap.size w0 w) (ho0 : Kd.R (Kd.int .i64) 2 w w0.heap.size P0_ u9000_ l0) (h : slices_Compact.f l0 = some r) :
    Calls Try.prog 30 #[u9000_] w fun e w' => ∃ v0_ : Value, e = .returned (v0_) ∧ Kd.R (Kd.int .i64) 2 w' w0.heap.size (fun k_ => P0_ k_ ∨ w.heap.size ≤ k_) v0_ r ∧ Below w0.heap.size w0 w' ∧ Kept w w' (fun k_ => P0_ k_) := by
  unfold slices_Compact.f at h
  split at h
  case isFalse => cases h
  case isTrue hlen =>
    cases h
    obtain ⟨ho, hk⟩ := ints_row ho0
    rcases ho.2 with ⟨rfl, hn⟩ | ⟨g, cap, cur, rfl, hbase, hb, hle, hcap, hsz, htk⟩
    · have hl : l0 = [] := List.eq_nil_of_length_eq_zero hn
      subst hl
      have hcon := AnyG.slices_Compact_int_empty Try.laysCompact none 0 w
      change Calls Try.prog 30 _ _ _ at hcon
      refine hcon.mono ?_
      rintro e w' ⟨rfl, rfl⟩
      exact ⟨_, rfl, Kd.R_nil _ _ _ _ _, hB, Kept.refl _ _⟩
    · have hH : Holds (Value.int .i64) w g 0 l0.toArray := holdsG (enc := Value.int .i64) hb (by simpa using htk)
      have hcon := AnyG.slices_Compact_int Try.laysCompact g 0 cap l0 w hH (by omega) hle
      change Calls Try.prog 30 _ _ _ at hcon
      refine hcon.mono ?_
      rintro e w' ⟨he, q, rfl⟩
      have hlc := compact_len l0
      generalize Lib.compact l0 = c at he hlc ⊢
      rw [← grow_empty (putRow _ _ _ _ _)]
      have hG := grownG (enc := Value.int .i64) (w := w) (g := g) (n := q) (os := #[]) (c ++ List.replicate (l0.length - c.length) 0).toArray
      refine ⟨_, he, ints_R ?_ (fun k e => .inl (hk k e)), below_of hB hbase hG, kept_of (hk g rfl) hG⟩
      exact ownsG (enc := Value.int .i64) (ts := c ++ List.replicate (l0.length - c.length) 0) _ hbase hb (by omega) hcap hsz (by simp; try omega) (by simp) (by rw [List.map_append, Nat.mul_one]; exact List.take_left' (by simp)) (by simp; try omega)
end Go.Proofs.Ytlmmdpdkddmklab.Q
