import Derived.Test.YtfondhcppjkchaaGreatC5
import Derived.Handy
import Derived.Deep.RegionWith
import Derived.OwnWalk
import Derived.LoopN
import Derived.Test.YtfondhcppjkchaaGreatC3
set_option maxHeartbeats 40000000
set_option maxRecDepth 100000
set_option linter.unusedVariables false
set_option linter.unusedSimpArgs false
namespace Go.Proofs.YtfondhcppjkchaaGreat.Q
open Go.RowKit Go.Proofs.YtfondhcppjkchaaGreatW.PrintWords Go.Proofs.YtfondhcppjkchaaGreatW.PrintLast
open Go.Proofs.YtfondhcppjkchaaGreatW.PrintMore
theorem run_append_make (W : World) (n : Nat) (h0 : 0 < n) (h1 : n ≤ 1073741824) : ∃ cap cur, (Builtin.append_ #[24, 3] 24 #[.slice none 0 0, .int .i64 n]).run Tryz.prog W = .ok (.slice (some ⟨W.heap.size, 0, none⟩) n cap) (W.drew.alloc (.cells cur 2)) ∧ n ≤ cap ∧ cap ≤ maxLen ∧ cur.size = cap := by
 obtain ⟨i0, hi, hz0, hz1, hz2⟩ := info_parts info2
 have hw : IntKind.i64.wrap (n : Int) = n := IntWalk.i64_in _ ⟨by omega, by omega⟩
 refine ⟨grownCap W n 0 2, Builtin.zeroCells (Value.cells (.int .i64 0)) n ++ Builtin.zeroCells (Value.cells (.int .i64 0)) (grownCap W n 0 2 - n), ?_, grownCap_ge W n 0 2, grownCap_le_maxLen W n 0 2 (by unfold maxLen; omega), ?_⟩
 ·have hu3 : Tryz.prog.underlying 3 = some (.int .i64) := Tryz.underlying3
  have hn : n ≠ 0 := by omega
  have ha : (asInt (.int .i64 (n : Int))).run Tryz.prog W = .ok (n : Int) W := by simp [asInt, asIntOf]
  have a1 : ¬ ((n : Int) < 0) := by omega
  have a2 : ¬ (281474976710656 < (n : Int) * 8) := by omega
  have a3 : ¬ (9223372036854775807 < (n : Int)) := by omega
  have a4 : ¬ (281474976710656 < Builtin.nextslicecap n 0 * 8) := by rw [nextslicecap_zero h0]; omega
  simp [Builtin.append_, run_underlying Tryz.underlying24, run_underlying hu3, sizeOf, typeInfo, zeroValue, hi, hz0, hz1, hz2, ha, hw, a1, a2, a3, a4, hn, Question.forced, run_firstCells_none, newRow, grownCap]
 ·simp [Builtin.zeroCells, Value.cells]
  have := grownCap_ge W n 0 2
  omega
theorem wpList_append_run {P : Program} {w : World} {ops : Array Oper} {rest : List Oper} {o : Oper} {a : Act} {Q : Exit → Act → World → Prop}
  (hg : o.guard = none) (s x : Operand) (t u ty : TypeId) (hop : o.op = Op.call { callee := Callee.builtin Builtin.append, args := #[s, x], argTypes := #[t, u] }) (hty : o.type = ty)
  (v xv v' : Value) (w' : World) (hs : a.eval s = v) (hx : a.eval x = xv) (hr : (Builtin.append_ #[t, u] ty #[v, xv]).run P w = .ok v' w') (hK : wpList P ops Q rest (a.put o.dst v') w') :
  wpList P ops Q (o :: rest) a w := by
 refine wpList_plain hg fun K' hK' => ?_
 subst hty
 unfold Oper.wp
 simp [execOp, hop, resolve, invoke, builtin, hs, hx, hr, Result.andThen]
 exact hK' _ _ hK
theorem grow_any (n : Nat) (h0 : 0 < n) (h1 : n ≤ 1073741824) (W : World) :
  Calls Tryz.prog 148 #[.slice none 0 0, .int .i64 n] W fun e W' => ∃ cap, e = .returned (.slice (some ⟨W.heap.size, 0, none⟩) 0 cap) ∧ Kd.R (Kd.int .i64) 2 W' W.heap.size (fun _ => True) (.slice (some ⟨W.heap.size, 0, none⟩) 0 cap) [] ∧ Below W.heap.size W W' := by
 obtain ⟨cap, cur, hr, hc0, hc1, hcs⟩ := run_append_make W n h0 h1
 have hp : (0 : Int) < n := by omega
 have hn : decide ((n : Int) < 0) = false := decide_eq_false (by omega)
 have hd : decide ((n : Int) > 0) = true := decide_eq_true hp
 have hcl : cap ≤ 9223372036854775807 := by unfold maxLen at hc1; omega
 have HR := Lib.hid hr
 have HC1 := Lib.hid hc1
 have HCS := Lib.hid hcs
 clear hr hc1 hcs
 go_enter Tryz.func148, Tryz.ntmps148
 go_wp2_with (first | (at_builtin; refine wpList_append_run rfl (.tmp 20) (.tmp 21) 24 3 24 rfl rfl _ _ _ _ (by simp [Act.eval, Act.put]) (by simp [Act.eval, Act.put]) HR.out ?_))
 go_ret
 refine ⟨cap, rfl, Kd.zmb (World.ownsRow_made W.drew cur cap (Nat.le_refl _) HC1.out (by rw [HCS.out]; omega)) (fun _ _ => trivial), ?_⟩
 exact (Below.refl _ _).drew.alloc (Nat.le_refl _) _
theorem clone_any (A : Option Addr) (c : Nat) (xs : List Int) (W : World) (h : Kd.C (Kd.int .i64) W A xs.length xs) (hl : xs.length ≤ 1073741824) :
  Calls Tryz.prog 119 #[.slice A xs.length c] W fun e W' => ∃ v, e = .returned v ∧ Kd.R (Kd.int .i64) 2 W' W.heap.size (fun _ => True) v xs ∧ Below W.heap.size W W' := by
 have H := Lib.hid h
 clear h
 cases A with
 | none =>
  have hx : xs = [] := by
   cases xs with
   | nil => rfl
   | cons a l =>
    obtain ⟨ad, hh, _⟩ := Kd.zya H.out 0 (by omega) (by simp)
    cases hh
  subst hx
  have heq : ∀ w, (Go.binOp BinOp.eql 24 (.slice none ([] : List Int).length c) (.slice none 0 0)).run Tryz.prog w = .ok (.bool true) w := fun w => by kernel_rfl
  have heq := fun w => (show (Go.binOp BinOp.eql 24 (.slice none 0 c) (.slice none 0 0)).run Tryz.prog w = .ok (.bool true) w from heq w)
  go_enter Tryz.func119, Tryz.ntmps119
  go_wp2
  go_ret
  exact ⟨_, rfl, Kd.R_nil _ _ _ _ _, Below.refl _ _⟩
 | some ad =>
  have heq : ∀ w, (Go.binOp BinOp.eql 24 (.slice (some ad) xs.length c) (.slice none 0 0)).run Tryz.prog w = .ok (.bool false) w := fun w => by kernel_rfl
  go_enter Tryz.func119, Tryz.ntmps119
  go_wp2_with (first | (at_builtin; refine Kd.R_append_row (w0 := W) (Value.int .i64) 0 W.heap.size rfl (.tmp 5) (.tmp 6) 24 2 (.int .i64 0) 8 rfl Tryz.underlying24 info2 rfl (by omega) (.slice (some ⟨W.heap.size, 0, none⟩) 0 0) [] xs (some ad) xs.length c (fun _ => True) rfl rfl (fun _ _ => trivial) (Kd.zmb (World.ownsRow_made W #[] 0 (Nat.le_refl _) (by unfold maxLen; omega) rfl) (fun _ _ => trivial)) (Kd.zea H.out _) ((Below.refl _ _).alloc (Nat.le_refl _) _) (by simp) (by simp; omega) ?_; intro v1 w1 hR1 hB1 hg1 hat1))
  go_ret
  exact ⟨_, rfl, hR1, hB1⟩
theorem concat_any (g c : Nat) (A0 A1 : Option Addr) (c0 c1 : Nat) (xs ys : List Int) (W : World) (k0 : W.cell? ⟨g, 0, none⟩ = some (.slice A0 xs.length c0)) (k1 : W.cell? ⟨g, 1, none⟩ = some (.slice A1 ys.length c1)) (h0 : Kd.C (Kd.int .i64) W A0 xs.length xs) (h1 : Kd.C (Kd.int .i64) W A1 ys.length ys) (hp : 0 < xs.length + ys.length) (hl : xs.length + ys.length ≤ 1073741824) :
  Calls Tryz.prog 121 #[.slice (some ⟨g, 0, none⟩) 2 c] W fun e W' => ∃ v, e = .returned v ∧ Kd.R (Kd.int .i64) 2 W' W.heap.size (fun _ => True) v (xs ++ ys) ∧ Below W.heap.size W W' := by
 have H0 := Lib.hid h0
 have H1 := Lib.hid h1
 have hg := fun W => grow_any (xs.length + ys.length) hp hl W
 rw [Int.natCast_add] at hg
 have HG := Lib.hid hg
 have K0 := Lib.hid k0
 have K1 := Lib.hid k1
 clear hg
 have hxl : xs.length ≤ 1073741824 := by omega
 have hyl : ys.length ≤ 1073741824 := by omega
 have n1 : decide ((xs.length : Int) < 0) = false := decide_eq_false (by omega)
 have n2 : decide ((xs.length : Int) + (ys.length : Int) < 0) = false := decide_eq_false (by omega)
 clear h0 h1 hp
 go_enter Tryz.func121, Tryz.ntmps121
 go_wp2_with fail
 refine wp_loop_rounds 3 ?_
 rw [rounds_succ]
 go_wp2_with fail
 rw [rounds_succ]
 go_wp2_with fail
 rw [rounds_succ]
 go_wp2_with (first | (go_at_call 148; refine (HG.out _).mono ?_; rintro e w2 ⟨cap, rfl, hR, hb⟩; have HR := Lib.hid hR; have HB := Lib.hid hb; have k0 := keepc hb k0; have k1 := keepc hb k1; clear hR hb))
 refine wp_loop_rounds 3 ?_
 rw [rounds_succ]
 go_wp2_with (first | (at_builtin; refine Kd.R_append_row (w0 := W) (Value.int .i64) 0 W.heap.size rfl (.tmp 31) (.tmp 32) 24 2 (.int .i64 0) 8 rfl Tryz.underlying24 info2 rfl (by omega) _ [] xs A0 xs.length c0 (fun _ => True) rfl rfl (fun _ _ => trivial) HR.out (Kd.zu H0.out HB.out) HB.out HB.out.size (by simp; omega) ?_; intro v1 w3 hR1 hB1 hg1 hat1; have HR1 := Lib.hid hR1; have HB1 := Lib.hid hB1; have k0 := keepc hB1 K0.out; have k1 := keepc hB1 K1.out; clear hR1 hB1 hg1 hat1))
 rw [rounds_succ]
 go_wp2_with (first | (at_builtin; refine Kd.R_append_row (w0 := W) (Value.int .i64) 0 W.heap.size rfl (.tmp 31) (.tmp 32) 24 2 (.int .i64 0) 8 rfl Tryz.underlying24 info2 rfl (by omega) v1 ([] ++ xs) ys A1 ys.length c1 (fun _ => True) rfl rfl (fun _ _ => trivial) HR1.out (Kd.zu H1.out HB1.out) HB1.out HB1.out.size (by simp; omega) ?_; intro v2 w4 hR2 hB2 hg2 hat2; have HR2 := Lib.hid hR2; have HB2 := Lib.hid hB2; clear hR2 hB2 hg2 hat2))
 rw [rounds_succ]
 go_wp2_with fail
 go_ret
 exact ⟨_, rfl, HR2.out, HB2.out⟩
end Go.Proofs.YtfondhcppjkchaaGreat.Q
namespace Go.Proofs.YtfondhcppjkchaaGreat.Q
open Go.RowKit Go.Proofs.YtfondhcppjkchaaGreatW.PrintWords Go.Proofs.YtfondhcppjkchaaGreatW.PrintLast Go.Proofs.YtfondhcppjkchaaGreatW.PrintMore
attribute [local go_sem] max2_int min2_int max_two min_two max_three min_three max_four min_four
def slices_Equal_int64_int64.l0 : Nat → List Int → List Int → Int → Int → Option (Bool)
 | 0, _, _, _, _ => none
 | k + 1, x0, x1, x12, x13 => if x13 < x12 then (if 0 ≤ x13 then (if x13 < (x0.length : Int) then (if x13 < (x1.length : Int) then (if (rd x0 x13) = (rd x1 x13) then (slices_Equal_int64_int64.l0 k x0 x1 x12 (wrap64 (x13 + 1))) else (some false)) else (none)) else (none)) else (none)) else (some true)
def slices_Equal_int64_int64.f (k : Nat) (l0 : List Int) (l1 : List Int) : Option (Bool) := if (l0.length : Int) = (l1.length : Int) then (slices_Equal_int64_int64.l0 k l0 l1 (l0.length : Int) 0) else (some false)
theorem slices_Equal_int64_int64.zma : ∀ k, (∀ y0 y1 y2 y3, LeO (slices_Equal_int64_int64.l0 k y0 y1 y2 y3) (slices_Equal_int64_int64.l0 (k + 1) y0 y1 y2 y3))
 | 0 => fun _ _ _ _ r h => by simp [slices_Equal_int64_int64.l0] at h
 | k + 1 => by
  have ih0 := slices_Equal_int64_int64.zma k
  ·intro y0 y1 y2 y3
   unfold slices_Equal_int64_int64.l0
   repeat' first
   | (with_reducible exact ih0 _ _ _ _)
   | (with_reducible exact LeO.refl _)
   | (with_reducible exact LeO.none _)
   | (with_reducible refine LeO.ite ?_ ?_)
   | (with_reducible refine LeO.bind ?_ (fun _ => ?_))
   | exact ih0 _ _ _ _
   | exact LeO.none _
   | refine LeO.ite ?_ ?_
   | refine LeO.bind ?_ (fun _ => ?_)
theorem slices_Equal_int64_int64.mono : ∀ a0 a1 k, LeO (slices_Equal_int64_int64.f k a0 a1) (slices_Equal_int64_int64.f (k + 1) a0 a1) := by
 intro a0 a1 k
 have ih0 := slices_Equal_int64_int64.zma k
 unfold slices_Equal_int64_int64.f
 repeat' first
   | (with_reducible exact ih0 _ _ _ _)
   | (with_reducible exact LeO.refl _)
   | (with_reducible exact LeO.none _)
   | (with_reducible refine LeO.ite ?_ ?_)
   | (with_reducible refine LeO.bind ?_ (fun _ => ?_))
   | exact ih0 _ _ _ _
   | exact LeO.none _
   | refine LeO.ite ?_ ?_
   | refine LeO.bind ?_ (fun _ => ?_)
theorem slices_Equal_int64_int64.calls (k : Nat) (A0 : Option Addr) (c0 : Nat) (l0 : List Int) (A1 : Option Addr) (c1 : Nat) (l1 : List Int) (r : Bool) (w : World) (hr0 : Kd.C (Kd.int .i64) w A0 l0.length l0) (hc0 : l0.length ≤ c0) (hr1 : Kd.C (Kd.int .i64) w A1 l1.length l1) (hc1 : l1.length ≤ c1) (h : slices_Equal_int64_int64.f k l0 l1 = some r) :
  Calls Tryz.prog 147 #[.slice A0 l0.length c0, .slice A1 l1.length c1] w fun e w' => e = .returned (.bool r) ∧ Drawn0 w w' := by
 have HR0 := zb.mk hr0
 have HC0 := zb.mk hc0
 clear hr0 hc0
 have HR1 := zb.mk hr1
 have HC1 := zb.mk hc1
 clear hr1 hc1
 have H : (if (l0.length : Int) = (l1.length : Int) then (slices_Equal_int64_int64.l0 k l0 l1 (l0.length : Int) 0) else (some false)) = some r := h
 clear h
 by_cases c3 : (l0.length : Int) = (l1.length : Int)
 ·rw [if_pos c3] at H
  have c3b0 : ((l0.length : Int) == (l1.length : Int)) = true := beq_iff_eq.mpr c3
  have c3b1 : ((l0.length : Int) != (l1.length : Int)) = false := bne_eq_false_iff_eq.mpr c3
  have c3b2 : (l0.length == l1.length) = true := by first | simpa using c3 | (simp at c3 ⊢; omega)
  clear c3
  have H' := zb.mk H
  clear H
  go_enter Tryz.func147, Tryz.ntmps147
  go_wp2
  repeat (go_quiet (fail); try go_wp2)
  go_loopg [13] k (fun kq v13 w' => ∃ (x13_1 : Int), v13 = .int .i64 x13_1 ∧ zb (slices_Equal_int64_int64.l0 kq l0 l1 (l0.length : Int) x13_1 = some r) ∧ zb (kq ≤ k) ∧ Drawn0 w w')
  case atStart => exact ⟨(0), (by first | rfl | (simp; done) | (simp [*]; done)), H', ⟨Nat.le_refl _⟩, by repeat (first | exact Drawn0.refl _ | apply Drawn0.step)⟩
  case round =>
   clear H'
   try clear c1
   try clear p2
   try clear c3
   try clear c3b0
   try clear c3b1
   try clear c3b2
   obtain ⟨x13_1, rfl, HA, HK1, ⟨m1, rfl⟩⟩ := hrel
   cases gk with
   | zero => exact absurd HA.out (by simp [slices_Equal_int64_int64.l0])
   | succ k1 =>
    have H := HA.out
    clear HA
    simp only [slices_Equal_int64_int64.l0] at H
    by_cases c4 : x13_1 < (l0.length : Int)
    ·rw [if_pos c4] at H
     have c4b0 : decide (x13_1 < (l0.length : Int)) = true := decide_eq_true c4
     clear c4
     by_cases c5 : 0 ≤ x13_1
     ·rw [if_pos c5] at H
      have c5b0 : decide (0 ≤ x13_1) = true := decide_eq_true c5
      clear c5
      by_cases c6 : x13_1 < (l0.length : Int)
      ·rw [if_pos c6] at H
       have c6b0 : decide (x13_1 < (l0.length : Int)) = true := decide_eq_true c6
       clear c6
       by_cases c7 : x13_1 < (l1.length : Int)
       ·rw [if_pos c7] at H
        have c7b0 : decide (x13_1 < (l1.length : Int)) = true := decide_eq_true c7
        clear c7
        by_cases c8 : (rd l0 x13_1) = (rd l1 x13_1)
        ·rw [if_pos c8] at H
         have c8b0 : ((rd l0 x13_1) == (rd l1 x13_1)) = true := beq_iff_eq.mpr c8
         have c8b1 : ((rd l0 x13_1) != (rd l1 x13_1)) = false := bne_eq_false_iff_eq.mpr c8
         clear c8
         have H' := zb.mk H
         clear H
         have p306 : 0 ≤ (x13_1 : Int) := of_decide_eq_true (by first | (with_reducible assumption) | assumption)
         have q306 : x13_1 < (l0.length : Int) := of_decide_eq_true (by first | (with_reducible assumption) | assumption)
         obtain ⟨ad306, e306, hx306_0⟩ := Kd.zya HR0.out x13_1 p306 q306
         cases e306
         replace p306 := eq_true p306
         replace q306 := eq_true q306
         have p307 : 0 ≤ (x13_1 : Int) := of_decide_eq_true (by first | (with_reducible assumption) | assumption)
         have q307 : x13_1 < (l1.length : Int) := of_decide_eq_true (by first | (with_reducible assumption) | assumption)
         obtain ⟨ad307, e307, hx307_0⟩ := Kd.zya HR1.out x13_1 p307 q307
         cases e307
         replace p307 := eq_true p307
         replace q307 := eq_true q307
         go_wp2
         repeat (go_quiet (fail); try go_wp2)
         go_roundg k1
         case measure => have := HK1.out; omega
         case rel => exact ⟨(wrap64 (x13_1 + 1)), (by first | rfl | (simp; done) | (simp [*]; done)), H', ⟨by have := HK1.out; omega⟩, by repeat (first | exact Drawn0.refl _ | apply Drawn0.step)⟩
        ·rw [if_neg c8] at H
         have c8b0 : ((rd l0 x13_1) == (rd l1 x13_1)) = false := beq_eq_false_iff_ne.mpr c8
         have c8b1 : ((rd l0 x13_1) != (rd l1 x13_1)) = true := bne_iff_ne.mpr c8
         obtain rfl := Option.some.inj H
         have p306 : 0 ≤ (x13_1 : Int) := of_decide_eq_true (by first | (with_reducible assumption) | assumption)
         have q306 : x13_1 < (l0.length : Int) := of_decide_eq_true (by first | (with_reducible assumption) | assumption)
         obtain ⟨ad306, e306, hx306_0⟩ := Kd.zya HR0.out x13_1 p306 q306
         cases e306
         replace p306 := eq_true p306
         replace q306 := eq_true q306
         have p307 : 0 ≤ (x13_1 : Int) := of_decide_eq_true (by first | (with_reducible assumption) | assumption)
         have q307 : x13_1 < (l1.length : Int) := of_decide_eq_true (by first | (with_reducible assumption) | assumption)
         obtain ⟨ad307, e307, hx307_0⟩ := Kd.zya HR1.out x13_1 p307 q307
         cases e307
         replace p307 := eq_true p307
         replace q307 := eq_true q307
         go_wp2
         repeat (go_quiet (fail); try go_wp2)
         go_ret
         exact ⟨by first | rfl | (simp; done) | (simp [*]; done), by repeat (first | exact Drawn0.refl _ | apply Drawn0.step)⟩
       ·rw [if_neg c7] at H
        exact absurd H (by simp)
      ·rw [if_neg c6] at H
       exact absurd H (by simp)
     ·rw [if_neg c5] at H
      exact absurd H (by simp)
    ·rw [if_neg c4] at H
     have c4b0 : decide (x13_1 < (l0.length : Int)) = false := decide_eq_false c4
     clear c4
     obtain rfl := Option.some.inj H
     go_wp2
     repeat (go_quiet (fail); try go_wp2)
     go_ret
     exact ⟨by first | rfl | (simp; done) | (simp [*]; done), by repeat (first | exact Drawn0.refl _ | apply Drawn0.step)⟩
 ·rw [if_neg c3] at H
  have c3b0 : ((l0.length : Int) == (l1.length : Int)) = false := beq_eq_false_iff_ne.mpr c3
  have c3b1 : ((l0.length : Int) != (l1.length : Int)) = true := bne_iff_ne.mpr c3
  have c3b2 : (l0.length == l1.length) = false := by first | simpa using c3 | (simp at c3 ⊢; omega)
  obtain rfl := Option.some.inj H
  go_enter Tryz.func147, Tryz.ntmps147
  go_wp2
  repeat (go_quiet (fail); try go_wp2)
  go_ret
  exact ⟨by first | rfl | (simp; done) | (simp [*]; done), by repeat (first | exact Drawn0.refl _ | apply Drawn0.step)⟩
end Go.Proofs.YtfondhcppjkchaaGreat.Q
