import Derived.Test.YtfondhcppjkchaaGreatC3
set_option maxHeartbeats 40000000
set_option maxRecDepth 100000
set_option linter.unusedVariables false
set_option linter.unusedSimpArgs false
namespace Go.Proofs.YtfondhcppjkchaaGreat.Q
open Go.RowKit Go.Proofs.YtfondhcppjkchaaGreatW.PrintWords Go.Proofs.YtfondhcppjkchaaGreatW.PrintLast Go.Proofs.YtfondhcppjkchaaGreatW.PrintMore
attribute [local go_sem] max2_int min2_int max_two min_two max_three min_three max_four min_four
def tasks_clock.j0 : Nat → List (S78) → List (S68) → Bool → Int → Int → Int → List (S70) → List (S70) → Int → Option (Int × Int × Bool)
 | 0, _, _, _, _, _, _, _, _, _ => none
 | k + 1, x1, x2, x8, x198000, x198001, x198002, x198003, x198004, x198005 => if x8 = true then (if 0 ≤ x198001 then (if x198001 < (x2.length : Int) then (some ((zbb x2 x198001).f0, (zbb x2 x198001).f1, true)) else (none)) else (none)) else (if x198000 = 2 then (if x198001 ≥ 0 then (if x198001 < (x1.length : Int) then (if x198002 ≥ 0 then (if 0 ≤ x198001 then (if x198002 < ((zj x1 x198001).f5) then (some ((zj x1 x198001).f0.f0, (zj x1 x198001).f0.f1, true)) else (some (0, 0, false))) else (none)) else (some (0, 0, false))) else (some (0, 0, false))) else (some (0, 0, false))) else (some (0, 0, false)))
def tasks_clock.f (k : Nat) (a0_0 : Int) (a0_1 : Int) (a0_2 : Int) (l0_3 : List (S70)) (l0_4 : List (S70)) (a0_5 : Int) (l1 : List (S78)) (l2 : List (S68)) : Option (Int × Int × Bool) := if a0_0 = 1 then (if a0_1 ≥ 0 then (if a0_1 < (l2.length : Int) then (tasks_clock.j0 k l1 l2 (a0_2 == 0) a0_0 a0_1 a0_2 l0_3 l0_4 a0_5) else (tasks_clock.j0 k l1 l2 false a0_0 a0_1 a0_2 l0_3 l0_4 a0_5)) else (tasks_clock.j0 k l1 l2 false a0_0 a0_1 a0_2 l0_3 l0_4 a0_5)) else (tasks_clock.j0 k l1 l2 false a0_0 a0_1 a0_2 l0_3 l0_4 a0_5)
theorem tasks_clock.zma : ∀ k, (∀ y0 y1 y2 y3 y4 y5 y6 y7 y8, LeO (tasks_clock.j0 k y0 y1 y2 y3 y4 y5 y6 y7 y8) (tasks_clock.j0 (k + 1) y0 y1 y2 y3 y4 y5 y6 y7 y8))
 | 0 => fun _ _ _ _ _ _ _ _ _ r h => by simp [tasks_clock.j0] at h
 | k + 1 => by
  have ih0 := tasks_clock.zma k
  ·intro y0 y1 y2 y3 y4 y5 y6 y7 y8
   unfold tasks_clock.j0
   repeat' first
   | (with_reducible exact ih0 _ _ _ _ _ _ _ _ _)
   | (with_reducible exact LeO.refl _)
   | (with_reducible exact LeO.none _)
   | (with_reducible refine LeO.ite ?_ ?_)
   | (with_reducible refine LeO.bind ?_ (fun _ => ?_))
   | exact ih0 _ _ _ _ _ _ _ _ _
   | exact LeO.none _
   | refine LeO.ite ?_ ?_
   | refine LeO.bind ?_ (fun _ => ?_)
theorem tasks_clock.mono : ∀ a0 a1 a2 a3 a4 a5 a6 a7 k, LeO (tasks_clock.f k a0 a1 a2 a3 a4 a5 a6 a7) (tasks_clock.f (k + 1) a0 a1 a2 a3 a4 a5 a6 a7) := by
 intro a0 a1 a2 a3 a4 a5 a6 a7 k
 have ih0 := tasks_clock.zma k
 unfold tasks_clock.f
 repeat' first
   | (with_reducible exact ih0 _ _ _ _ _ _ _ _ _)
   | (with_reducible exact LeO.refl _)
   | (with_reducible exact LeO.none _)
   | (with_reducible refine LeO.ite ?_ ?_)
   | (with_reducible refine LeO.bind ?_ (fun _ => ?_))
   | exact ih0 _ _ _ _ _ _ _ _ _
   | exact LeO.none _
   | refine LeO.ite ?_ ?_
   | refine LeO.bind ?_ (fun _ => ?_)
theorem tasks_clock.calls (k : Nat) (a0_0 : Int) (a0_1 : Int) (a0_2 : Int) (A0_3 : Option Addr) (c0_3 : Nat) (l0_3 : List (S70)) (A0_4 : Option Addr) (c0_4 : Nat) (l0_4 : List (S70)) (a0_5 : Int) (A1 : Option Addr) (c1 : Nat) (l1 : List (S78)) (A2 : Option Addr) (c2 : Nat) (l2 : List (S68)) (r1 : Int) (r2 : Int) (r3 : Bool) (w : World) (hr0_3 : Kd.C k70 w A0_3 l0_3.length l0_3) (hc0_3 : l0_3.length ≤ c0_3) (hr0_4 : Kd.C k70 w A0_4 l0_4.length l0_4) (hc0_4 : l0_4.length ≤ c0_4) (hr1 : Kd.C k78 w A1 l1.length l1) (hc1 : l1.length ≤ c1) (hr2 : Kd.C k68 w A2 l2.length l2) (hc2 : l2.length ≤ c2) (h : tasks_clock.f k a0_0 a0_1 a0_2 l0_3 l0_4 a0_5 l1 l2 = some (r1, r2, true)) :
  Calls Tryz.prog 90 #[.agg #[.int .u8 a0_0, .int .i64 a0_1, .int .i64 a0_2, .slice A0_3 l0_3.length c0_3, .slice A0_4 l0_4.length c0_4, .int .i64 a0_5], .slice A1 l1.length c1, .slice A2 l2.length c2] w fun e w' => e = .returned (.tuple #[.agg #[.int .i64 r1, .int .i64 r2], .bool true]) ∧ Below w.heap.size w w' := by
 have hu75 := Tryz.underlying75
 have hu68 := Tryz.underlying68
 have HR0_3 := zb.mk hr0_3
 have HC0_3 := zb.mk hc0_3
 clear hr0_3 hc0_3
 have HR0_4 := zb.mk hr0_4
 have HC0_4 := zb.mk hc0_4
 clear hr0_4 hc0_4
 have HR1 := zb.mk hr1
 have HC1 := zb.mk hc1
 clear hr1 hc1
 have HR2 := zb.mk hr2
 have HC2 := zb.mk hc2
 clear hr2 hc2
 have HB := zb.mk (Below.refl w.heap.size w)
 have H : (if a0_0 = 1 then (if a0_1 ≥ 0 then (if a0_1 < (l2.length : Int) then (tasks_clock.j0 k l1 l2 (a0_2 == 0) a0_0 a0_1 a0_2 l0_3 l0_4 a0_5) else (tasks_clock.j0 k l1 l2 false a0_0 a0_1 a0_2 l0_3 l0_4 a0_5)) else (tasks_clock.j0 k l1 l2 false a0_0 a0_1 a0_2 l0_3 l0_4 a0_5)) else (tasks_clock.j0 k l1 l2 false a0_0 a0_1 a0_2 l0_3 l0_4 a0_5)) = some (r1, r2, true) := h
 clear h
 have HC4 := zb.mk H
 clear H
 go_enter Tryz.func90, Tryz.ntmps90
 go_upto_region 1 with (first | ((with_reducible refine zda (N := 3) rfl ?_); (try (refine zta (by rfl) ?_; dsimp only)); refine zaa ?hg (N := 3) ?hd (cs := #[.int .u8 a0_0, .int .i64 a0_1, .int .i64 a0_2, .slice A0_3 l0_3.length c0_3, .slice A0_4 l0_4.length c0_4, .int .i64 a0_5]) (t := 75) ?hr ?_; (case hd => rfl); (case hg => rfl); (case hr => first | (go_simp; done) | (go_simp; rfl)); intro gb197 hg w5 hbox hb; have n0_ := zb.mk (zo (by repeat with_reducible first | exact HB.out | apply zd | apply za | apply ze) hb); have n1_ := zb.mk (hbox); have n2_ := zb.mk ((by rw [hg]; exact (zn (by repeat with_reducible first | exact HB.out | apply zd | apply za | apply ze)) : w.heap.size ≤ gb197)); have n3_ := zb.mk ((by rw [hg]; exact (zn (by repeat with_reducible first | exact HB.out | apply zd | apply za | apply ze)) : w.heap.size ≤ gb197)); clear HB; have HB := n0_; have BK197 := n1_; have GW197 := n2_; have GE197 := n3_; clear n0_ n1_ n2_ n3_; clear hb hbox hg) | ((with_reducible refine zda (N := 6) rfl ?_); (try (refine zta (by rfl) ?_; dsimp only)); refine zaa ?hg (N := 6) ?hd (cs := #[.int .i64 0, .int .i64 0]) (t := 68) ?hr ?_; (case hd => rfl); (case hg => rfl); (case hr => first | (go_simp; done) | (go_simp; rfl)); intro gb198 hg w6 hbox hb; have n0_ := zb.mk (zr (g := gb197) (o := .cells #[.int .u8 a0_0, .int .i64 a0_1, .int .i64 a0_2, .slice A0_3 l0_3.length c0_3, .slice A0_4 l0_4.length c0_4, .int .i64 a0_5] 75 (0, 0)) (by (with_reducible repeat first | apply zi | apply zl | apply zh); exact BK197.out) hb); have n1_ := zb.mk (zo (by repeat with_reducible first | exact HB.out | apply zd | apply za | apply ze | refine zk ?_ GE197.out) hb); have n2_ := zb.mk (hbox); have n3_ := zb.mk ((by rw [hg]; exact (zn (by repeat with_reducible first | exact HB.out | apply zd | apply za | apply ze | refine zk ?_ GE197.out)) : w.heap.size ≤ gb198)); have n4_ := zb.mk ((by rw [hg]; exact (zn (by repeat with_reducible first | exact HB.out | apply zd | apply za | apply ze | refine zk ?_ GE197.out)) : w.heap.size ≤ gb198)); have n5_ := zb.mk ((by rw [hg]; exact Nat.ne_of_lt (zja (g := gb197) (o := .cells #[.int .u8 a0_0, .int .i64 a0_1, .int .i64 a0_2, .slice A0_3 l0_3.length c0_3, .slice A0_4 l0_4.length c0_4, .int .i64 a0_5] 75 (0, 0)) (by (with_reducible repeat first | apply zi | apply zl | apply zh); exact BK197.out)) : gb197 ≠ gb198)); have n6_ := zb.mk ((by rw [hg]; exact Nat.ne_of_gt (zja (g := gb197) (o := .cells #[.int .u8 a0_0, .int .i64 a0_1, .int .i64 a0_2, .slice A0_3 l0_3.length c0_3, .slice A0_4 l0_4.length c0_4, .int .i64 a0_5] 75 (0, 0)) (by (with_reducible repeat first | apply zi | apply zl | apply zh); exact BK197.out)) : gb198 ≠ gb197)); clear BK197; clear HB; have BK197 := n0_; have HB := n1_; have BK198 := n2_; have GW198 := n3_; have GE198 := n4_; have NB197_198 := n5_; have NB198_197 := n6_; clear n0_ n1_ n2_ n3_ n4_ n5_ n6_; clear hb hbox hg))
 repeat (go_quiet (first | ((with_reducible refine zda (N := 3) rfl ?_); (try (refine zta (by rfl) ?_; dsimp only)); refine zaa ?hg (N := 3) ?hd (cs := #[.int .u8 a0_0, .int .i64 a0_1, .int .i64 a0_2, .slice A0_3 l0_3.length c0_3, .slice A0_4 l0_4.length c0_4, .int .i64 a0_5]) (t := 75) ?hr ?_; (case hd => rfl); (case hg => rfl); (case hr => first | (go_simp; done) | (go_simp; rfl)); intro gb197 hg w5 hbox hb; have n0_ := zb.mk (zo (by repeat with_reducible first | exact HB.out | apply zd | apply za | apply ze) hb); have n1_ := zb.mk (hbox); have n2_ := zb.mk ((by rw [hg]; exact (zn (by repeat with_reducible first | exact HB.out | apply zd | apply za | apply ze)) : w.heap.size ≤ gb197)); have n3_ := zb.mk ((by rw [hg]; exact (zn (by repeat with_reducible first | exact HB.out | apply zd | apply za | apply ze)) : w.heap.size ≤ gb197)); clear HB; have HB := n0_; have BK197 := n1_; have GW197 := n2_; have GE197 := n3_; clear n0_ n1_ n2_ n3_; clear hb hbox hg) | ((with_reducible refine zda (N := 6) rfl ?_); (try (refine zta (by rfl) ?_; dsimp only)); refine zaa ?hg (N := 6) ?hd (cs := #[.int .i64 0, .int .i64 0]) (t := 68) ?hr ?_; (case hd => rfl); (case hg => rfl); (case hr => first | (go_simp; done) | (go_simp; rfl)); intro gb198 hg w6 hbox hb; have n0_ := zb.mk (zr (g := gb197) (o := .cells #[.int .u8 a0_0, .int .i64 a0_1, .int .i64 a0_2, .slice A0_3 l0_3.length c0_3, .slice A0_4 l0_4.length c0_4, .int .i64 a0_5] 75 (0, 0)) (by (with_reducible repeat first | apply zi | apply zl | apply zh); exact BK197.out) hb); have n1_ := zb.mk (zo (by repeat with_reducible first | exact HB.out | apply zd | apply za | apply ze | refine zk ?_ GE197.out) hb); have n2_ := zb.mk (hbox); have n3_ := zb.mk ((by rw [hg]; exact (zn (by repeat with_reducible first | exact HB.out | apply zd | apply za | apply ze | refine zk ?_ GE197.out)) : w.heap.size ≤ gb198)); have n4_ := zb.mk ((by rw [hg]; exact (zn (by repeat with_reducible first | exact HB.out | apply zd | apply za | apply ze | refine zk ?_ GE197.out)) : w.heap.size ≤ gb198)); have n5_ := zb.mk ((by rw [hg]; exact Nat.ne_of_lt (zja (g := gb197) (o := .cells #[.int .u8 a0_0, .int .i64 a0_1, .int .i64 a0_2, .slice A0_3 l0_3.length c0_3, .slice A0_4 l0_4.length c0_4, .int .i64 a0_5] 75 (0, 0)) (by (with_reducible repeat first | apply zi | apply zl | apply zh); exact BK197.out)) : gb197 ≠ gb198)); have n6_ := zb.mk ((by rw [hg]; exact Nat.ne_of_gt (zja (g := gb197) (o := .cells #[.int .u8 a0_0, .int .i64 a0_1, .int .i64 a0_2, .slice A0_3 l0_3.length c0_3, .slice A0_4 l0_4.length c0_4, .int .i64 a0_5] 75 (0, 0)) (by (with_reducible repeat first | apply zi | apply zl | apply zh); exact BK197.out)) : gb198 ≠ gb197)); clear BK197; clear HB; have BK197 := n0_; have HB := n1_; have BK198 := n2_; have GW198 := n3_; have GE198 := n4_; have NB197_198 := n5_; have NB198_197 := n6_; clear n0_ n1_ n2_ n3_ n4_ n5_ n6_; clear hb hbox hg)); go_upto_region 1 with (first | ((with_reducible refine zda (N := 3) rfl ?_); (try (refine zta (by rfl) ?_; dsimp only)); refine zaa ?hg (N := 3) ?hd (cs := #[.int .u8 a0_0, .int .i64 a0_1, .int .i64 a0_2, .slice A0_3 l0_3.length c0_3, .slice A0_4 l0_4.length c0_4, .int .i64 a0_5]) (t := 75) ?hr ?_; (case hd => rfl); (case hg => rfl); (case hr => first | (go_simp; done) | (go_simp; rfl)); intro gb197 hg w5 hbox hb; have n0_ := zb.mk (zo (by repeat with_reducible first | exact HB.out | apply zd | apply za | apply ze) hb); have n1_ := zb.mk (hbox); have n2_ := zb.mk ((by rw [hg]; exact (zn (by repeat with_reducible first | exact HB.out | apply zd | apply za | apply ze)) : w.heap.size ≤ gb197)); have n3_ := zb.mk ((by rw [hg]; exact (zn (by repeat with_reducible first | exact HB.out | apply zd | apply za | apply ze)) : w.heap.size ≤ gb197)); clear HB; have HB := n0_; have BK197 := n1_; have GW197 := n2_; have GE197 := n3_; clear n0_ n1_ n2_ n3_; clear hb hbox hg) | ((with_reducible refine zda (N := 6) rfl ?_); (try (refine zta (by rfl) ?_; dsimp only)); refine zaa ?hg (N := 6) ?hd (cs := #[.int .i64 0, .int .i64 0]) (t := 68) ?hr ?_; (case hd => rfl); (case hg => rfl); (case hr => first | (go_simp; done) | (go_simp; rfl)); intro gb198 hg w6 hbox hb; have n0_ := zb.mk (zr (g := gb197) (o := .cells #[.int .u8 a0_0, .int .i64 a0_1, .int .i64 a0_2, .slice A0_3 l0_3.length c0_3, .slice A0_4 l0_4.length c0_4, .int .i64 a0_5] 75 (0, 0)) (by (with_reducible repeat first | apply zi | apply zl | apply zh); exact BK197.out) hb); have n1_ := zb.mk (zo (by repeat with_reducible first | exact HB.out | apply zd | apply za | apply ze | refine zk ?_ GE197.out) hb); have n2_ := zb.mk (hbox); have n3_ := zb.mk ((by rw [hg]; exact (zn (by repeat with_reducible first | exact HB.out | apply zd | apply za | apply ze | refine zk ?_ GE197.out)) : w.heap.size ≤ gb198)); have n4_ := zb.mk ((by rw [hg]; exact (zn (by repeat with_reducible first | exact HB.out | apply zd | apply za | apply ze | refine zk ?_ GE197.out)) : w.heap.size ≤ gb198)); have n5_ := zb.mk ((by rw [hg]; exact Nat.ne_of_lt (zja (g := gb197) (o := .cells #[.int .u8 a0_0, .int .i64 a0_1, .int .i64 a0_2, .slice A0_3 l0_3.length c0_3, .slice A0_4 l0_4.length c0_4, .int .i64 a0_5] 75 (0, 0)) (by (with_reducible repeat first | apply zi | apply zl | apply zh); exact BK197.out)) : gb197 ≠ gb198)); have n6_ := zb.mk ((by rw [hg]; exact Nat.ne_of_gt (zja (g := gb197) (o := .cells #[.int .u8 a0_0, .int .i64 a0_1, .int .i64 a0_2, .slice A0_3 l0_3.length c0_3, .slice A0_4 l0_4.length c0_4, .int .i64 a0_5] 75 (0, 0)) (by (with_reducible repeat first | apply zi | apply zl | apply zh); exact BK197.out)) : gb198 ≠ gb197)); clear BK197; clear HB; have BK197 := n0_; have HB := n1_; have BK198 := n2_; have GW198 := n3_; have GE198 := n4_; have NB197_198 := n5_; have NB198_197 := n6_; clear n0_ n1_ n2_ n3_ n4_ n5_ n6_; clear hb hbox hg)))
 (try simp only [Act.put, List.setIfInBounds_toArray, List.set_cons_zero, List.set_cons_succ])
 go_cut [8] (fun v8 wc => ∃ (kq : Nat) (x8_3 : Bool), v8 = .bool x8_3 ∧ zb (tasks_clock.j0 kq l1 l2 x8_3 a0_0 a0_1 a0_2 l0_3 l0_4 a0_5 = some (r1, r2, true)) ∧ zb (kq ≤ k) ∧ zb (wc.heap[gb197]? = some (.cells #[.int .u8 a0_0, .int .i64 a0_1, .int .i64 a0_2, (.slice A0_3 l0_3.length c0_3), (.slice A0_4 l0_4.length c0_4), .int .i64 a0_5] 75 (0, 0))) ∧ zb (wc.heap[gb198]? = some (.cells #[.int .i64 0, .int .i64 0] 68 (0, 0))) ∧ zb (Below w.heap.size w wc))
 case first =>
  have H := HC4.out
  clear HC4
  by_cases c7 : a0_0 = 1
  ·rw [if_pos c7] at H
   have c7b0 : (a0_0 == 1) = true := beq_iff_eq.mpr c7
   have c7b1 : (a0_0 != 1) = false := bne_eq_false_iff_eq.mpr c7
   clear c7
   (first | rw [c7b0] | (simp only [i64_w, i32_w]; rw [c7b0]) | skip)
   by_cases c8 : a0_1 ≥ 0
   ·rw [if_pos c8] at H
    have c8b0 : decide (0 ≤ a0_1) = true := decide_eq_true c8
    clear c8
    by_cases c9 : a0_1 < (l2.length : Int)
    ·rw [if_pos c9] at H
     have c9b0 : decide (a0_1 < (l2.length : Int)) = true := decide_eq_true c9
     clear c9
     have H' := zb.mk H
     clear H
     have hnb10 := NB197_198.out
     have hnc10 := NB198_197.out
     have hcz11_0 : w6.cell? ⟨gb197, 0, none⟩ = some (.int .u8 a0_0) := (zg BK197.out 0).trans rfl
     have hcz11_1 : w6.cell? ⟨gb197, 1, none⟩ = some (.int .i64 a0_1) := (zg BK197.out 1).trans rfl
     have hcz11_2 : w6.cell? ⟨gb197, 2, none⟩ = some (.int .i64 a0_2) := (zg BK197.out 2).trans rfl
     have hcz11_3 : w6.cell? ⟨gb197, 3, none⟩ = some (.slice A0_3 l0_3.length c0_3) := (zg BK197.out 3).trans rfl
     have hcz11_4 : w6.cell? ⟨gb197, 4, none⟩ = some (.slice A0_4 l0_4.length c0_4) := (zg BK197.out 4).trans rfl
     have hcz11_5 : w6.cell? ⟨gb197, 5, none⟩ = some (.int .i64 a0_5) := (zg BK197.out 5).trans rfl
     have hfz11_0 := zf BK197.out 0
     have hfz11_1 := zf BK197.out 1
     have hfz11_2 := zf BK197.out 2
     have hfz11_3 := zf BK197.out 3
     have hfz11_4 := zf BK197.out 4
     have hfz11_5 := zf BK197.out 5
     go_wp2
     repeat (go_quiet (fail); try go_wp2)
     go_meet
     case rel => exact ⟨_, ((a0_2 == 0)), (by first | rfl | (simp; done) | (simp [*]; done)), H', ⟨by first | omega | exact Nat.le_refl _⟩, ⟨by (with_reducible repeat first | apply zi | apply zl | apply zh); exact BK197.out⟩, ⟨by (with_reducible repeat first | apply zi | apply zl | apply zh); exact BK198.out⟩, ⟨by repeat with_reducible first | exact HB.out | apply zd | apply za | apply ze | refine zk ?_ GE197.out | refine zk ?_ GE198.out⟩⟩
    ·rw [if_neg c9] at H
     have c9b0 : decide (a0_1 < (l2.length : Int)) = false := decide_eq_false c9
     clear c9
     have H' := zb.mk H
     clear H
     have hnb12 := NB197_198.out
     have hnc12 := NB198_197.out
     have hcz13_0 : w6.cell? ⟨gb197, 0, none⟩ = some (.int .u8 a0_0) := (zg BK197.out 0).trans rfl
     have hcz13_1 : w6.cell? ⟨gb197, 1, none⟩ = some (.int .i64 a0_1) := (zg BK197.out 1).trans rfl
     have hcz13_2 : w6.cell? ⟨gb197, 2, none⟩ = some (.int .i64 a0_2) := (zg BK197.out 2).trans rfl
     have hcz13_3 : w6.cell? ⟨gb197, 3, none⟩ = some (.slice A0_3 l0_3.length c0_3) := (zg BK197.out 3).trans rfl
     have hcz13_4 : w6.cell? ⟨gb197, 4, none⟩ = some (.slice A0_4 l0_4.length c0_4) := (zg BK197.out 4).trans rfl
     have hcz13_5 : w6.cell? ⟨gb197, 5, none⟩ = some (.int .i64 a0_5) := (zg BK197.out 5).trans rfl
     have hfz13_0 := zf BK197.out 0
     have hfz13_1 := zf BK197.out 1
     have hfz13_2 := zf BK197.out 2
     have hfz13_3 := zf BK197.out 3
     have hfz13_4 := zf BK197.out 4
     have hfz13_5 := zf BK197.out 5
     go_wp2
     repeat (go_quiet (fail); try go_wp2)
     go_meet
     case rel => exact ⟨_, (false), (by first | rfl | (simp; done) | (simp [*]; done)), H', ⟨by first | omega | exact Nat.le_refl _⟩, ⟨by (with_reducible repeat first | apply zi | apply zl | apply zh); exact BK197.out⟩, ⟨by (with_reducible repeat first | apply zi | apply zl | apply zh); exact BK198.out⟩, ⟨by repeat with_reducible first | exact HB.out | apply zd | apply za | apply ze | refine zk ?_ GE197.out | refine zk ?_ GE198.out⟩⟩
   ·rw [if_neg c8] at H
    have c8b0 : decide (0 ≤ a0_1) = false := decide_eq_false c8
    clear c8
    have H' := zb.mk H
    clear H
    have hnb14 := NB197_198.out
    have hnc14 := NB198_197.out
    have hcz15_0 : w6.cell? ⟨gb197, 0, none⟩ = some (.int .u8 a0_0) := (zg BK197.out 0).trans rfl
    have hcz15_1 : w6.cell? ⟨gb197, 1, none⟩ = some (.int .i64 a0_1) := (zg BK197.out 1).trans rfl
    have hcz15_2 : w6.cell? ⟨gb197, 2, none⟩ = some (.int .i64 a0_2) := (zg BK197.out 2).trans rfl
    have hcz15_3 : w6.cell? ⟨gb197, 3, none⟩ = some (.slice A0_3 l0_3.length c0_3) := (zg BK197.out 3).trans rfl
    have hcz15_4 : w6.cell? ⟨gb197, 4, none⟩ = some (.slice A0_4 l0_4.length c0_4) := (zg BK197.out 4).trans rfl
    have hcz15_5 : w6.cell? ⟨gb197, 5, none⟩ = some (.int .i64 a0_5) := (zg BK197.out 5).trans rfl
    have hfz15_0 := zf BK197.out 0
    have hfz15_1 := zf BK197.out 1
    have hfz15_2 := zf BK197.out 2
    have hfz15_3 := zf BK197.out 3
    have hfz15_4 := zf BK197.out 4
    have hfz15_5 := zf BK197.out 5
    go_wp2
    repeat (go_quiet (fail); try go_wp2)
    go_meet
    case rel => exact ⟨_, (false), (by first | rfl | (simp; done) | (simp [*]; done)), H', ⟨by first | omega | exact Nat.le_refl _⟩, ⟨by (with_reducible repeat first | apply zi | apply zl | apply zh); exact BK197.out⟩, ⟨by (with_reducible repeat first | apply zi | apply zl | apply zh); exact BK198.out⟩, ⟨by repeat with_reducible first | exact HB.out | apply zd | apply za | apply ze | refine zk ?_ GE197.out | refine zk ?_ GE198.out⟩⟩
  ·rw [if_neg c7] at H
   have c7b0 : (a0_0 == 1) = false := beq_eq_false_iff_ne.mpr c7
   have c7b1 : (a0_0 != 1) = true := bne_iff_ne.mpr c7
   (first | rw [c7b0] | (simp only [i64_w, i32_w]; rw [c7b0]) | skip)
   have H' := zb.mk H
   clear H
   have hnb16 := NB197_198.out
   have hnc16 := NB198_197.out
   have hcz17_0 : w6.cell? ⟨gb197, 0, none⟩ = some (.int .u8 a0_0) := (zg BK197.out 0).trans rfl
   have hcz17_1 : w6.cell? ⟨gb197, 1, none⟩ = some (.int .i64 a0_1) := (zg BK197.out 1).trans rfl
   have hcz17_2 : w6.cell? ⟨gb197, 2, none⟩ = some (.int .i64 a0_2) := (zg BK197.out 2).trans rfl
   have hcz17_3 : w6.cell? ⟨gb197, 3, none⟩ = some (.slice A0_3 l0_3.length c0_3) := (zg BK197.out 3).trans rfl
   have hcz17_4 : w6.cell? ⟨gb197, 4, none⟩ = some (.slice A0_4 l0_4.length c0_4) := (zg BK197.out 4).trans rfl
   have hcz17_5 : w6.cell? ⟨gb197, 5, none⟩ = some (.int .i64 a0_5) := (zg BK197.out 5).trans rfl
   have hfz17_0 := zf BK197.out 0
   have hfz17_1 := zf BK197.out 1
   have hfz17_2 := zf BK197.out 2
   have hfz17_3 := zf BK197.out 3
   have hfz17_4 := zf BK197.out 4
   have hfz17_5 := zf BK197.out 5
   go_wp2
   repeat (go_quiet (fail); try go_wp2)
   go_meet
   case rel => exact ⟨_, (false), (by first | rfl | (simp; done) | (simp [*]; done)), H', ⟨by first | omega | exact Nat.le_refl _⟩, ⟨by (with_reducible repeat first | apply zi | apply zl | apply zh); exact BK197.out⟩, ⟨by (with_reducible repeat first | apply zi | apply zl | apply zh); exact BK198.out⟩, ⟨by repeat with_reducible first | exact HB.out | apply zd | apply za | apply ze | refine zk ?_ GE197.out | refine zk ?_ GE198.out⟩⟩
 case rest =>
  clear HC4
  try clear c1
  try clear c2
  try clear p2
  try clear c7
  try clear c7b0
  try clear c7b1
  try clear c8
  try clear c8b0
  try clear c9
  try clear c9b0
  try clear c10
  try clear c12
  try clear c14
  try clear c16
  try clear hcz11_0
  try clear hcz11_1
  try clear hcz11_2
  try clear hcz11_3
  try clear hcz11_4
  try clear hcz11_5
  try clear hcz13_0
  try clear hcz13_1
  try clear hcz13_2
  try clear hcz13_3
  try clear hcz13_4
  try clear hcz13_5
  try clear hcz15_0
  try clear hcz15_1
  try clear hcz15_2
  try clear hcz15_3
  try clear hcz15_4
  try clear hcz15_5
  try clear hcz17_0
  try clear hcz17_1
  try clear hcz17_2
  try clear hcz17_3
  try clear hcz17_4
  try clear hcz17_5
  try clear hfz11_0
  try clear hfz11_1
  try clear hfz11_2
  try clear hfz11_3
  try clear hfz11_4
  try clear hfz11_5
  try clear hfz13_0
  try clear hfz13_1
  try clear hfz13_2
  try clear hfz13_3
  try clear hfz13_4
  try clear hfz13_5
  try clear hfz15_0
  try clear hfz15_1
  try clear hfz15_2
  try clear hfz15_3
  try clear hfz15_4
  try clear hfz15_5
  try clear hfz17_0
  try clear hfz17_1
  try clear hfz17_2
  try clear hfz17_3
  try clear hfz17_4
  try clear hfz17_5
  obtain ⟨kq, x8_3, rfl, HA, HJ3, BK197, BK198, HB⟩ := hcut
  cases kq with
  | zero => exact absurd HA.out (by simp [tasks_clock.j0])
  | succ kj3 =>
   have H := HA.out
   clear HA
   simp only [tasks_clock.j0] at H
   by_cases c18 : x8_3 = true
   ·subst c18
    have H1 : (if 0 ≤ a0_1 then (if a0_1 < (l2.length : Int) then (some ((zbb l2 a0_1).f0, (zbb l2 a0_1).f1, true)) else (none)) else (none)) = some (r1, r2, true) := by rw [if_pos rfl] at H; exact H
    clear H
    have H := H1
    clear H1
    by_cases c19 : 0 ≤ a0_1
    ·rw [if_pos c19] at H
     have c19b0 : decide (0 ≤ a0_1) = true := decide_eq_true c19
     clear c19
     by_cases c20 : a0_1 < (l2.length : Int)
     ·rw [if_pos c20] at H
      have c20b0 : decide (a0_1 < (l2.length : Int)) = true := decide_eq_true c20
      clear c20
      simp at H
      obtain ⟨rfl, rfl⟩ := H
      have hnb21 := NB197_198.out
      have hnc21 := NB198_197.out
      have hcz22_0 : wc.cell? ⟨gb197, 0, none⟩ = some (.int .u8 a0_0) := (zg BK197.out 0).trans rfl
      have hcz22_1 : wc.cell? ⟨gb197, 1, none⟩ = some (.int .i64 a0_1) := (zg BK197.out 1).trans rfl
      have hcz22_2 : wc.cell? ⟨gb197, 2, none⟩ = some (.int .i64 a0_2) := (zg BK197.out 2).trans rfl
      have hcz22_3 : wc.cell? ⟨gb197, 3, none⟩ = some (.slice A0_3 l0_3.length c0_3) := (zg BK197.out 3).trans rfl
      have hcz22_4 : wc.cell? ⟨gb197, 4, none⟩ = some (.slice A0_4 l0_4.length c0_4) := (zg BK197.out 4).trans rfl
      have hcz22_5 : wc.cell? ⟨gb197, 5, none⟩ = some (.int .i64 a0_5) := (zg BK197.out 5).trans rfl
      have hfz22_0 := zf BK197.out 0
      have hfz22_1 := zf BK197.out 1
      have hfz22_2 := zf BK197.out 2
      have hfz22_3 := zf BK197.out 3
      have hfz22_4 := zf BK197.out 4
      have hfz22_5 := zf BK197.out 5
      have p199 : 0 ≤ (a0_1 : Int) := of_decide_eq_true (by first | (with_reducible assumption) | assumption)
      have q199 : a0_1 < (l2.length : Int) := of_decide_eq_true (by first | (with_reducible assumption) | assumption)
      obtain ⟨ad199, e199, hx199_0, hx199_1⟩ := at_T68 HR2.out a0_1 p199 q199
      cases e199
      replace hx199_0 := (HB.out.cell (World.block_lt_of_cell? w _ hx199_0)).trans hx199_0
      replace hx199_1 := (HB.out.cell (World.block_lt_of_cell? w _ hx199_1)).trans hx199_1
      replace p199 := eq_true p199
      replace q199 := eq_true q199
      have hcz23_0 : wc.cell? ⟨gb198, 0, none⟩ = some (.int .i64 0) := (zg BK198.out 0).trans rfl
      have hcz23_1 : wc.cell? ⟨gb198, 1, none⟩ = some (.int .i64 0) := (zg BK198.out 1).trans rfl
      have hfz23_0 := zf BK198.out 0
      have hfz23_1 := zf BK198.out 1
      go_wp2
      repeat (go_quiet (fail); try go_wp2)
      refine bodyPost_ret (results_ct rfl _ _ gb198 68 #[.int .i64 ((zbb l2 a0_1).f0), .int .i64 ((zbb l2 a0_1).f1)] (0, 0) _ rfl (by (with_reducible repeat first | apply zi | apply zl | apply zh); refine zba (cs := #[.int .i64 ((zbb l2 a0_1).f0), .int .i64 0]) ?_ 1 _ rfl; (with_reducible repeat first | apply zi | apply zl | apply zh); refine zba (cs := #[.int .i64 0, .int .i64 0]) ?_ 0 _ rfl; (with_reducible repeat first | apply zi | apply zl | apply zh); exact BK198.out) Tryz.underlying68 rfl (by kernel_rfl)) rfl ?_
      exact ⟨by first | rfl | (simp [zp, zq] <;> rfl) | (simp [*, zp, zq] <;> rfl), by repeat with_reducible first | exact HB.out | apply zd | apply za | apply ze | refine zk ?_ GE197.out | refine zk ?_ GE198.out⟩
     ·rw [if_neg c20] at H
      exact absurd H (by simp)
    ·rw [if_neg c19] at H
     exact absurd H (by simp)
   ·replace c18 := Bool.eq_false_iff.mpr c18
    subst c18
    have H1 : (if a0_0 = 2 then (if a0_1 ≥ 0 then (if a0_1 < (l1.length : Int) then (if a0_2 ≥ 0 then (if 0 ≤ a0_1 then (if a0_2 < ((zj l1 a0_1).f5) then (some ((zj l1 a0_1).f0.f0, (zj l1 a0_1).f0.f1, true)) else (some (0, 0, false))) else (none)) else (some (0, 0, false))) else (some (0, 0, false))) else (some (0, 0, false))) else (some (0, 0, false))) = some (r1, r2, true) := by rw [if_neg (show ¬ (false = true) by decide)] at H; exact H
    clear H
    have H := H1
    clear H1
    by_cases c24 : a0_0 = 2
    ·rw [if_pos c24] at H
     have c24b0 : (a0_0 == 2) = true := beq_iff_eq.mpr c24
     have c24b1 : (a0_0 != 2) = false := bne_eq_false_iff_eq.mpr c24
     clear c24
     by_cases c25 : a0_1 ≥ 0
     ·rw [if_pos c25] at H
      have c25b0 : decide (0 ≤ a0_1) = true := decide_eq_true c25
      clear c25
      by_cases c26 : a0_1 < (l1.length : Int)
      ·rw [if_pos c26] at H
       have c26b0 : decide (a0_1 < (l1.length : Int)) = true := decide_eq_true c26
       clear c26
       by_cases c27 : a0_2 ≥ 0
       ·rw [if_pos c27] at H
        have c27b0 : decide (0 ≤ a0_2) = true := decide_eq_true c27
        clear c27
        by_cases c28 : 0 ≤ a0_1
        ·rw [if_pos c28] at H
         have c28b0 : decide (0 ≤ a0_1) = true := decide_eq_true c28
         clear c28
         by_cases c29 : a0_2 < ((zj l1 a0_1).f5)
         ·rw [if_pos c29] at H
          have c29b0 : decide (a0_2 < ((zj l1 a0_1).f5)) = true := decide_eq_true c29
          clear c29
          simp at H
          obtain ⟨rfl, rfl⟩ := H
          have hnb30 := NB197_198.out
          have hnc30 := NB198_197.out
          have hcz31_0 : wc.cell? ⟨gb197, 0, none⟩ = some (.int .u8 a0_0) := (zg BK197.out 0).trans rfl
          have hcz31_1 : wc.cell? ⟨gb197, 1, none⟩ = some (.int .i64 a0_1) := (zg BK197.out 1).trans rfl
          have hcz31_2 : wc.cell? ⟨gb197, 2, none⟩ = some (.int .i64 a0_2) := (zg BK197.out 2).trans rfl
          have hcz31_3 : wc.cell? ⟨gb197, 3, none⟩ = some (.slice A0_3 l0_3.length c0_3) := (zg BK197.out 3).trans rfl
          have hcz31_4 : wc.cell? ⟨gb197, 4, none⟩ = some (.slice A0_4 l0_4.length c0_4) := (zg BK197.out 4).trans rfl
          have hcz31_5 : wc.cell? ⟨gb197, 5, none⟩ = some (.int .i64 a0_5) := (zg BK197.out 5).trans rfl
          have hfz31_0 := zf BK197.out 0
          have hfz31_1 := zf BK197.out 1
          have hfz31_2 := zf BK197.out 2
          have hfz31_3 := zf BK197.out 3
          have hfz31_4 := zf BK197.out 4
          have hfz31_5 := zf BK197.out 5
          have p200 : 0 ≤ (a0_1 : Int) := of_decide_eq_true (by first | (with_reducible assumption) | assumption)
          have q200 : a0_1 < (l1.length : Int) := of_decide_eq_true (by first | (with_reducible assumption) | assumption)
          obtain ⟨ad200, A200_5, c200_5, e200, hx200_0, hx200_1, hx200_2, hx200_3, hx200_4, hx200_5, hx200_6, hl200_5, hi200_5⟩ := zeb HR1.out a0_1 p200 q200
          cases e200
          replace hx200_0 := (HB.out.cell (World.block_lt_of_cell? w _ hx200_0)).trans hx200_0
          replace hx200_1 := (HB.out.cell (World.block_lt_of_cell? w _ hx200_1)).trans hx200_1
          replace hx200_2 := (HB.out.cell (World.block_lt_of_cell? w _ hx200_2)).trans hx200_2
          replace hx200_3 := (HB.out.cell (World.block_lt_of_cell? w _ hx200_3)).trans hx200_3
          replace hx200_4 := (HB.out.cell (World.block_lt_of_cell? w _ hx200_4)).trans hx200_4
          replace hx200_5 := (HB.out.cell (World.block_lt_of_cell? w _ hx200_5)).trans hx200_5
          replace hx200_6 := (HB.out.cell (World.block_lt_of_cell? w _ hx200_6)).trans hx200_6
          have HR200_5 := zb.mk hi200_5
          have HC200_5 := zb.mk hl200_5
          clear hi200_5 hl200_5
          replace p200 := eq_true p200
          replace q200 := eq_true q200
          have p201 : 0 ≤ (a0_1 : Int) := of_decide_eq_true (by first | (with_reducible assumption) | assumption)
          have q201 : a0_1 < (l1.length : Int) := of_decide_eq_true (by first | (with_reducible assumption) | assumption)
          obtain ⟨ad201, A201_5, c201_5, e201, hx201_0, hx201_1, hx201_2, hx201_3, hx201_4, hx201_5, hx201_6, hl201_5, hi201_5⟩ := zeb HR1.out a0_1 p201 q201
          obtain rfl : ad200 = ad201 := (by injection e201)
          replace hx201_0 := (HB.out.cell (World.block_lt_of_cell? w _ hx201_0)).trans hx201_0
          replace hx201_1 := (HB.out.cell (World.block_lt_of_cell? w _ hx201_1)).trans hx201_1
          replace hx201_2 := (HB.out.cell (World.block_lt_of_cell? w _ hx201_2)).trans hx201_2
          replace hx201_3 := (HB.out.cell (World.block_lt_of_cell? w _ hx201_3)).trans hx201_3
          replace hx201_4 := (HB.out.cell (World.block_lt_of_cell? w _ hx201_4)).trans hx201_4
          replace hx201_5 := (HB.out.cell (World.block_lt_of_cell? w _ hx201_5)).trans hx201_5
          replace hx201_6 := (HB.out.cell (World.block_lt_of_cell? w _ hx201_6)).trans hx201_6
          have HR201_5 := zb.mk hi201_5
          have HC201_5 := zb.mk hl201_5
          clear hi201_5 hl201_5
          replace p201 := eq_true p201
          replace q201 := eq_true q201
          have ea_ := Option.some.inj (hx200_5.symm.trans hx201_5)
          injection ea_ with ea_ en_ ec_
          subst ea_
          subst ec_
          clear en_
          have hcz32_0 : wc.cell? ⟨gb198, 0, none⟩ = some (.int .i64 0) := (zg BK198.out 0).trans rfl
          have hcz32_1 : wc.cell? ⟨gb198, 1, none⟩ = some (.int .i64 0) := (zg BK198.out 1).trans rfl
          have hfz32_0 := zf BK198.out 0
          have hfz32_1 := zf BK198.out 1
          go_wp2
          repeat (go_quiet (fail); try go_wp2)
          refine bodyPost_ret (results_ct rfl _ _ gb198 68 #[.int .i64 ((zj l1 a0_1).f0.f0), .int .i64 ((zj l1 a0_1).f0.f1)] (0, 0) _ rfl (by (with_reducible repeat first | apply zi | apply zl | apply zh); refine zba (cs := #[.int .i64 ((zj l1 a0_1).f0.f0), .int .i64 0]) ?_ 1 _ rfl; (with_reducible repeat first | apply zi | apply zl | apply zh); refine zba (cs := #[.int .i64 0, .int .i64 0]) ?_ 0 _ rfl; (with_reducible repeat first | apply zi | apply zl | apply zh); exact BK198.out) Tryz.underlying68 rfl (by kernel_rfl)) rfl ?_
          exact ⟨by first | rfl | (simp [zp, zq] <;> rfl) | (simp [*, zp, zq] <;> rfl), by repeat with_reducible first | exact HB.out | apply zd | apply za | apply ze | refine zk ?_ GE197.out | refine zk ?_ GE198.out⟩
         ·rw [if_neg c29] at H
          have c29b0 : decide (a0_2 < ((zj l1 a0_1).f5)) = false := decide_eq_false c29
          clear c29
          exact absurd H (by simp)
        ·rw [if_neg c28] at H
         exact absurd H (by simp)
       ·rw [if_neg c27] at H
        have c27b0 : decide (0 ≤ a0_2) = false := decide_eq_false c27
        clear c27
        exact absurd H (by simp)
      ·rw [if_neg c26] at H
       have c26b0 : decide (a0_1 < (l1.length : Int)) = false := decide_eq_false c26
       clear c26
       exact absurd H (by simp)
     ·rw [if_neg c25] at H
      have c25b0 : decide (0 ≤ a0_1) = false := decide_eq_false c25
      clear c25
      exact absurd H (by simp)
    ·rw [if_neg c24] at H
     have c24b0 : (a0_0 == 2) = false := beq_eq_false_iff_ne.mpr c24
     have c24b1 : (a0_0 != 2) = true := bne_iff_ne.mpr c24
     exact absurd H (by simp)
end Go.Proofs.YtfondhcppjkchaaGreat.Q
