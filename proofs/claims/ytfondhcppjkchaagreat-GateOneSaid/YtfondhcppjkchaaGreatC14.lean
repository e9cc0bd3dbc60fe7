import Derived.Test.YtfondhcppjkchaaGreatC3
import Derived.Test.YtfondhcppjkchaaGreatC4
import Derived.Test.YtfondhcppjkchaaGreatC12
import Derived.Test.YtfondhcppjkchaaGreatC13
set_option maxHeartbeats 40000000
set_option maxRecDepth 100000
set_option linter.unusedVariables false
set_option linter.unusedSimpArgs false
namespace Go.Proofs.YtfondhcppjkchaaGreat.Q
noncomputable section
open Go.RowKit Go.Proofs.YtfondhcppjkchaaGreatW.PrintWords Go.Proofs.YtfondhcppjkchaaGreatW.PrintLast Go.Proofs.YtfondhcppjkchaaGreatW.PrintMore
attribute [local go_sem] max2_int min2_int max_two min_two max_three min_three max_four min_four
mutual
def tasks_mayRead.j0 : Nat → Bool → List (S70) → List (S70) → Int → Int → Int → Int → Int → Option (Bool)
 | 0, _, _, _, _, _, _, _, _ => none
 | k + 1, x25, x203000, x203001, x203002, x204000, x204001, x205000, x205001 => if x25 = true then (some false) else ((num_Mul.f k x204000 (x203001.length : Int)).bind fun bt206 => ((num_Mul.f k x205000 x203002).bind fun bt208 => (if bt206.2 = true then (if bt208.2 = true then (tasks_mayRead.j1 k (bt206.1 != bt208.1) x203000 x203001 x203002 x204000 x204001 x205000 x205001) else (tasks_mayRead.j1 k true x203000 x203001 x203002 x204000 x204001 x205000 x205001)) else (tasks_mayRead.j1 k true x203000 x203001 x203002 x204000 x204001 x205000 x205001))))
def tasks_mayRead.j1 : Nat → Bool → List (S70) → List (S70) → Int → Int → Int → Int → Int → Option (Bool)
 | 0, _, _, _, _, _, _, _, _ => none
 | k + 1, x53, x203000, x203001, x203002, x204000, x204001, x205000, x205001 => if x53 = true then (some false) else (tasks_mayRead.l0 k (wrap64 ((x203000.length : Int) + (x203001.length : Int))) 0 x203000 x203001 x203002 x204000 x204001 x205000 x205001)
def tasks_mayRead.l0 : Nat → Int → Int → List (S70) → List (S70) → Int → Int → Int → Int → Int → Option (Bool)
 | 0, _, _, _, _, _, _, _, _, _ => none
 | k + 1, x60, x61, x203000, x203001, x203002, x204000, x204001, x205000, x205001 => if x61 < x60 then ((deps_At.f x203000 x203001 x203002 x61).bind fun bt210 => ((clocks_Date.f k x205000 x205001 bt210.2.2.1).bind fun bt215 => ((clocks_Date.f k x204000 x204001 x61).bind fun bt217 => (if bt210.1 = true then (tasks_mayRead.l0 k x60 (wrap64 (x61 + 1)) x203000 x203001 x203002 x204000 x204001 x205000 x205001) else (if bt215.2 = true then (if bt215.1 > bt217.1 then (some false) else (tasks_mayRead.l0 k x60 (wrap64 (x61 + 1)) x203000 x203001 x203002 x204000 x204001 x205000 x205001)) else (some false)))))) else (some true)
end
def tasks_mayRead.f (k : Nat) (l0_0 : List (S70)) (l0_1 : List (S70)) (a0_2 : Int) (a1_0 : Int) (a1_1 : Int) (a2_0 : Int) (a2_1 : Int) : Option (Bool) := (deps_May.f l0_0 l0_1 a0_2).bind fun t205 => (if t205 = true then (tasks_mayRead.j0 k (decide (a0_2 < 1)) l0_0 l0_1 a0_2 a1_0 a1_1 a2_0 a2_1) else (tasks_mayRead.j0 k true l0_0 l0_1 a0_2 a1_0 a1_1 a2_0 a2_1))
theorem tasks_mayRead.zma : ∀ k, (∀ y0 y1 y2 y3 y4 y5 y6 y7, LeO (tasks_mayRead.j0 k y0 y1 y2 y3 y4 y5 y6 y7) (tasks_mayRead.j0 (k + 1) y0 y1 y2 y3 y4 y5 y6 y7)) ∧ (∀ y0 y1 y2 y3 y4 y5 y6 y7, LeO (tasks_mayRead.j1 k y0 y1 y2 y3 y4 y5 y6 y7) (tasks_mayRead.j1 (k + 1) y0 y1 y2 y3 y4 y5 y6 y7)) ∧ (∀ y0 y1 y2 y3 y4 y5 y6 y7 y8, LeO (tasks_mayRead.l0 k y0 y1 y2 y3 y4 y5 y6 y7 y8) (tasks_mayRead.l0 (k + 1) y0 y1 y2 y3 y4 y5 y6 y7 y8))
 | 0 => ⟨fun _ _ _ _ _ _ _ _ r h => by simp [tasks_mayRead.j0] at h, fun _ _ _ _ _ _ _ _ r h => by simp [tasks_mayRead.j1] at h, fun _ _ _ _ _ _ _ _ _ r h => by simp [tasks_mayRead.l0] at h⟩
 | k + 1 => by
  obtain ⟨ih0, ih1, ih2⟩ := tasks_mayRead.zma k
  refine ⟨?_, ?_, ?_⟩
  ·intro y0 y1 y2 y3 y4 y5 y6 y7
   unfold tasks_mayRead.j0
   repeat' first
   | (with_reducible exact ih0 _ _ _ _ _ _ _ _)
   | (with_reducible exact ih1 _ _ _ _ _ _ _ _)
   | (with_reducible exact ih2 _ _ _ _ _ _ _ _ _)
   | (with_reducible exact clocks_Date.mono _ _ _ _)
   | (with_reducible exact num_Mul.mono _ _ _)
   | (with_reducible exact LeO.refl _)
   | (with_reducible exact LeO.none _)
   | (with_reducible refine LeO.ite ?_ ?_)
   | (with_reducible refine LeO.bind ?_ (fun _ => ?_))
   | exact ih0 _ _ _ _ _ _ _ _
   | exact ih1 _ _ _ _ _ _ _ _
   | exact ih2 _ _ _ _ _ _ _ _ _
   | exact clocks_Date.mono _ _ _ _
   | exact num_Mul.mono _ _ _
   | exact LeO.none _
   | refine LeO.ite ?_ ?_
   | refine LeO.bind ?_ (fun _ => ?_)
  ·intro y0 y1 y2 y3 y4 y5 y6 y7
   unfold tasks_mayRead.j1
   repeat' first
   | (with_reducible exact ih0 _ _ _ _ _ _ _ _)
   | (with_reducible exact ih1 _ _ _ _ _ _ _ _)
   | (with_reducible exact ih2 _ _ _ _ _ _ _ _ _)
   | (with_reducible exact clocks_Date.mono _ _ _ _)
   | (with_reducible exact num_Mul.mono _ _ _)
   | (with_reducible exact LeO.refl _)
   | (with_reducible exact LeO.none _)
   | (with_reducible refine LeO.ite ?_ ?_)
   | (with_reducible refine LeO.bind ?_ (fun _ => ?_))
   | exact ih0 _ _ _ _ _ _ _ _
   | exact ih1 _ _ _ _ _ _ _ _
   | exact ih2 _ _ _ _ _ _ _ _ _
   | exact clocks_Date.mono _ _ _ _
   | exact num_Mul.mono _ _ _
   | exact LeO.none _
   | refine LeO.ite ?_ ?_
   | refine LeO.bind ?_ (fun _ => ?_)
  ·intro y0 y1 y2 y3 y4 y5 y6 y7 y8
   unfold tasks_mayRead.l0
   repeat' first
   | (with_reducible exact ih0 _ _ _ _ _ _ _ _)
   | (with_reducible exact ih1 _ _ _ _ _ _ _ _)
   | (with_reducible exact ih2 _ _ _ _ _ _ _ _ _)
   | (with_reducible exact clocks_Date.mono _ _ _ _)
   | (with_reducible exact num_Mul.mono _ _ _)
   | (with_reducible exact LeO.refl _)
   | (with_reducible exact LeO.none _)
   | (with_reducible refine LeO.ite ?_ ?_)
   | (with_reducible refine LeO.bind ?_ (fun _ => ?_))
   | exact ih0 _ _ _ _ _ _ _ _
   | exact ih1 _ _ _ _ _ _ _ _
   | exact ih2 _ _ _ _ _ _ _ _ _
   | exact clocks_Date.mono _ _ _ _
   | exact num_Mul.mono _ _ _
   | exact LeO.none _
   | refine LeO.ite ?_ ?_
   | refine LeO.bind ?_ (fun _ => ?_)
theorem tasks_mayRead.mono : ∀ a0 a1 a2 a3 a4 a5 a6 k, LeO (tasks_mayRead.f k a0 a1 a2 a3 a4 a5 a6) (tasks_mayRead.f (k + 1) a0 a1 a2 a3 a4 a5 a6) := by
 intro a0 a1 a2 a3 a4 a5 a6 k
 obtain ⟨ih0, ih1, ih2⟩ := tasks_mayRead.zma k
 unfold tasks_mayRead.f
 repeat' first
   | (with_reducible exact ih0 _ _ _ _ _ _ _ _)
   | (with_reducible exact ih1 _ _ _ _ _ _ _ _)
   | (with_reducible exact ih2 _ _ _ _ _ _ _ _ _)
   | (with_reducible exact clocks_Date.mono _ _ _ _)
   | (with_reducible exact num_Mul.mono _ _ _)
   | (with_reducible exact LeO.refl _)
   | (with_reducible exact LeO.none _)
   | (with_reducible refine LeO.ite ?_ ?_)
   | (with_reducible refine LeO.bind ?_ (fun _ => ?_))
   | exact ih0 _ _ _ _ _ _ _ _
   | exact ih1 _ _ _ _ _ _ _ _
   | exact ih2 _ _ _ _ _ _ _ _ _
   | exact clocks_Date.mono _ _ _ _
   | exact num_Mul.mono _ _ _
   | exact LeO.none _
   | refine LeO.ite ?_ ?_
   | refine LeO.bind ?_ (fun _ => ?_)
theorem tasks_mayRead.calls (k : Nat) (A0_0 : Option Addr) (c0_0 : Nat) (l0_0 : List (S70)) (A0_1 : Option Addr) (c0_1 : Nat) (l0_1 : List (S70)) (a0_2 : Int) (a1_0 : Int) (a1_1 : Int) (a2_0 : Int) (a2_1 : Int) (r : Bool) (w : World) (hr0_0 : Kd.C k70 w A0_0 l0_0.length l0_0) (hc0_0 : l0_0.length ≤ c0_0) (hr0_1 : Kd.C k70 w A0_1 l0_1.length l0_1) (hc0_1 : l0_1.length ≤ c0_1) (h : tasks_mayRead.f k l0_0 l0_1 a0_2 a1_0 a1_1 a2_0 a2_1 = some true) :
  Calls Tryz.prog 91 #[.agg #[.slice A0_0 l0_0.length c0_0, .slice A0_1 l0_1.length c0_1, .int .i64 a0_2], .agg #[.int .i64 a1_0, .int .i64 a1_1], .agg #[.int .i64 a2_0, .int .i64 a2_1]] w fun e w' => e = .returned (.bool true) ∧ Below w.heap.size w w' := by
 have hu73 := Tryz.underlying73
 have hu68 := Tryz.underlying68
 have hu70 := Tryz.underlying70
 have HR0_0 := zb.mk hr0_0
 have HC0_0 := zb.mk hc0_0
 clear hr0_0 hc0_0
 have HR0_1 := zb.mk hr0_1
 have HC0_1 := zb.mk hc0_1
 clear hr0_1 hc0_1
 have HB := zb.mk (Below.refl w.heap.size w)
 have H : ((deps_May.f l0_0 l0_1 a0_2).bind fun t205 => (if t205 = true then (tasks_mayRead.j0 k (decide (a0_2 < 1)) l0_0 l0_1 a0_2 a1_0 a1_1 a2_0 a2_1) else (tasks_mayRead.j0 k true l0_0 l0_1 a0_2 a1_0 a1_1 a2_0 a2_1))) = some true := h
 clear h
 have HC4 := zb.mk H
 clear H
 go_enter Tryz.func91, Tryz.ntmps91
 go_upto_region 1 with (first | ((with_reducible refine zda (N := 3) rfl ?_); refine zaa ?hg (N := 3) ?hd (cs := #[.slice A0_0 l0_0.length c0_0, .slice A0_1 l0_1.length c0_1, .int .i64 a0_2]) (t := 73) ?hr ?_; (case hd => rfl); (case hg => rfl); (case hr => first | (go_simp; done) | (go_simp; rfl)); intro gb202 hg w5 hbox hb; have n0_ := zb.mk (zo (by repeat with_reducible first | exact HB.out | apply zd | apply za | apply ze) hb); have n1_ := zb.mk (hbox); have n2_ := zb.mk ((by rw [hg]; exact (zn (by repeat with_reducible first | exact HB.out | apply zd | apply za | apply ze)) : w.heap.size ≤ gb202)); have n3_ := zb.mk ((by rw [hg]; exact (zn (by repeat with_reducible first | exact HB.out | apply zd | apply za | apply ze)) : w.heap.size ≤ gb202)); clear HB; have HB := n0_; have BK202 := n1_; have GW202 := n2_; have GE202 := n3_; clear n0_ n1_ n2_ n3_; clear hb hbox hg) | ((with_reducible refine zda (N := 4) rfl ?_); refine zaa ?hg (N := 4) ?hd (cs := #[.int .i64 a1_0, .int .i64 a1_1]) (t := 68) ?hr ?_; (case hd => rfl); (case hg => rfl); (case hr => first | (go_simp; done) | (go_simp; rfl)); intro gb203 hg w6 hbox hb; have n0_ := zb.mk (zr (g := gb202) (o := .cells #[.slice A0_0 l0_0.length c0_0, .slice A0_1 l0_1.length c0_1, .int .i64 a0_2] 73 (0, 0)) (by (with_reducible repeat first | apply zi | apply zl | apply zh); exact BK202.out) hb); have n1_ := zb.mk (zo (by repeat with_reducible first | exact HB.out | apply zd | apply za | apply ze | refine zk ?_ GE202.out) hb); have n2_ := zb.mk (hbox); have n3_ := zb.mk ((by rw [hg]; exact (zn (by repeat with_reducible first | exact HB.out | apply zd | apply za | apply ze | refine zk ?_ GE202.out)) : w.heap.size ≤ gb203)); have n4_ := zb.mk ((by rw [hg]; exact (zn (by repeat with_reducible first | exact HB.out | apply zd | apply za | apply ze | refine zk ?_ GE202.out)) : w.heap.size ≤ gb203)); have n5_ := zb.mk ((by rw [hg]; exact Nat.ne_of_lt (zja (g := gb202) (o := .cells #[.slice A0_0 l0_0.length c0_0, .slice A0_1 l0_1.length c0_1, .int .i64 a0_2] 73 (0, 0)) (by (with_reducible repeat first | apply zi | apply zl | apply zh); exact BK202.out)) : gb202 ≠ gb203)); have n6_ := zb.mk ((by rw [hg]; exact Nat.ne_of_gt (zja (g := gb202) (o := .cells #[.slice A0_0 l0_0.length c0_0, .slice A0_1 l0_1.length c0_1, .int .i64 a0_2] 73 (0, 0)) (by (with_reducible repeat first | apply zi | apply zl | apply zh); exact BK202.out)) : gb203 ≠ gb202)); clear BK202; clear HB; have BK202 := n0_; have HB := n1_; have BK203 := n2_; have GW203 := n3_; have GE203 := n4_; have NB202_203 := n5_; have NB203_202 := n6_; clear n0_ n1_ n2_ n3_ n4_ n5_ n6_; clear hb hbox hg) | ((with_reducible refine zda (N := 5) rfl ?_); refine zaa ?hg (N := 5) ?hd (cs := #[.int .i64 a2_0, .int .i64 a2_1]) (t := 68) ?hr ?_; (case hd => rfl); (case hg => rfl); (case hr => first | (go_simp; done) | (go_simp; rfl)); intro gb204 hg w7 hbox hb; have n0_ := zb.mk (zr (g := gb202) (o := .cells #[.slice A0_0 l0_0.length c0_0, .slice A0_1 l0_1.length c0_1, .int .i64 a0_2] 73 (0, 0)) (by (with_reducible repeat first | apply zi | apply zl | apply zh); exact BK202.out) hb); have n1_ := zb.mk (zr (g := gb203) (o := .cells #[.int .i64 a1_0, .int .i64 a1_1] 68 (0, 0)) (by (with_reducible repeat first | apply zi | apply zl | apply zh); exact BK203.out) hb); have n2_ := zb.mk (zo (by repeat with_reducible first | exact HB.out | apply zd | apply za | apply ze | refine zk ?_ GE202.out | refine zk ?_ GE203.out) hb); have n3_ := zb.mk (hbox); have n4_ := zb.mk ((by rw [hg]; exact (zn (by repeat with_reducible first | exact HB.out | apply zd | apply za | apply ze | refine zk ?_ GE202.out | refine zk ?_ GE203.out)) : w.heap.size ≤ gb204)); have n5_ := zb.mk ((by rw [hg]; exact (zn (by repeat with_reducible first | exact HB.out | apply zd | apply za | apply ze | refine zk ?_ GE202.out | refine zk ?_ GE203.out)) : w.heap.size ≤ gb204)); have n6_ := zb.mk ((by rw [hg]; exact Nat.ne_of_lt (zja (g := gb202) (o := .cells #[.slice A0_0 l0_0.length c0_0, .slice A0_1 l0_1.length c0_1, .int .i64 a0_2] 73 (0, 0)) (by (with_reducible repeat first | apply zi | apply zl | apply zh); exact BK202.out)) : gb202 ≠ gb204)); have n7_ := zb.mk ((by rw [hg]; exact Nat.ne_of_gt (zja (g := gb202) (o := .cells #[.slice A0_0 l0_0.length c0_0, .slice A0_1 l0_1.length c0_1, .int .i64 a0_2] 73 (0, 0)) (by (with_reducible repeat first | apply zi | apply zl | apply zh); exact BK202.out)) : gb204 ≠ gb202)); have n8_ := zb.mk ((by rw [hg]; exact Nat.ne_of_lt (zja (g := gb203) (o := .cells #[.int .i64 a1_0, .int .i64 a1_1] 68 (0, 0)) (by (with_reducible repeat first | apply zi | apply zl | apply zh); exact BK203.out)) : gb203 ≠ gb204)); have n9_ := zb.mk ((by rw [hg]; exact Nat.ne_of_gt (zja (g := gb203) (o := .cells #[.int .i64 a1_0, .int .i64 a1_1] 68 (0, 0)) (by (with_reducible repeat first | apply zi | apply zl | apply zh); exact BK203.out)) : gb204 ≠ gb203)); clear BK202; clear BK203; clear HB; have BK202 := n0_; have BK203 := n1_; have HB := n2_; have BK204 := n3_; have GW204 := n4_; have GE204 := n5_; have NB202_204 := n6_; have NB204_202 := n7_; have NB203_204 := n8_; have NB204_203 := n9_; clear n0_ n1_ n2_ n3_ n4_ n5_ n6_ n7_ n8_ n9_; clear hb hbox hg))
 (try simp only [Act.put, List.setIfInBounds_toArray, List.set_cons_zero, List.set_cons_succ])
 go_cut [25] (fun v25 wc => ∃ (kq : Nat) (x25_3 : Bool), v25 = .bool x25_3 ∧ zb (tasks_mayRead.j0 kq x25_3 l0_0 l0_1 a0_2 a1_0 a1_1 a2_0 a2_1 = some true) ∧ zb (kq ≤ k) ∧ zb (wc.heap[gb202]? = some (.cells #[(.slice A0_0 l0_0.length c0_0), (.slice A0_1 l0_1.length c0_1), .int .i64 a0_2] 73 (0, 0))) ∧ zb (wc.heap[gb203]? = some (.cells #[.int .i64 a1_0, .int .i64 a1_1] 68 (0, 0))) ∧ zb (wc.heap[gb204]? = some (.cells #[.int .i64 a2_0, .int .i64 a2_1] 68 (0, 0))) ∧ zb (Below w.heap.size w wc))
 case first =>
  have H := HC4.out
  clear HC4
  replace H := Option.bind_eq_some_iff.mp H
  obtain ⟨t205, A80, H⟩ := H
  replace H : (if t205 = true then (tasks_mayRead.j0 k (decide (a0_2 < 1)) l0_0 l0_1 a0_2 a1_0 a1_1 a2_0 a2_1) else (tasks_mayRead.j0 k true l0_0 l0_1 a0_2 a1_0 a1_1 a2_0 a2_1)) = some true := H
  have A8 := zb.mk A80
  clear A80
  by_cases c9 : t205 = true
  ·subst c9
   have H1 : (tasks_mayRead.j0 k (decide (a0_2 < 1)) l0_0 l0_1 a0_2 a1_0 a1_1 a2_0 a2_1) = some true := by rw [if_pos rfl] at H; exact H
   clear H
   have H := H1
   clear H1
   have H' := zb.mk H
   clear H
   have hnb10 := NB202_203.out
   have hnc10 := NB203_202.out
   have hnb11 := NB202_204.out
   have hnc11 := NB204_202.out
   have hcz12_0 : w7.cell? ⟨gb202, 0, none⟩ = some (.slice A0_0 l0_0.length c0_0) := (zg BK202.out 0).trans rfl
   have hcz12_1 : w7.cell? ⟨gb202, 1, none⟩ = some (.slice A0_1 l0_1.length c0_1) := (zg BK202.out 1).trans rfl
   have hcz12_2 : w7.cell? ⟨gb202, 2, none⟩ = some (.int .i64 a0_2) := (zg BK202.out 2).trans rfl
   have hfz12_0 := zf BK202.out 0
   have hfz12_1 := zf BK202.out 1
   have hfz12_2 := zf BK202.out 2
   go_wp2_with (first | ((with_reducible refine zt (f := 123) rfl ?_); refine zka (some 19) rfl rfl Tryz.func123 (by kernel_rfl) rfl #[.agg #[.slice A0_0 l0_0.length c0_0, .slice A0_1 l0_1.length c0_1, .int .i64 a0_2]] rfl (by (try simp only [List.map_toArray, List.map_cons, List.map_nil]); first | done | rfl | (simp only [List.length_drop, List.length_take]; rfl)) ?_; (with_reducible refine (deps_May.calls _ _ l0_0 _ _ l0_1 a0_2 true _ ?side1 ?side2 ?side3 ?side4 A8.out).mono ?_); (case side1 => repeat (first | exact (Kd.zu HR0_0.out HB.out) | (with_reducible refine Kd.zea ?_ _) | (with_reducible refine Kd.zfa ?_ _) | (with_reducible refine Kd.zia ?_))); (case side2 => exact HC0_0.out); (case side3 => repeat (first | exact (Kd.zu HR0_1.out HB.out) | (with_reducible refine Kd.zea ?_ _) | (with_reducible refine Kd.zfa ?_ _) | (with_reducible refine Kd.zia ?_))); (case side4 => exact HC0_1.out); rintro e w13 ⟨rfl, hb⟩; refine ⟨_, rfl, ?_⟩; have n0_ := zb.mk (zr (g := gb202) (o := .cells #[.slice A0_0 l0_0.length c0_0, .slice A0_1 l0_1.length c0_1, .int .i64 a0_2] 73 (0, 0)) (by (with_reducible repeat first | apply zi | apply zl | apply zh); exact BK202.out) hb); have n1_ := zb.mk (zr (g := gb203) (o := .cells #[.int .i64 a1_0, .int .i64 a1_1] 68 (0, 0)) (by (with_reducible repeat first | apply zi | apply zl | apply zh); exact BK203.out) hb); have n2_ := zb.mk (zr (g := gb204) (o := .cells #[.int .i64 a2_0, .int .i64 a2_1] 68 (0, 0)) (by (with_reducible repeat first | apply zi | apply zl | apply zh); exact BK204.out) hb); have n3_ := zb.mk (zo (by repeat with_reducible first | exact HB.out | apply zd | apply za | apply ze | refine zk ?_ GE202.out | refine zk ?_ GE203.out | refine zk ?_ GE204.out) hb); clear BK202; clear BK203; clear BK204; clear HB; have BK202 := n0_; have BK203 := n1_; have BK204 := n2_; have HB := n3_; clear n0_ n1_ n2_ n3_; (try clear hb); have hcz14_0 : w13.cell? ⟨gb202, 0, none⟩ = some (.slice A0_0 l0_0.length c0_0) := (zg BK202.out 0).trans rfl; have hcz14_1 : w13.cell? ⟨gb202, 1, none⟩ = some (.slice A0_1 l0_1.length c0_1) := (zg BK202.out 1).trans rfl; have hcz14_2 : w13.cell? ⟨gb202, 2, none⟩ = some (.int .i64 a0_2) := (zg BK202.out 2).trans rfl; have hfz14_0 := zf BK202.out 0; have hfz14_1 := zf BK202.out 1; have hfz14_2 := zf BK202.out 2))
   go_meet
   case rel => exact ⟨_, (decide (a0_2 < 1)), (by first | rfl | (simp; done) | (simp [*]; done)), H', ⟨by first | omega | exact Nat.le_refl _⟩, ⟨by (with_reducible repeat first | apply zi | apply zl | apply zh); exact BK202.out⟩, ⟨by (with_reducible repeat first | apply zi | apply zl | apply zh); exact BK203.out⟩, ⟨by (with_reducible repeat first | apply zi | apply zl | apply zh); exact BK204.out⟩, ⟨by repeat with_reducible first | exact HB.out | apply zd | apply za | apply ze | refine zk ?_ GE202.out | refine zk ?_ GE203.out | refine zk ?_ GE204.out⟩⟩
  ·replace c9 := Bool.eq_false_iff.mpr c9
   subst c9
   have H1 : (tasks_mayRead.j0 k true l0_0 l0_1 a0_2 a1_0 a1_1 a2_0 a2_1) = some true := by rw [if_neg (show ¬ (false = true) by decide)] at H; exact H
   clear H
   have H := H1
   clear H1
   have H' := zb.mk H
   clear H
   have hnb15 := NB202_203.out
   have hnc15 := NB203_202.out
   have hnb16 := NB202_204.out
   have hnc16 := NB204_202.out
   have hcz17_0 : w7.cell? ⟨gb202, 0, none⟩ = some (.slice A0_0 l0_0.length c0_0) := (zg BK202.out 0).trans rfl
   have hcz17_1 : w7.cell? ⟨gb202, 1, none⟩ = some (.slice A0_1 l0_1.length c0_1) := (zg BK202.out 1).trans rfl
   have hcz17_2 : w7.cell? ⟨gb202, 2, none⟩ = some (.int .i64 a0_2) := (zg BK202.out 2).trans rfl
   have hfz17_0 := zf BK202.out 0
   have hfz17_1 := zf BK202.out 1
   have hfz17_2 := zf BK202.out 2
   go_wp2_with (first | ((with_reducible refine zt (f := 123) rfl ?_); refine zka (some 19) rfl rfl Tryz.func123 (by kernel_rfl) rfl #[.agg #[.slice A0_0 l0_0.length c0_0, .slice A0_1 l0_1.length c0_1, .int .i64 a0_2]] rfl (by (try simp only [List.map_toArray, List.map_cons, List.map_nil]); first | done | rfl | (simp only [List.length_drop, List.length_take]; rfl)) ?_; (with_reducible refine (deps_May.calls _ _ l0_0 _ _ l0_1 a0_2 false _ ?side1 ?side2 ?side3 ?side4 A8.out).mono ?_); (case side1 => repeat (first | exact (Kd.zu HR0_0.out HB.out) | (with_reducible refine Kd.zea ?_ _) | (with_reducible refine Kd.zfa ?_ _) | (with_reducible refine Kd.zia ?_))); (case side2 => exact HC0_0.out); (case side3 => repeat (first | exact (Kd.zu HR0_1.out HB.out) | (with_reducible refine Kd.zea ?_ _) | (with_reducible refine Kd.zfa ?_ _) | (with_reducible refine Kd.zia ?_))); (case side4 => exact HC0_1.out); rintro e w18 ⟨rfl, hb⟩; refine ⟨_, rfl, ?_⟩; have n0_ := zb.mk (zr (g := gb202) (o := .cells #[.slice A0_0 l0_0.length c0_0, .slice A0_1 l0_1.length c0_1, .int .i64 a0_2] 73 (0, 0)) (by (with_reducible repeat first | apply zi | apply zl | apply zh); exact BK202.out) hb); have n1_ := zb.mk (zr (g := gb203) (o := .cells #[.int .i64 a1_0, .int .i64 a1_1] 68 (0, 0)) (by (with_reducible repeat first | apply zi | apply zl | apply zh); exact BK203.out) hb); have n2_ := zb.mk (zr (g := gb204) (o := .cells #[.int .i64 a2_0, .int .i64 a2_1] 68 (0, 0)) (by (with_reducible repeat first | apply zi | apply zl | apply zh); exact BK204.out) hb); have n3_ := zb.mk (zo (by repeat with_reducible first | exact HB.out | apply zd | apply za | apply ze | refine zk ?_ GE202.out | refine zk ?_ GE203.out | refine zk ?_ GE204.out) hb); clear BK202; clear BK203; clear BK204; clear HB; have BK202 := n0_; have BK203 := n1_; have BK204 := n2_; have HB := n3_; clear n0_ n1_ n2_ n3_; (try clear hb)))
   go_meet
   case rel => exact ⟨_, (true), (by first | rfl | (simp; done) | (simp [*]; done)), H', ⟨by first | omega | exact Nat.le_refl _⟩, ⟨by (with_reducible repeat first | apply zi | apply zl | apply zh); exact BK202.out⟩, ⟨by (with_reducible repeat first | apply zi | apply zl | apply zh); exact BK203.out⟩, ⟨by (with_reducible repeat first | apply zi | apply zl | apply zh); exact BK204.out⟩, ⟨by repeat with_reducible first | exact HB.out | apply zd | apply za | apply ze | refine zk ?_ GE202.out | refine zk ?_ GE203.out | refine zk ?_ GE204.out⟩⟩
 case rest =>
  clear HC4
  try clear c1
  try clear p2
  try clear c9
  try clear c10
  try clear c11
  try clear c12
  try clear c15
  try clear c16
  try clear hcz12_0
  try clear hcz12_1
  try clear hcz12_2
  try clear hcz14_0
  try clear hcz14_1
  try clear hcz14_2
  try clear hcz17_0
  try clear hcz17_1
  try clear hcz17_2
  try clear hfz12_0
  try clear hfz12_1
  try clear hfz12_2
  try clear hfz14_0
  try clear hfz14_1
  try clear hfz14_2
  try clear hfz17_0
  try clear hfz17_1
  try clear hfz17_2
  obtain ⟨kq, x25_3, rfl, HA, HJ3, BK202, BK203, BK204, HB⟩ := hcut
  cases kq with
  | zero => exact absurd HA.out (by simp [tasks_mayRead.j0])
  | succ kj3 =>
   have H := HA.out
   clear HA
   simp only [tasks_mayRead.j0] at H
   by_cases c19 : x25_3 = true
   ·subst c19
    have H1 : (some false) = some true := by rw [if_pos rfl] at H; exact H
    exact absurd (Option.some.inj H1) (by decide)
   ·replace c19 := Bool.eq_false_iff.mpr c19
    subst c19
    have H1 : ((num_Mul.f kj3 a1_0 (l0_1.length : Int)).bind fun bt206 => ((num_Mul.f kj3 a2_0 a0_2).bind fun bt208 => (if bt206.2 = true then (if bt208.2 = true then (tasks_mayRead.j1 kj3 (bt206.1 != bt208.1) l0_0 l0_1 a0_2 a1_0 a1_1 a2_0 a2_1) else (tasks_mayRead.j1 kj3 true l0_0 l0_1 a0_2 a1_0 a1_1 a2_0 a2_1)) else (tasks_mayRead.j1 kj3 true l0_0 l0_1 a0_2 a1_0 a1_1 a2_0 a2_1)))) = some true := by rw [if_neg (show ¬ (false = true) by decide)] at H; exact H
    clear H
    have H := H1
    clear H1
    replace H := Option.bind_eq_some_iff.mp H
    obtain ⟨⟨t206, t207⟩, A200, H⟩ := H
    replace H : ((num_Mul.f kj3 a2_0 a0_2).bind fun bt208 => (if t207 = true then (if bt208.2 = true then (tasks_mayRead.j1 kj3 (t206 != bt208.1) l0_0 l0_1 a0_2 a1_0 a1_1 a2_0 a2_1) else (tasks_mayRead.j1 kj3 true l0_0 l0_1 a0_2 a1_0 a1_1 a2_0 a2_1)) else (tasks_mayRead.j1 kj3 true l0_0 l0_1 a0_2 a1_0 a1_1 a2_0 a2_1))) = some true := H
    have A20 := zb.mk A200
    clear A200
    replace H := Option.bind_eq_some_iff.mp H
    obtain ⟨⟨t208, t209⟩, A210, H⟩ := H
    replace H : (if t207 = true then (if t209 = true then (tasks_mayRead.j1 kj3 (t206 != t208) l0_0 l0_1 a0_2 a1_0 a1_1 a2_0 a2_1) else (tasks_mayRead.j1 kj3 true l0_0 l0_1 a0_2 a1_0 a1_1 a2_0 a2_1)) else (tasks_mayRead.j1 kj3 true l0_0 l0_1 a0_2 a1_0 a1_1 a2_0 a2_1)) = some true := H
    have A21 := zb.mk A210
    clear A210
    have HC22 := zb.mk H
    clear H
    have hnb23 := NB203_202.out
    have hnc23 := NB202_203.out
    have hnb24 := NB203_204.out
    have hnc24 := NB204_203.out
    have hcz25_0 : wc.cell? ⟨gb203, 0, none⟩ = some (.int .i64 a1_0) := (zg BK203.out 0).trans rfl
    have hcz25_1 : wc.cell? ⟨gb203, 1, none⟩ = some (.int .i64 a1_1) := (zg BK203.out 1).trans rfl
    have hfz25_0 := zf BK203.out 0
    have hfz25_1 := zf BK203.out 1
    have hnb26 := NB202_204.out
    have hnc26 := NB204_202.out
    have hcz27_0 : wc.cell? ⟨gb202, 0, none⟩ = some (.slice A0_0 l0_0.length c0_0) := (zg BK202.out 0).trans rfl
    have hcz27_1 : wc.cell? ⟨gb202, 1, none⟩ = some (.slice A0_1 l0_1.length c0_1) := (zg BK202.out 1).trans rfl
    have hcz27_2 : wc.cell? ⟨gb202, 2, none⟩ = some (.int .i64 a0_2) := (zg BK202.out 2).trans rfl
    have hfz27_0 := zf BK202.out 0
    have hfz27_1 := zf BK202.out 1
    have hfz27_2 := zf BK202.out 2
    go_upto_region 5 with (first | ((with_reducible refine zt (f := 124) rfl ?_); refine zka (some 32) rfl rfl Tryz.func124 (by kernel_rfl) rfl #[.int .i64 a1_0, .int .i64 (l0_1.length : Int)] rfl (by (try simp only [List.map_toArray, List.map_cons, List.map_nil]); first | done | rfl | (simp only [List.length_drop, List.length_take]; rfl)) ?_; (with_reducible refine (num_Mul.calls kj3 a1_0 (l0_1.length : Int) t206 t207 _ A20.out).mono ?_); rintro e w' ⟨rfl, ⟨nd, rfl⟩⟩; refine ⟨_, rfl, ?_⟩; have hcz28_0 : wc.cell? ⟨gb204, 0, none⟩ = some (.int .i64 a2_0) := (zg BK204.out 0).trans rfl; have hcz28_1 : wc.cell? ⟨gb204, 1, none⟩ = some (.int .i64 a2_1) := (zg BK204.out 1).trans rfl; have hfz28_0 := zf BK204.out 0; have hfz28_1 := zf BK204.out 1) | ((with_reducible refine zt (f := 124) rfl ?_); refine zka (some 40) rfl rfl Tryz.func124 (by kernel_rfl) rfl #[.int .i64 a2_0, .int .i64 a0_2] rfl (by (try simp only [List.map_toArray, List.map_cons, List.map_nil]); first | done | rfl | (simp only [List.length_drop, List.length_take]; rfl)) ?_; (with_reducible refine (num_Mul.calls kj3 a2_0 a0_2 t208 t209 _ A21.out).mono ?_); rintro e w' ⟨rfl, ⟨nd, rfl⟩⟩; refine ⟨_, rfl, ?_⟩))
    (try simp only [Act.put, List.setIfInBounds_toArray, List.set_cons_zero, List.set_cons_succ])
    go_cut [53] (fun v53 wc => ∃ (kq : Nat) (x53_21 : Bool), v53 = .bool x53_21 ∧ zb (tasks_mayRead.j1 kq x53_21 l0_0 l0_1 a0_2 a1_0 a1_1 a2_0 a2_1 = some true) ∧ zb (kq ≤ kj3) ∧ zb (wc.heap[gb202]? = some (.cells #[(.slice A0_0 l0_0.length c0_0), (.slice A0_1 l0_1.length c0_1), .int .i64 a0_2] 73 (0, 0))) ∧ zb (wc.heap[gb203]? = some (.cells #[.int .i64 a1_0, .int .i64 a1_1] 68 (0, 0))) ∧ zb (wc.heap[gb204]? = some (.cells #[.int .i64 a2_0, .int .i64 a2_1] 68 (0, 0))) ∧ zb (Below w.heap.size w wc))
    case first =>
     have H := HC22.out
     clear HC22
     by_cases c29 : t207 = true
     ·subst c29
      have H1 : (if t209 = true then (tasks_mayRead.j1 kj3 (t206 != t208) l0_0 l0_1 a0_2 a1_0 a1_1 a2_0 a2_1) else (tasks_mayRead.j1 kj3 true l0_0 l0_1 a0_2 a1_0 a1_1 a2_0 a2_1)) = some true := by rw [if_pos rfl] at H; exact H
      clear H
      have H := H1
      clear H1
      by_cases c30 : t209 = true
      ·subst c30
       have H1 : (tasks_mayRead.j1 kj3 (t206 != t208) l0_0 l0_1 a0_2 a1_0 a1_1 a2_0 a2_1) = some true := by rw [if_pos rfl] at H; exact H
       clear H
       have H := H1
       clear H1
       have H' := zb.mk H
       clear H
       go_wp2
       go_meet
       case rel => exact ⟨_, ((t206 != t208)), (by first | rfl | (simp; done) | (simp [*]; done)), H', ⟨by have := HJ3.out; first | omega | exact Nat.le_refl _⟩, ⟨by (with_reducible repeat first | apply zi | apply zl | apply zh); exact BK202.out⟩, ⟨by (with_reducible repeat first | apply zi | apply zl | apply zh); exact BK203.out⟩, ⟨by (with_reducible repeat first | apply zi | apply zl | apply zh); exact BK204.out⟩, ⟨by repeat with_reducible first | exact HB.out | apply zd | apply za | apply ze | refine zk ?_ GE202.out | refine zk ?_ GE203.out | refine zk ?_ GE204.out⟩⟩
      ·replace c30 := Bool.eq_false_iff.mpr c30
       subst c30
       have H1 : (tasks_mayRead.j1 kj3 true l0_0 l0_1 a0_2 a1_0 a1_1 a2_0 a2_1) = some true := by rw [if_neg (show ¬ (false = true) by decide)] at H; exact H
       clear H
       have H := H1
       clear H1
       have H' := zb.mk H
       clear H
       go_wp2
       go_meet
       case rel => exact ⟨_, (true), (by first | rfl | (simp; done) | (simp [*]; done)), H', ⟨by have := HJ3.out; first | omega | exact Nat.le_refl _⟩, ⟨by (with_reducible repeat first | apply zi | apply zl | apply zh); exact BK202.out⟩, ⟨by (with_reducible repeat first | apply zi | apply zl | apply zh); exact BK203.out⟩, ⟨by (with_reducible repeat first | apply zi | apply zl | apply zh); exact BK204.out⟩, ⟨by repeat with_reducible first | exact HB.out | apply zd | apply za | apply ze | refine zk ?_ GE202.out | refine zk ?_ GE203.out | refine zk ?_ GE204.out⟩⟩
     ·replace c29 := Bool.eq_false_iff.mpr c29
      subst c29
      have H1 : (tasks_mayRead.j1 kj3 true l0_0 l0_1 a0_2 a1_0 a1_1 a2_0 a2_1) = some true := by rw [if_neg (show ¬ (false = true) by decide)] at H; exact H
      clear H
      have H := H1
      clear H1
      have H' := zb.mk H
      clear H
      go_wp2
      go_meet
      case rel => exact ⟨_, (true), (by first | rfl | (simp; done) | (simp [*]; done)), H', ⟨by have := HJ3.out; first | omega | exact Nat.le_refl _⟩, ⟨by (with_reducible repeat first | apply zi | apply zl | apply zh); exact BK202.out⟩, ⟨by (with_reducible repeat first | apply zi | apply zl | apply zh); exact BK203.out⟩, ⟨by (with_reducible repeat first | apply zi | apply zl | apply zh); exact BK204.out⟩, ⟨by repeat with_reducible first | exact HB.out | apply zd | apply za | apply ze | refine zk ?_ GE202.out | refine zk ?_ GE203.out | refine zk ?_ GE204.out⟩⟩
    case rest =>
     clear HC22
     try clear c1
     try clear c2
     try clear p2
     try clear c3
     try clear c9
     try clear c10
     try clear c11
     try clear c12
     try clear c15
     try clear c16
     try clear c19
     try clear c23
     try clear c24
     try clear c26
     try clear c29
     try clear c30
     try clear hcz12_0
     try clear hcz12_1
     try clear hcz12_2
     try clear hcz14_0
     try clear hcz14_1
     try clear hcz14_2
     try clear hcz17_0
     try clear hcz17_1
     try clear hcz17_2
     try clear hcz25_0
     try clear hcz25_1
     try clear hcz27_0
     try clear hcz27_1
     try clear hcz27_2
     try clear hcz28_0
     try clear hcz28_1
     try clear hfz12_0
     try clear hfz12_1
     try clear hfz12_2
     try clear hfz14_0
     try clear hfz14_1
     try clear hfz14_2
     try clear hfz17_0
     try clear hfz17_1
     try clear hfz17_2
     try clear hfz25_0
     try clear hfz25_1
     try clear hfz27_0
     try clear hfz27_1
     try clear hfz27_2
     try clear hfz28_0
     try clear hfz28_1
     try clear p2
     obtain ⟨kq, x53_21, rfl, HA, HJ21, BK202, BK203, BK204, HB⟩ := hcut
     cases kq with
     | zero => exact absurd HA.out (by simp [tasks_mayRead.j1])
     | succ kj21 =>
      have H := HA.out
      clear HA
      simp only [tasks_mayRead.j1] at H
      by_cases c31 : x53_21 = true
      ·subst c31
       have H1 : (some false) = some true := by rw [if_pos rfl] at H; exact H
       exact absurd (Option.some.inj H1) (by decide)
      ·replace c31 := Bool.eq_false_iff.mpr c31
       subst c31
       have H1 : (tasks_mayRead.l0 kj21 (wrap64 ((l0_0.length : Int) + (l0_1.length : Int))) 0 l0_0 l0_1 a0_2 a1_0 a1_1 a2_0 a2_1) = some true := by rw [if_neg (show ¬ (false = true) by decide)] at H; exact H
       clear H
       have H := H1
       clear H1
       have H' := zb.mk H
       clear H
       have hnb32 := NB202_203.out
       have hnc32 := NB203_202.out
       have hnb33 := NB202_204.out
       have hnc33 := NB204_202.out
       have hcz34_0 : wc.cell? ⟨gb202, 0, none⟩ = some (.slice A0_0 l0_0.length c0_0) := (zg BK202.out 0).trans rfl
       have hcz34_1 : wc.cell? ⟨gb202, 1, none⟩ = some (.slice A0_1 l0_1.length c0_1) := (zg BK202.out 1).trans rfl
       have hcz34_2 : wc.cell? ⟨gb202, 2, none⟩ = some (.int .i64 a0_2) := (zg BK202.out 2).trans rfl
       have hfz34_0 := zf BK202.out 0
       have hfz34_1 := zf BK202.out 1
       have hfz34_2 := zf BK202.out 2
       go_wp2
       go_loopg [61] kj21 (fun kq v61 w' => ∃ (x61_3 : Int), v61 = .int .i64 x61_3 ∧ zb (tasks_mayRead.l0 kq (wrap64 ((l0_0.length : Int) + (l0_1.length : Int))) x61_3 l0_0 l0_1 a0_2 a1_0 a1_1 a2_0 a2_1 = some true) ∧ zb (kq ≤ kj21) ∧ zb (w'.heap[gb202]? = some (.cells #[(.slice A0_0 l0_0.length c0_0), (.slice A0_1 l0_1.length c0_1), .int .i64 a0_2] 73 (0, 0))) ∧ zb (w'.heap[gb203]? = some (.cells #[.int .i64 a1_0, .int .i64 a1_1] 68 (0, 0))) ∧ zb (w'.heap[gb204]? = some (.cells #[.int .i64 a2_0, .int .i64 a2_1] 68 (0, 0))) ∧ zb (Below w.heap.size w w'))
       case atStart => exact ⟨(0), (by first | rfl | (simp; done) | (simp [*]; done)), H', ⟨Nat.le_refl _⟩, ⟨by (with_reducible repeat first | apply zi | apply zl | apply zh); exact BK202.out⟩, ⟨by (with_reducible repeat first | apply zi | apply zl | apply zh); exact BK203.out⟩, ⟨by (with_reducible repeat first | apply zi | apply zl | apply zh); exact BK204.out⟩, ⟨by repeat with_reducible first | exact HB.out | apply zd | apply za | apply ze | refine zk ?_ GE202.out | refine zk ?_ GE203.out | refine zk ?_ GE204.out⟩⟩
       case round =>
        clear H'
        try clear c1
        try clear c2
        try clear p2
        try clear c3
        try clear p6
        try clear c9
        try clear c10
        try clear c11
        try clear c12
        try clear c15
        try clear c16
        try clear c19
        try clear c23
        try clear c24
        try clear c26
        try clear c29
        try clear c30
        try clear c31
        try clear c32
        try clear c33
        try clear hcz12_0
        try clear hcz12_1
        try clear hcz12_2
        try clear hcz14_0
        try clear hcz14_1
        try clear hcz14_2
        try clear hcz17_0
        try clear hcz17_1
        try clear hcz17_2
        try clear hcz25_0
        try clear hcz25_1
        try clear hcz27_0
        try clear hcz27_1
        try clear hcz27_2
        try clear hcz28_0
        try clear hcz28_1
        try clear hcz34_0
        try clear hcz34_1
        try clear hcz34_2
        try clear hfz12_0
        try clear hfz12_1
        try clear hfz12_2
        try clear hfz14_0
        try clear hfz14_1
        try clear hfz14_2
        try clear hfz17_0
        try clear hfz17_1
        try clear hfz17_2
        try clear hfz25_0
        try clear hfz25_1
        try clear hfz27_0
        try clear hfz27_1
        try clear hfz27_2
        try clear hfz28_0
        try clear hfz28_1
        try clear hfz34_0
        try clear hfz34_1
        try clear hfz34_2
        try clear p2
        obtain ⟨x61_3, rfl, HA, HK3, BK202, BK203, BK204, HB⟩ := hrel
        cases gk with
        | zero => exact absurd HA.out (by simp [tasks_mayRead.l0])
        | succ k3 =>
         have H := HA.out
         clear HA
         simp only [tasks_mayRead.l0] at H
         by_cases c35 : x61_3 < (wrap64 ((l0_0.length : Int) + (l0_1.length : Int)))
         ·rw [if_pos c35] at H
          have c35b0 : decide (x61_3 < (wrap64 ((l0_0.length : Int) + (l0_1.length : Int)))) = true := decide_eq_true c35
          clear c35
          replace H := Option.bind_eq_some_iff.mp H
          obtain ⟨⟨t210, t211, t212, t213⟩, A360, H⟩ := H
          replace H : ((clocks_Date.f k3 a2_0 a2_1 t212).bind fun bt215 => ((clocks_Date.f k3 a1_0 a1_1 x61_3).bind fun bt217 => (if t210 = true then (tasks_mayRead.l0 k3 (wrap64 ((l0_0.length : Int) + (l0_1.length : Int))) (wrap64 (x61_3 + 1)) l0_0 l0_1 a0_2 a1_0 a1_1 a2_0 a2_1) else (if bt215.2 = true then (if bt215.1 > bt217.1 then (some false) else (tasks_mayRead.l0 k3 (wrap64 ((l0_0.length : Int) + (l0_1.length : Int))) (wrap64 (x61_3 + 1)) l0_0 l0_1 a0_2 a1_0 a1_1 a2_0 a2_1)) else (some false))))) = some true := H
          have A36 := zb.mk A360
          clear A360
          replace H := Option.bind_eq_some_iff.mp H
          obtain ⟨⟨t215, t216⟩, A370, H⟩ := H
          replace H : ((clocks_Date.f k3 a1_0 a1_1 x61_3).bind fun bt217 => (if t210 = true then (tasks_mayRead.l0 k3 (wrap64 ((l0_0.length : Int) + (l0_1.length : Int))) (wrap64 (x61_3 + 1)) l0_0 l0_1 a0_2 a1_0 a1_1 a2_0 a2_1) else (if t216 = true then (if t215 > bt217.1 then (some false) else (tasks_mayRead.l0 k3 (wrap64 ((l0_0.length : Int) + (l0_1.length : Int))) (wrap64 (x61_3 + 1)) l0_0 l0_1 a0_2 a1_0 a1_1 a2_0 a2_1)) else (some false)))) = some true := H
          have A37 := zb.mk A370
          clear A370
          replace H := Option.bind_eq_some_iff.mp H
          obtain ⟨⟨t217, t218⟩, A380, H⟩ := H
          replace H : (if t210 = true then (tasks_mayRead.l0 k3 (wrap64 ((l0_0.length : Int) + (l0_1.length : Int))) (wrap64 (x61_3 + 1)) l0_0 l0_1 a0_2 a1_0 a1_1 a2_0 a2_1) else (if t216 = true then (if t215 > t217 then (some false) else (tasks_mayRead.l0 k3 (wrap64 ((l0_0.length : Int) + (l0_1.length : Int))) (wrap64 (x61_3 + 1)) l0_0 l0_1 a0_2 a1_0 a1_1 a2_0 a2_1)) else (some false))) = some true := H
          have A38 := zb.mk A380
          clear A380
          by_cases c39 : t210 = true
          ·subst c39
           have H1 : (tasks_mayRead.l0 k3 (wrap64 ((l0_0.length : Int) + (l0_1.length : Int))) (wrap64 (x61_3 + 1)) l0_0 l0_1 a0_2 a1_0 a1_1 a2_0 a2_1) = some true := by rw [if_pos rfl] at H; exact H
           clear H
           have H := H1
           clear H1
           have H' := zb.mk H
           clear H
           have hnb40 := NB202_203.out
           have hnc40 := NB203_202.out
           have hnb41 := NB202_204.out
           have hnc41 := NB204_202.out
           have hcz42_0 : wr.cell? ⟨gb202, 0, none⟩ = some (.slice A0_0 l0_0.length c0_0) := (zg BK202.out 0).trans rfl
           have hcz42_1 : wr.cell? ⟨gb202, 1, none⟩ = some (.slice A0_1 l0_1.length c0_1) := (zg BK202.out 1).trans rfl
           have hcz42_2 : wr.cell? ⟨gb202, 2, none⟩ = some (.int .i64 a0_2) := (zg BK202.out 2).trans rfl
           have hfz42_0 := zf BK202.out 0
           have hfz42_1 := zf BK202.out 1
           have hfz42_2 := zf BK202.out 2
           go_wp2_with (first | ((with_reducible refine zt (f := 125) rfl ?_); refine zka (some 67) rfl rfl Tryz.func125 (by kernel_rfl) rfl #[.agg #[.slice A0_0 l0_0.length c0_0, .slice A0_1 l0_1.length c0_1, .int .i64 a0_2], .int .i64 x61_3] rfl (by (try simp only [List.map_toArray, List.map_cons, List.map_nil]); first | done | rfl | (simp only [List.length_drop, List.length_take]; rfl)) ?_; (with_reducible refine (deps_At.calls _ _ l0_0 _ _ l0_1 a0_2 x61_3 true t211 t212 t213 _ ?side1 ?side2 ?side3 ?side4 A36.out).mono ?_); (case side1 => repeat (first | exact (Kd.zu HR0_0.out HB.out) | (with_reducible refine Kd.zea ?_ _) | (with_reducible refine Kd.zfa ?_ _) | (with_reducible refine Kd.zia ?_))); (case side2 => exact HC0_0.out); (case side3 => repeat (first | exact (Kd.zu HR0_1.out HB.out) | (with_reducible refine Kd.zea ?_ _) | (with_reducible refine Kd.zfa ?_ _) | (with_reducible refine Kd.zia ?_))); (case side4 => exact HC0_1.out); rintro e w43 ⟨rfl, hb⟩; refine ⟨_, rfl, ?_⟩; have n0_ := zb.mk (zr (g := gb202) (o := .cells #[.slice A0_0 l0_0.length c0_0, .slice A0_1 l0_1.length c0_1, .int .i64 a0_2] 73 (0, 0)) (by (with_reducible repeat first | apply zi | apply zl | apply zh); exact BK202.out) hb); have n1_ := zb.mk (zr (g := gb203) (o := .cells #[.int .i64 a1_0, .int .i64 a1_1] 68 (0, 0)) (by (with_reducible repeat first | apply zi | apply zl | apply zh); exact BK203.out) hb); have n2_ := zb.mk (zr (g := gb204) (o := .cells #[.int .i64 a2_0, .int .i64 a2_1] 68 (0, 0)) (by (with_reducible repeat first | apply zi | apply zl | apply zh); exact BK204.out) hb); have n3_ := zb.mk (zo (by repeat with_reducible first | exact HB.out | apply zd | apply za | apply ze | refine zk ?_ GE202.out | refine zk ?_ GE203.out | refine zk ?_ GE204.out) hb); clear BK202; clear BK203; clear BK204; clear HB; have BK202 := n0_; have BK203 := n1_; have BK204 := n2_; have HB := n3_; clear n0_ n1_ n2_ n3_; (try clear hb)) | ((with_reducible refine zda (N := 12) rfl ?_); refine zaa ?hg (N := 12) ?hd (cs := #[.bool false, .int .i64 0, .int .i64 0]) (t := 70) ?hr ?_; (case hd => rfl); (case hg => rfl); (case hr => first | (go_simp; done) | (go_simp; rfl)); intro gb214 hg w44 hbox hb; have n0_ := zb.mk (zr (g := gb202) (o := .cells #[.slice A0_0 l0_0.length c0_0, .slice A0_1 l0_1.length c0_1, .int .i64 a0_2] 73 (0, 0)) (by (with_reducible repeat first | apply zi | apply zl | apply zh); exact BK202.out) hb); have n1_ := zb.mk (zr (g := gb203) (o := .cells #[.int .i64 a1_0, .int .i64 a1_1] 68 (0, 0)) (by (with_reducible repeat first | apply zi | apply zl | apply zh); exact BK203.out) hb); have n2_ := zb.mk (zr (g := gb204) (o := .cells #[.int .i64 a2_0, .int .i64 a2_1] 68 (0, 0)) (by (with_reducible repeat first | apply zi | apply zl | apply zh); exact BK204.out) hb); have n3_ := zb.mk (zo (by repeat with_reducible first | exact HB.out | apply zd | apply za | apply ze | refine zk ?_ GE202.out | refine zk ?_ GE203.out | refine zk ?_ GE204.out) hb); have n4_ := zb.mk (hbox); have n5_ := zb.mk ((by rw [hg]; exact (zn (by repeat with_reducible first | exact HB.out | apply zd | apply za | apply ze | refine zk ?_ GE202.out | refine zk ?_ GE203.out | refine zk ?_ GE204.out)) : w.heap.size ≤ gb214)); have n6_ := zb.mk ((by rw [hg]; exact (zn (by repeat with_reducible first | exact HB.out | apply zd | apply za | apply ze | refine zk ?_ GE202.out | refine zk ?_ GE203.out | refine zk ?_ GE204.out)) : w.heap.size ≤ gb214)); have n7_ := zb.mk ((by rw [hg]; exact Nat.ne_of_lt (zja (g := gb202) (o := .cells #[.slice A0_0 l0_0.length c0_0, .slice A0_1 l0_1.length c0_1, .int .i64 a0_2] 73 (0, 0)) (by (with_reducible repeat first | apply zi | apply zl | apply zh); exact BK202.out)) : gb202 ≠ gb214)); have n8_ := zb.mk ((by rw [hg]; exact Nat.ne_of_gt (zja (g := gb202) (o := .cells #[.slice A0_0 l0_0.length c0_0, .slice A0_1 l0_1.length c0_1, .int .i64 a0_2] 73 (0, 0)) (by (with_reducible repeat first | apply zi | apply zl | apply zh); exact BK202.out)) : gb214 ≠ gb202)); have n9_ := zb.mk ((by rw [hg]; exact Nat.ne_of_lt (zja (g := gb203) (o := .cells #[.int .i64 a1_0, .int .i64 a1_1] 68 (0, 0)) (by (with_reducible repeat first | apply zi | apply zl | apply zh); exact BK203.out)) : gb203 ≠ gb214)); have n10_ := zb.mk ((by rw [hg]; exact Nat.ne_of_gt (zja (g := gb203) (o := .cells #[.int .i64 a1_0, .int .i64 a1_1] 68 (0, 0)) (by (with_reducible repeat first | apply zi | apply zl | apply zh); exact BK203.out)) : gb214 ≠ gb203)); have n11_ := zb.mk ((by rw [hg]; exact Nat.ne_of_lt (zja (g := gb204) (o := .cells #[.int .i64 a2_0, .int .i64 a2_1] 68 (0, 0)) (by (with_reducible repeat first | apply zi | apply zl | apply zh); exact BK204.out)) : gb204 ≠ gb214)); have n12_ := zb.mk ((by rw [hg]; exact Nat.ne_of_gt (zja (g := gb204) (o := .cells #[.int .i64 a2_0, .int .i64 a2_1] 68 (0, 0)) (by (with_reducible repeat first | apply zi | apply zl | apply zh); exact BK204.out)) : gb214 ≠ gb204)); clear BK202; clear BK203; clear BK204; clear HB; have BK202 := n0_; have BK203 := n1_; have BK204 := n2_; have HB := n3_; have BK214 := n4_; have GW214 := n5_; have GE214 := n6_; have NB202_214 := n7_; have NB214_202 := n8_; have NB203_214 := n9_; have NB214_203 := n10_; have NB204_214 := n11_; have NB214_204 := n12_; clear n0_ n1_ n2_ n3_ n4_ n5_ n6_ n7_ n8_ n9_ n10_ n11_ n12_; clear hb hbox hg; have hnb45 := NB214_202.out; have hnc45 := NB202_214.out; have hnb46 := NB214_203.out; have hnc46 := NB203_214.out; have hnb47 := NB214_204.out; have hnc47 := NB204_214.out; have hcz48_0 : w44.cell? ⟨gb214, 0, none⟩ = some (.bool false) := (zg BK214.out 0).trans rfl; have hcz48_1 : w44.cell? ⟨gb214, 1, none⟩ = some (.int .i64 0) := (zg BK214.out 1).trans rfl; have hcz48_2 : w44.cell? ⟨gb214, 2, none⟩ = some (.int .i64 0) := (zg BK214.out 2).trans rfl; have hfz48_0 := zf BK214.out 0; have hfz48_1 := zf BK214.out 1; have hfz48_2 := zf BK214.out 2; have hnb49 := NB204_203.out; have hnc49 := NB203_204.out; have hcz50_0 : w44.cell? ⟨gb204, 0, none⟩ = some (.int .i64 a2_0) := (zg BK204.out 0).trans rfl; have hcz50_1 : w44.cell? ⟨gb204, 1, none⟩ = some (.int .i64 a2_1) := (zg BK204.out 1).trans rfl; have hfz50_0 := zf BK204.out 0; have hfz50_1 := zf BK204.out 1) | ((with_reducible refine zt (f := 96) rfl ?_); refine zka (some 74) rfl rfl Tryz.func96 (by kernel_rfl) rfl #[.agg #[.int .i64 a2_0, .int .i64 a2_1], .int .i64 t212] rfl (by (try simp only [List.map_toArray, List.map_cons, List.map_nil]); first | done | rfl | (simp only [List.length_drop, List.length_take]; rfl)) ?_; (with_reducible refine (clocks_Date.calls k3 a2_0 a2_1 t212 t215 t216 _ A37.out).mono ?_); rintro e w51 ⟨rfl, hb⟩; refine ⟨_, rfl, ?_⟩; have n0_ := zb.mk (zr (g := gb202) (o := .cells #[.slice A0_0 l0_0.length c0_0, .slice A0_1 l0_1.length c0_1, .int .i64 a0_2] 73 (0, 0)) (by (with_reducible repeat first | apply zi | apply zl | apply zh); refine zha ?_ NB202_214.out _; (with_reducible repeat first | apply zi | apply zl | apply zh); refine zha ?_ NB202_214.out _; (with_reducible repeat first | apply zi | apply zl | apply zh); refine zha ?_ NB202_214.out _; (with_reducible repeat first | apply zi | apply zl | apply zh); exact BK202.out) hb); have n1_ := zb.mk (zr (g := gb203) (o := .cells #[.int .i64 a1_0, .int .i64 a1_1] 68 (0, 0)) (by (with_reducible repeat first | apply zi | apply zl | apply zh); refine zha ?_ NB203_214.out _; (with_reducible repeat first | apply zi | apply zl | apply zh); refine zha ?_ NB203_214.out _; (with_reducible repeat first | apply zi | apply zl | apply zh); refine zha ?_ NB203_214.out _; (with_reducible repeat first | apply zi | apply zl | apply zh); exact BK203.out) hb); have n2_ := zb.mk (zr (g := gb204) (o := .cells #[.int .i64 a2_0, .int .i64 a2_1] 68 (0, 0)) (by (with_reducible repeat first | apply zi | apply zl | apply zh); refine zha ?_ NB204_214.out _; (with_reducible repeat first | apply zi | apply zl | apply zh); refine zha ?_ NB204_214.out _; (with_reducible repeat first | apply zi | apply zl | apply zh); refine zha ?_ NB204_214.out _; (with_reducible repeat first | apply zi | apply zl | apply zh); exact BK204.out) hb); have n3_ := zb.mk (zr (g := gb214) (o := .cells #[.bool true, .int .i64 t211, .int .i64 t212] 70 (0, 0)) (by (with_reducible repeat first | apply zi | apply zl | apply zh); refine zba (cs := #[.bool true, .int .i64 t211, .int .i64 0]) ?_ 2 _ rfl; (with_reducible repeat first | apply zi | apply zl | apply zh); refine zba (cs := #[.bool true, .int .i64 0, .int .i64 0]) ?_ 1 _ rfl; (with_reducible repeat first | apply zi | apply zl | apply zh); refine zba (cs := #[.bool false, .int .i64 0, .int .i64 0]) ?_ 0 _ rfl; (with_reducible repeat first | apply zi | apply zl | apply zh); exact BK214.out) hb); have n4_ := zb.mk (zo (by repeat with_reducible first | exact HB.out | apply zd | apply za | apply ze | refine zk ?_ GE202.out | refine zk ?_ GE203.out | refine zk ?_ GE204.out | refine zk ?_ GE214.out) hb); clear BK202; clear BK203; clear BK204; clear BK214; clear HB; have BK202 := n0_; have BK203 := n1_; have BK204 := n2_; have BK214 := n3_; have HB := n4_; clear n0_ n1_ n2_ n3_ n4_; (try clear hb); have hcz52_0 : w51.cell? ⟨gb203, 0, none⟩ = some (.int .i64 a1_0) := (zg BK203.out 0).trans rfl; have hcz52_1 : w51.cell? ⟨gb203, 1, none⟩ = some (.int .i64 a1_1) := (zg BK203.out 1).trans rfl; have hfz52_0 := zf BK203.out 0; have hfz52_1 := zf BK203.out 1) | ((with_reducible refine zt (f := 96) rfl ?_); refine zka (some 80) rfl rfl Tryz.func96 (by kernel_rfl) rfl #[.agg #[.int .i64 a1_0, .int .i64 a1_1], .int .i64 x61_3] rfl (by (try simp only [List.map_toArray, List.map_cons, List.map_nil]); first | done | rfl | (simp only [List.length_drop, List.length_take]; rfl)) ?_; (with_reducible refine (clocks_Date.calls k3 a1_0 a1_1 x61_3 t217 t218 _ A38.out).mono ?_); rintro e w53 ⟨rfl, hb⟩; refine ⟨_, rfl, ?_⟩; have n0_ := zb.mk (zr (g := gb202) (o := .cells #[.slice A0_0 l0_0.length c0_0, .slice A0_1 l0_1.length c0_1, .int .i64 a0_2] 73 (0, 0)) (by (with_reducible repeat first | apply zi | apply zl | apply zh); exact BK202.out) hb); have n1_ := zb.mk (zr (g := gb203) (o := .cells #[.int .i64 a1_0, .int .i64 a1_1] 68 (0, 0)) (by (with_reducible repeat first | apply zi | apply zl | apply zh); exact BK203.out) hb); have n2_ := zb.mk (zr (g := gb204) (o := .cells #[.int .i64 a2_0, .int .i64 a2_1] 68 (0, 0)) (by (with_reducible repeat first | apply zi | apply zl | apply zh); exact BK204.out) hb); have n3_ := zb.mk (zr (g := gb214) (o := .cells #[.bool true, .int .i64 t211, .int .i64 t212] 70 (0, 0)) (by (with_reducible repeat first | apply zi | apply zl | apply zh); exact BK214.out) hb); have n4_ := zb.mk (zo (by repeat with_reducible first | exact HB.out | apply zd | apply za | apply ze | refine zk ?_ GE202.out | refine zk ?_ GE203.out | refine zk ?_ GE204.out | refine zk ?_ GE214.out) hb); clear BK202; clear BK203; clear BK204; clear BK214; clear HB; have BK202 := n0_; have BK203 := n1_; have BK204 := n2_; have BK214 := n3_; have HB := n4_; clear n0_ n1_ n2_ n3_ n4_; (try clear hb); have hcz54_0 : w53.cell? ⟨gb214, 0, none⟩ = some (.bool true) := (zg BK214.out 0).trans rfl; have hcz54_1 : w53.cell? ⟨gb214, 1, none⟩ = some (.int .i64 t211) := (zg BK214.out 1).trans rfl; have hcz54_2 : w53.cell? ⟨gb214, 2, none⟩ = some (.int .i64 t212) := (zg BK214.out 2).trans rfl; have hfz54_0 := zf BK214.out 0; have hfz54_1 := zf BK214.out 1; have hfz54_2 := zf BK214.out 2))
           go_roundg k3
           case measure => have := HJ3.out; have := HJ21.out; have := HK3.out; omega
           case rel => exact ⟨(wrap64 (x61_3 + 1)), (by first | rfl | (simp; done) | (simp [*]; done)), H', ⟨by have := HJ3.out; have := HJ21.out; have := HK3.out; omega⟩, ⟨by (with_reducible repeat first | apply zi | apply zl | apply zh); exact BK202.out⟩, ⟨by (with_reducible repeat first | apply zi | apply zl | apply zh); exact BK203.out⟩, ⟨by (with_reducible repeat first | apply zi | apply zl | apply zh); exact BK204.out⟩, ⟨by repeat with_reducible first | exact HB.out | apply zd | apply za | apply ze | refine zk ?_ GE202.out | refine zk ?_ GE203.out | refine zk ?_ GE204.out | refine zk ?_ GE214.out⟩⟩
          ·replace c39 := Bool.eq_false_iff.mpr c39
           subst c39
           have H1 : (if t216 = true then (if t215 > t217 then (some false) else (tasks_mayRead.l0 k3 (wrap64 ((l0_0.length : Int) + (l0_1.length : Int))) (wrap64 (x61_3 + 1)) l0_0 l0_1 a0_2 a1_0 a1_1 a2_0 a2_1)) else (some false)) = some true := by rw [if_neg (show ¬ (false = true) by decide)] at H; exact H
           clear H
           have H := H1
           clear H1
           by_cases c55 : t216 = true
           ·subst c55
            have H1 : (if t215 > t217 then (some false) else (tasks_mayRead.l0 k3 (wrap64 ((l0_0.length : Int) + (l0_1.length : Int))) (wrap64 (x61_3 + 1)) l0_0 l0_1 a0_2 a1_0 a1_1 a2_0 a2_1)) = some true := by rw [if_pos rfl] at H; exact H
            clear H
            have H := H1
            clear H1
            by_cases c56 : t215 > t217
            ·rw [if_pos c56] at H
             have c56b0 : decide (t217 < t215) = true := decide_eq_true c56
             clear c56
             exact absurd (Option.some.inj H) (by decide)
            ·rw [if_neg c56] at H
             have c56b0 : decide (t217 < t215) = false := decide_eq_false c56
             clear c56
             have H' := zb.mk H
             clear H
             have hnb72 := NB202_203.out
             have hnc72 := NB203_202.out
             have hnb73 := NB202_204.out
             have hnc73 := NB204_202.out
             have hcz74_0 : wr.cell? ⟨gb202, 0, none⟩ = some (.slice A0_0 l0_0.length c0_0) := (zg BK202.out 0).trans rfl
             have hcz74_1 : wr.cell? ⟨gb202, 1, none⟩ = some (.slice A0_1 l0_1.length c0_1) := (zg BK202.out 1).trans rfl
             have hcz74_2 : wr.cell? ⟨gb202, 2, none⟩ = some (.int .i64 a0_2) := (zg BK202.out 2).trans rfl
             have hfz74_0 := zf BK202.out 0
             have hfz74_1 := zf BK202.out 1
             have hfz74_2 := zf BK202.out 2
             go_wp2_with (first | ((with_reducible refine zt (f := 125) rfl ?_); refine zka (some 67) rfl rfl Tryz.func125 (by kernel_rfl) rfl #[.agg #[.slice A0_0 l0_0.length c0_0, .slice A0_1 l0_1.length c0_1, .int .i64 a0_2], .int .i64 x61_3] rfl (by (try simp only [List.map_toArray, List.map_cons, List.map_nil]); first | done | rfl | (simp only [List.length_drop, List.length_take]; rfl)) ?_; (with_reducible refine (deps_At.calls _ _ l0_0 _ _ l0_1 a0_2 x61_3 false t211 t212 t213 _ ?side1 ?side2 ?side3 ?side4 A36.out).mono ?_); (case side1 => repeat (first | exact (Kd.zu HR0_0.out HB.out) | (with_reducible refine Kd.zea ?_ _) | (with_reducible refine Kd.zfa ?_ _) | (with_reducible refine Kd.zia ?_))); (case side2 => exact HC0_0.out); (case side3 => repeat (first | exact (Kd.zu HR0_1.out HB.out) | (with_reducible refine Kd.zea ?_ _) | (with_reducible refine Kd.zfa ?_ _) | (with_reducible refine Kd.zia ?_))); (case side4 => exact HC0_1.out); rintro e w75 ⟨rfl, hb⟩; refine ⟨_, rfl, ?_⟩; have n0_ := zb.mk (zr (g := gb202) (o := .cells #[.slice A0_0 l0_0.length c0_0, .slice A0_1 l0_1.length c0_1, .int .i64 a0_2] 73 (0, 0)) (by (with_reducible repeat first | apply zi | apply zl | apply zh); exact BK202.out) hb); have n1_ := zb.mk (zr (g := gb203) (o := .cells #[.int .i64 a1_0, .int .i64 a1_1] 68 (0, 0)) (by (with_reducible repeat first | apply zi | apply zl | apply zh); exact BK203.out) hb); have n2_ := zb.mk (zr (g := gb204) (o := .cells #[.int .i64 a2_0, .int .i64 a2_1] 68 (0, 0)) (by (with_reducible repeat first | apply zi | apply zl | apply zh); exact BK204.out) hb); have n3_ := zb.mk (zo (by repeat with_reducible first | exact HB.out | apply zd | apply za | apply ze | refine zk ?_ GE202.out | refine zk ?_ GE203.out | refine zk ?_ GE204.out) hb); clear BK202; clear BK203; clear BK204; clear HB; have BK202 := n0_; have BK203 := n1_; have BK204 := n2_; have HB := n3_; clear n0_ n1_ n2_ n3_; (try clear hb)) | ((with_reducible refine zda (N := 12) rfl ?_); refine zaa ?hg (N := 12) ?hd (cs := #[.bool false, .int .i64 0, .int .i64 0]) (t := 70) ?hr ?_; (case hd => rfl); (case hg => rfl); (case hr => first | (go_simp; done) | (go_simp; rfl)); intro gb214 hg w76 hbox hb; have n0_ := zb.mk (zr (g := gb202) (o := .cells #[.slice A0_0 l0_0.length c0_0, .slice A0_1 l0_1.length c0_1, .int .i64 a0_2] 73 (0, 0)) (by (with_reducible repeat first | apply zi | apply zl | apply zh); exact BK202.out) hb); have n1_ := zb.mk (zr (g := gb203) (o := .cells #[.int .i64 a1_0, .int .i64 a1_1] 68 (0, 0)) (by (with_reducible repeat first | apply zi | apply zl | apply zh); exact BK203.out) hb); have n2_ := zb.mk (zr (g := gb204) (o := .cells #[.int .i64 a2_0, .int .i64 a2_1] 68 (0, 0)) (by (with_reducible repeat first | apply zi | apply zl | apply zh); exact BK204.out) hb); have n3_ := zb.mk (zo (by repeat with_reducible first | exact HB.out | apply zd | apply za | apply ze | refine zk ?_ GE202.out | refine zk ?_ GE203.out | refine zk ?_ GE204.out) hb); have n4_ := zb.mk (hbox); have n5_ := zb.mk ((by rw [hg]; exact (zn (by repeat with_reducible first | exact HB.out | apply zd | apply za | apply ze | refine zk ?_ GE202.out | refine zk ?_ GE203.out | refine zk ?_ GE204.out)) : w.heap.size ≤ gb214)); have n6_ := zb.mk ((by rw [hg]; exact (zn (by repeat with_reducible first | exact HB.out | apply zd | apply za | apply ze | refine zk ?_ GE202.out | refine zk ?_ GE203.out | refine zk ?_ GE204.out)) : w.heap.size ≤ gb214)); have n7_ := zb.mk ((by rw [hg]; exact Nat.ne_of_lt (zja (g := gb202) (o := .cells #[.slice A0_0 l0_0.length c0_0, .slice A0_1 l0_1.length c0_1, .int .i64 a0_2] 73 (0, 0)) (by (with_reducible repeat first | apply zi | apply zl | apply zh); exact BK202.out)) : gb202 ≠ gb214)); have n8_ := zb.mk ((by rw [hg]; exact Nat.ne_of_gt (zja (g := gb202) (o := .cells #[.slice A0_0 l0_0.length c0_0, .slice A0_1 l0_1.length c0_1, .int .i64 a0_2] 73 (0, 0)) (by (with_reducible repeat first | apply zi | apply zl | apply zh); exact BK202.out)) : gb214 ≠ gb202)); have n9_ := zb.mk ((by rw [hg]; exact Nat.ne_of_lt (zja (g := gb203) (o := .cells #[.int .i64 a1_0, .int .i64 a1_1] 68 (0, 0)) (by (with_reducible repeat first | apply zi | apply zl | apply zh); exact BK203.out)) : gb203 ≠ gb214)); have n10_ := zb.mk ((by rw [hg]; exact Nat.ne_of_gt (zja (g := gb203) (o := .cells #[.int .i64 a1_0, .int .i64 a1_1] 68 (0, 0)) (by (with_reducible repeat first | apply zi | apply zl | apply zh); exact BK203.out)) : gb214 ≠ gb203)); have n11_ := zb.mk ((by rw [hg]; exact Nat.ne_of_lt (zja (g := gb204) (o := .cells #[.int .i64 a2_0, .int .i64 a2_1] 68 (0, 0)) (by (with_reducible repeat first | apply zi | apply zl | apply zh); exact BK204.out)) : gb204 ≠ gb214)); have n12_ := zb.mk ((by rw [hg]; exact Nat.ne_of_gt (zja (g := gb204) (o := .cells #[.int .i64 a2_0, .int .i64 a2_1] 68 (0, 0)) (by (with_reducible repeat first | apply zi | apply zl | apply zh); exact BK204.out)) : gb214 ≠ gb204)); clear BK202; clear BK203; clear BK204; clear HB; have BK202 := n0_; have BK203 := n1_; have BK204 := n2_; have HB := n3_; have BK214 := n4_; have GW214 := n5_; have GE214 := n6_; have NB202_214 := n7_; have NB214_202 := n8_; have NB203_214 := n9_; have NB214_203 := n10_; have NB204_214 := n11_; have NB214_204 := n12_; clear n0_ n1_ n2_ n3_ n4_ n5_ n6_ n7_ n8_ n9_ n10_ n11_ n12_; clear hb hbox hg; have hnb77 := NB214_202.out; have hnc77 := NB202_214.out; have hnb78 := NB214_203.out; have hnc78 := NB203_214.out; have hnb79 := NB214_204.out; have hnc79 := NB204_214.out; have hcz80_0 : w76.cell? ⟨gb214, 0, none⟩ = some (.bool false) := (zg BK214.out 0).trans rfl; have hcz80_1 : w76.cell? ⟨gb214, 1, none⟩ = some (.int .i64 0) := (zg BK214.out 1).trans rfl; have hcz80_2 : w76.cell? ⟨gb214, 2, none⟩ = some (.int .i64 0) := (zg BK214.out 2).trans rfl; have hfz80_0 := zf BK214.out 0; have hfz80_1 := zf BK214.out 1; have hfz80_2 := zf BK214.out 2; have hnb81 := NB204_203.out; have hnc81 := NB203_204.out; have hcz82_0 : w76.cell? ⟨gb204, 0, none⟩ = some (.int .i64 a2_0) := (zg BK204.out 0).trans rfl; have hcz82_1 : w76.cell? ⟨gb204, 1, none⟩ = some (.int .i64 a2_1) := (zg BK204.out 1).trans rfl; have hfz82_0 := zf BK204.out 0; have hfz82_1 := zf BK204.out 1) | ((with_reducible refine zt (f := 96) rfl ?_); refine zka (some 74) rfl rfl Tryz.func96 (by kernel_rfl) rfl #[.agg #[.int .i64 a2_0, .int .i64 a2_1], .int .i64 t212] rfl (by (try simp only [List.map_toArray, List.map_cons, List.map_nil]); first | done | rfl | (simp only [List.length_drop, List.length_take]; rfl)) ?_; (with_reducible refine (clocks_Date.calls k3 a2_0 a2_1 t212 t215 true _ A37.out).mono ?_); rintro e w83 ⟨rfl, hb⟩; refine ⟨_, rfl, ?_⟩; have n0_ := zb.mk (zr (g := gb202) (o := .cells #[.slice A0_0 l0_0.length c0_0, .slice A0_1 l0_1.length c0_1, .int .i64 a0_2] 73 (0, 0)) (by (with_reducible repeat first | apply zi | apply zl | apply zh); refine zha ?_ NB202_214.out _; (with_reducible repeat first | apply zi | apply zl | apply zh); refine zha ?_ NB202_214.out _; (with_reducible repeat first | apply zi | apply zl | apply zh); refine zha ?_ NB202_214.out _; (with_reducible repeat first | apply zi | apply zl | apply zh); exact BK202.out) hb); have n1_ := zb.mk (zr (g := gb203) (o := .cells #[.int .i64 a1_0, .int .i64 a1_1] 68 (0, 0)) (by (with_reducible repeat first | apply zi | apply zl | apply zh); refine zha ?_ NB203_214.out _; (with_reducible repeat first | apply zi | apply zl | apply zh); refine zha ?_ NB203_214.out _; (with_reducible repeat first | apply zi | apply zl | apply zh); refine zha ?_ NB203_214.out _; (with_reducible repeat first | apply zi | apply zl | apply zh); exact BK203.out) hb); have n2_ := zb.mk (zr (g := gb204) (o := .cells #[.int .i64 a2_0, .int .i64 a2_1] 68 (0, 0)) (by (with_reducible repeat first | apply zi | apply zl | apply zh); refine zha ?_ NB204_214.out _; (with_reducible repeat first | apply zi | apply zl | apply zh); refine zha ?_ NB204_214.out _; (with_reducible repeat first | apply zi | apply zl | apply zh); refine zha ?_ NB204_214.out _; (with_reducible repeat first | apply zi | apply zl | apply zh); exact BK204.out) hb); have n3_ := zb.mk (zr (g := gb214) (o := .cells #[.bool false, .int .i64 t211, .int .i64 t212] 70 (0, 0)) (by (with_reducible repeat first | apply zi | apply zl | apply zh); refine zba (cs := #[.bool false, .int .i64 t211, .int .i64 0]) ?_ 2 _ rfl; (with_reducible repeat first | apply zi | apply zl | apply zh); refine zba (cs := #[.bool false, .int .i64 0, .int .i64 0]) ?_ 1 _ rfl; (with_reducible repeat first | apply zi | apply zl | apply zh); refine zba (cs := #[.bool false, .int .i64 0, .int .i64 0]) ?_ 0 _ rfl; (with_reducible repeat first | apply zi | apply zl | apply zh); exact BK214.out) hb); have n4_ := zb.mk (zo (by repeat with_reducible first | exact HB.out | apply zd | apply za | apply ze | refine zk ?_ GE202.out | refine zk ?_ GE203.out | refine zk ?_ GE204.out | refine zk ?_ GE214.out) hb); clear BK202; clear BK203; clear BK204; clear BK214; clear HB; have BK202 := n0_; have BK203 := n1_; have BK204 := n2_; have BK214 := n3_; have HB := n4_; clear n0_ n1_ n2_ n3_ n4_; (try clear hb); have hcz84_0 : w83.cell? ⟨gb203, 0, none⟩ = some (.int .i64 a1_0) := (zg BK203.out 0).trans rfl; have hcz84_1 : w83.cell? ⟨gb203, 1, none⟩ = some (.int .i64 a1_1) := (zg BK203.out 1).trans rfl; have hfz84_0 := zf BK203.out 0; have hfz84_1 := zf BK203.out 1) | ((with_reducible refine zt (f := 96) rfl ?_); refine zka (some 80) rfl rfl Tryz.func96 (by kernel_rfl) rfl #[.agg #[.int .i64 a1_0, .int .i64 a1_1], .int .i64 x61_3] rfl (by (try simp only [List.map_toArray, List.map_cons, List.map_nil]); first | done | rfl | (simp only [List.length_drop, List.length_take]; rfl)) ?_; (with_reducible refine (clocks_Date.calls k3 a1_0 a1_1 x61_3 t217 t218 _ A38.out).mono ?_); rintro e w85 ⟨rfl, hb⟩; refine ⟨_, rfl, ?_⟩; have n0_ := zb.mk (zr (g := gb202) (o := .cells #[.slice A0_0 l0_0.length c0_0, .slice A0_1 l0_1.length c0_1, .int .i64 a0_2] 73 (0, 0)) (by (with_reducible repeat first | apply zi | apply zl | apply zh); exact BK202.out) hb); have n1_ := zb.mk (zr (g := gb203) (o := .cells #[.int .i64 a1_0, .int .i64 a1_1] 68 (0, 0)) (by (with_reducible repeat first | apply zi | apply zl | apply zh); exact BK203.out) hb); have n2_ := zb.mk (zr (g := gb204) (o := .cells #[.int .i64 a2_0, .int .i64 a2_1] 68 (0, 0)) (by (with_reducible repeat first | apply zi | apply zl | apply zh); exact BK204.out) hb); have n3_ := zb.mk (zr (g := gb214) (o := .cells #[.bool false, .int .i64 t211, .int .i64 t212] 70 (0, 0)) (by (with_reducible repeat first | apply zi | apply zl | apply zh); exact BK214.out) hb); have n4_ := zb.mk (zo (by repeat with_reducible first | exact HB.out | apply zd | apply za | apply ze | refine zk ?_ GE202.out | refine zk ?_ GE203.out | refine zk ?_ GE204.out | refine zk ?_ GE214.out) hb); clear BK202; clear BK203; clear BK204; clear BK214; clear HB; have BK202 := n0_; have BK203 := n1_; have BK204 := n2_; have BK214 := n3_; have HB := n4_; clear n0_ n1_ n2_ n3_ n4_; (try clear hb); have hcz86_0 : w85.cell? ⟨gb214, 0, none⟩ = some (.bool false) := (zg BK214.out 0).trans rfl; have hcz86_1 : w85.cell? ⟨gb214, 1, none⟩ = some (.int .i64 t211) := (zg BK214.out 1).trans rfl; have hcz86_2 : w85.cell? ⟨gb214, 2, none⟩ = some (.int .i64 t212) := (zg BK214.out 2).trans rfl; have hfz86_0 := zf BK214.out 0; have hfz86_1 := zf BK214.out 1; have hfz86_2 := zf BK214.out 2))
             go_roundg k3
             case measure => have := HJ3.out; have := HJ21.out; have := HK3.out; omega
             case rel => exact ⟨(wrap64 (x61_3 + 1)), (by first | rfl | (simp; done) | (simp [*]; done)), H', ⟨by have := HJ3.out; have := HJ21.out; have := HK3.out; omega⟩, ⟨by (with_reducible repeat first | apply zi | apply zl | apply zh); exact BK202.out⟩, ⟨by (with_reducible repeat first | apply zi | apply zl | apply zh); exact BK203.out⟩, ⟨by (with_reducible repeat first | apply zi | apply zl | apply zh); exact BK204.out⟩, ⟨by repeat with_reducible first | exact HB.out | apply zd | apply za | apply ze | refine zk ?_ GE202.out | refine zk ?_ GE203.out | refine zk ?_ GE204.out | refine zk ?_ GE214.out⟩⟩
           ·replace c55 := Bool.eq_false_iff.mpr c55
            subst c55
            have H1 : (some false) = some true := by rw [if_neg (show ¬ (false = true) by decide)] at H; exact H
            exact absurd (Option.some.inj H1) (by decide)
         ·rw [if_neg c35] at H
          have c35b0 : decide (x61_3 < (wrap64 ((l0_0.length : Int) + (l0_1.length : Int)))) = false := decide_eq_false c35
          clear c35
          clear H
          go_wp2
          go_ret
          exact ⟨by first | rfl | (simp [zp, zq] <;> rfl) | (simp [*, zp, zq] <;> rfl), by repeat with_reducible first | exact HB.out | apply zd | apply za | apply ze | refine zk ?_ GE202.out | refine zk ?_ GE203.out | refine zk ?_ GE204.out⟩
end
end Go.Proofs.YtfondhcppjkchaaGreat.Q
