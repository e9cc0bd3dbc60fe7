import Derived.Test.YtfondhcppjkchaaGreatC3
import Derived.Test.YtfondhcppjkchaaGreatC20
import Derived.Test.YtfondhcppjkchaaGreatC23
import Derived.Test.YtfondhcppjkchaaGreatC16
import Derived.Test.YtfondhcppjkchaaGreatC40
set_option maxHeartbeats 40000000
set_option maxRecDepth 100000
set_option linter.unusedVariables false
set_option linter.unusedSimpArgs false
namespace Go.Proofs.YtfondhcppjkchaaGreat.Q
noncomputable section
open Go.RowKit Go.Proofs.YtfondhcppjkchaaGreatW.PrintWords Go.Proofs.YtfondhcppjkchaaGreatW.PrintLast Go.Proofs.YtfondhcppjkchaaGreatW.PrintMore
attribute [local go_sem] max2_int min2_int max_two min_two max_three min_three max_four min_four
def gate_Works.l0 : Nat → List Int → List (S27) → List (S61) → List (S56) → Int → Int → Option ((List (S61)) × Int)
 | 0, _, _, _, _, _, _ => none
 | k + 1, x2, x3, x14, x50, x51, x52 => if x52 < x51 then (if 0 ≤ x52 then (if x52 < (x50.length : Int) then (if 0 ≤ ((zca x50 x52).f0) then (if ((zca x50 x52).f0) < (x3.length : Int) then ((words_At.f ((zna x3 ((zca x50 x52).f0)).f0) ((zna x3 ((zca x50 x52).f0)).f1) ((zca x50 x52).f1)).bind fun bt300 => (if ((zca x50 x52).f0) < (x2.length : Int) then (if x14.length < 5864062014805 then (gate_Works.l0 k x2 x3 (x14 ++ [(⟨(zca x50 x52).f2, wrap64 (((zca x50 x52).f2) + bt300.1), rd x2 ((zca x50 x52).f0)⟩ : S61)]) x50 x51 (wrap64 (x52 + 1))) else (none)) else (none))) else (none)) else (none)) else (none)) else (none)) else (some (x14, 0))
def gate_Works.f (k : Nat) (l0 : List (S78)) (l1 : List (S68)) (l2 : List Int) (l3 : List (S27)) : Option ((List (S61)) × Int) := (due_Check.f l0 l1 l2 l3).bind fun t288 => (if t288 = 0 then ((unfold_Of.f l0 l1).bind fun bt289 => (if bt289.2.2 = 0 then ((unfold_Jobs.f k l0 (wrap64 (bt289.1 + (wrap64 (3 * bt289.2.1))))).bind fun bt293 => (if bt293.2 = 0 then (gate_Works.l0 k l2 l3 ([] : List (S61)) bt293.1 (bt293.1.length : Int) 0) else (some (([] : List (S61)), bt293.2)))) else (some (([] : List (S61)), bt289.2.2)))) else (some (([] : List (S61)), t288)))
theorem gate_Works.zma : ∀ k, (∀ y0 y1 y2 y3 y4 y5, LeO (gate_Works.l0 k y0 y1 y2 y3 y4 y5) (gate_Works.l0 (k + 1) y0 y1 y2 y3 y4 y5))
 | 0 => fun _ _ _ _ _ _ r h => by simp [gate_Works.l0] at h
 | k + 1 => by
  have ih0 := gate_Works.zma k
  ·intro y0 y1 y2 y3 y4 y5
   unfold gate_Works.l0
   repeat' first
   | (with_reducible exact ih0 _ _ _ _ _ _)
   | (with_reducible exact unfold_Jobs.mono _ _ _)
   | (with_reducible exact LeO.refl _)
   | (with_reducible exact LeO.none _)
   | (with_reducible refine LeO.ite ?_ ?_)
   | (with_reducible refine LeO.bind ?_ (fun _ => ?_))
   | exact ih0 _ _ _ _ _ _
   | exact unfold_Jobs.mono _ _ _
   | exact LeO.none _
   | refine LeO.ite ?_ ?_
   | refine LeO.bind ?_ (fun _ => ?_)
theorem gate_Works.mono : ∀ a0 a1 a2 a3 k, LeO (gate_Works.f k a0 a1 a2 a3) (gate_Works.f (k + 1) a0 a1 a2 a3) := by
 intro a0 a1 a2 a3 k
 have ih0 := gate_Works.zma k
 unfold gate_Works.f
 repeat' first
   | (with_reducible exact ih0 _ _ _ _ _ _)
   | (with_reducible exact unfold_Jobs.mono _ _ _)
   | (with_reducible exact LeO.refl _)
   | (with_reducible exact LeO.none _)
   | (with_reducible refine LeO.ite ?_ ?_)
   | (with_reducible refine LeO.bind ?_ (fun _ => ?_))
   | exact ih0 _ _ _ _ _ _
   | exact unfold_Jobs.mono _ _ _
   | exact LeO.none _
   | refine LeO.ite ?_ ?_
   | refine LeO.bind ?_ (fun _ => ?_)
def gate_Works.T14 : Bool × List (List Nat × List Nat) := (true, [([], []), ([], []), ([1], [1]), ([0, 2], [0, 2]), ([3], [3]), ([], []), ([5], [5]), ([4, 6], [4, 6]), ([7], [7]), ([8], [8]), ([8], [8]), ([9, 7, 0, 1, 2, 3, 4, 5, 6, 7, 8, 9], [9]), ([10, 11, 0, 1, 2, 3, 4, 5, 6, 7, 8, 9, 10, 11], [10])])
def gate_Works.B14 : List Nat := [0, 0, 2, 7, 15, 0, 32, 127, 255, 511, 511, 1023, 4095]
theorem gate_Works.tab14 : rtab .any (opsOf Tryz.f12 14) = gate_Works.T14 := by kernel_rfl
theorem gate_Works.bits14 : waitsOk gate_Works.T14.2 gate_Works.B14 = true := by kernel_rfl
def gate_Works.T15 : Bool × List (List Nat × List Nat) := (true, [([], []), ([], []), ([1], [1]), ([], []), ([3], [3]), ([], []), ([4, 5], [4, 5]), ([], []), ([], []), ([8], [8]), ([7, 9], [7, 9]), ([10], [10]), ([2, 6, 11], [2, 6, 11]), ([12], [12]), ([0, 13], [0, 13]), ([14, 14, 0, 1, 2, 3, 4, 5, 6, 7, 8, 9, 10, 11, 12, 13, 14], [0, 14])])
def gate_Works.B15 : List Nat := [0, 0, 2, 0, 8, 0, 56, 0, 0, 256, 896, 1920, 4094, 8190, 16383, 32767]
theorem gate_Works.tab15 : rtab .any (opsOf Tryz.f12 15) = gate_Works.T15 := by kernel_rfl
theorem gate_Works.bits15 : waitsOk gate_Works.T15.2 gate_Works.B15 = true := by kernel_rfl
theorem gate_Works.calls (k : Nat) (A0 : Option Addr) (c0 : Nat) (l0 : List (S78)) (A1 : Option Addr) (c1 : Nat) (l1 : List (S68)) (A2 : Option Addr) (c2 : Nat) (l2 : List Int) (A3 : Option Addr) (c3 : Nat) (l3 : List (S27)) (r1 : List (S61)) (r2 : Int) (w : World) (hr0 : Kd.C k78 w A0 l0.length l0) (hc0 : l0.length ≤ c0) (hr1 : Kd.C k68 w A1 l1.length l1) (hc1 : l1.length ≤ c1) (hr2 : Kd.C (Kd.int .i64) w A2 l2.length l2) (hc2 : l2.length ≤ c2) (hr3 : Kd.C k27 w A3 l3.length l3) (hc3 : l3.length ≤ c3) (h : gate_Works.f k l0 l1 l2 l3 = some (r1, r2)) :
  Calls Tryz.prog 12 #[.slice A0 l0.length c0, .slice A1 l1.length c1, .slice A2 l2.length c2, .slice A3 l3.length c3] w fun e w' => ∃ v0_ : Value, e = .returned (.tuple #[v0_, .int .i64 r2]) ∧ Kd.R k61 61 w' w.heap.size (fun _ => True) v0_ r1 ∧ Below w.heap.size w w' := by
 have hu39 := Tryz.underlying39
 have hu56 := Tryz.underlying56
 have hu27 := Tryz.underlying27
 have hu61 := Tryz.underlying61
 have HR0 := zb.mk hr0
 have HC0 := zb.mk hc0
 clear hr0 hc0
 have HR1 := zb.mk hr1
 have HC1 := zb.mk hc1
 clear hr1 hc1
 have HR2 := zb.mk hr2
 have HC2 := zb.mk hc2
 clear hr2 hc2
 have HR3 := zb.mk hr3
 have HC3 := zb.mk hc3
 clear hr3 hc3
 have HB := zb.mk (Below.refl w.heap.size w)
 have H : ((due_Check.f l0 l1 l2 l3).bind fun t288 => (if t288 = 0 then ((unfold_Of.f l0 l1).bind fun bt289 => (if bt289.2.2 = 0 then ((unfold_Jobs.f k l0 (wrap64 (bt289.1 + (wrap64 (3 * bt289.2.1))))).bind fun bt293 => (if bt293.2 = 0 then (gate_Works.l0 k l2 l3 ([] : List (S61)) bt293.1 (bt293.1.length : Int) 0) else (some (([] : List (S61)), bt293.2)))) else (some (([] : List (S61)), bt289.2.2)))) else (some (([] : List (S61)), t288)))) = some (r1, r2) := h
 clear h
 replace H := Option.bind_eq_some_iff.mp H
 obtain ⟨t288, A50, H⟩ := H
 replace H : (if t288 = 0 then ((unfold_Of.f l0 l1).bind fun bt289 => (if bt289.2.2 = 0 then ((unfold_Jobs.f k l0 (wrap64 (bt289.1 + (wrap64 (3 * bt289.2.1))))).bind fun bt293 => (if bt293.2 = 0 then (gate_Works.l0 k l2 l3 ([] : List (S61)) bt293.1 (bt293.1.length : Int) 0) else (some (([] : List (S61)), bt293.2)))) else (some (([] : List (S61)), bt289.2.2)))) else (some (([] : List (S61)), t288))) = some (r1, r2) := H
 have A5 := zb.mk A50
 clear A50
 by_cases c6 : t288 = 0
 ·rw [if_pos c6] at H
  have c6b0 : (t288 == 0) = true := beq_iff_eq.mpr c6
  have c6b1 : (t288 != 0) = false := bne_eq_false_iff_eq.mpr c6
  clear c6
  replace H := Option.bind_eq_some_iff.mp H
  obtain ⟨⟨t289, t290, t291⟩, A70, H⟩ := H
  replace H : (if t291 = 0 then ((unfold_Jobs.f k l0 (wrap64 (t289 + (wrap64 (3 * t290))))).bind fun bt293 => (if bt293.2 = 0 then (gate_Works.l0 k l2 l3 ([] : List (S61)) bt293.1 (bt293.1.length : Int) 0) else (some (([] : List (S61)), bt293.2)))) else (some (([] : List (S61)), t291))) = some (r1, r2) := H
  have A7 := zb.mk A70
  clear A70
  by_cases c8 : t291 = 0
  ·rw [if_pos c8] at H
   have c8b0 : (t291 == 0) = true := beq_iff_eq.mpr c8
   have c8b1 : (t291 != 0) = false := bne_eq_false_iff_eq.mpr c8
   clear c8
   replace H := Option.bind_eq_some_iff.mp H
   obtain ⟨⟨t293, t294⟩, A90, H⟩ := H
   replace H : (if t294 = 0 then (gate_Works.l0 k l2 l3 ([] : List (S61)) t293 (t293.length : Int) 0) else (some (([] : List (S61)), t294))) = some (r1, r2) := H
   have A9 := zb.mk A90
   clear A90
   by_cases c10 : t294 = 0
   ·rw [if_pos c10] at H
    have c10b0 : (t294 == 0) = true := beq_iff_eq.mpr c10
    have c10b1 : (t294 != 0) = false := bne_eq_false_iff_eq.mpr c10
    clear c10
    have H' := zb.mk H
    clear H
    go_enter Tryz.func12, Tryz.ntmps12
    go_wp2_with (first | ((with_reducible refine zt (f := 14) rfl ?_); refine zka (some 23) rfl rfl Tryz.func14 (by kernel_rfl) rfl #[.slice A0 l0.length c0, .slice A1 l1.length c1, .slice A2 l2.length c2, .slice A3 l3.length c3] rfl (by (try simp only [List.map_toArray, List.map_cons, List.map_nil]); first | done | rfl | (simp only [List.length_drop, List.length_take]; rfl)) ?_; (with_reducible refine (due_Check.calls _ _ l0 _ _ l1 _ _ l2 _ _ l3 t288 _ ?side1 ?side2 ?side3 ?side4 ?side5 ?side6 ?side7 ?side8 A5.out).mono ?_); (case side1 => repeat (first | exact HR0.out | (with_reducible refine Kd.zea ?_ _) | (with_reducible refine Kd.zfa ?_ _) | (with_reducible refine Kd.zia ?_))); (case side2 => exact HC0.out); (case side3 => repeat (first | exact HR1.out | (with_reducible refine Kd.zea ?_ _) | (with_reducible refine Kd.zfa ?_ _) | (with_reducible refine Kd.zia ?_))); (case side4 => exact HC1.out); (case side5 => repeat (first | exact HR2.out | (with_reducible refine Kd.zea ?_ _) | (with_reducible refine Kd.zfa ?_ _) | (with_reducible refine Kd.zia ?_))); (case side6 => exact HC2.out); (case side7 => repeat (first | exact HR3.out | (with_reducible refine Kd.zea ?_ _) | (with_reducible refine Kd.zfa ?_ _) | (with_reducible refine Kd.zia ?_))); (case side8 => exact HC3.out); rintro e w11 ⟨rfl, hb⟩; refine ⟨_, rfl, ?_⟩; have n0_ := zb.mk (zo (by repeat with_reducible first | exact HB.out | apply zd | apply za | apply ze) hb); clear HB; have HB := n0_; clear n0_; (try clear hb); (try clear hk)) | ((with_reducible refine zt (f := 29) rfl ?_); refine zka (some 30) rfl rfl Tryz.func29 (by kernel_rfl) rfl #[.slice A0 l0.length c0, .slice A1 l1.length c1] rfl (by (try simp only [List.map_toArray, List.map_cons, List.map_nil]); first | done | rfl | (simp only [List.length_drop, List.length_take]; rfl)) ?_; (with_reducible refine (unfold_Of.calls _ _ l0 _ _ l1 t289 t290 t291 _ ?side1 ?side2 ?side3 ?side4 A7.out).mono ?_); (case side1 => repeat (first | exact (Kd.zu HR0.out HB.out) | (with_reducible refine Kd.zea ?_ _) | (with_reducible refine Kd.zfa ?_ _) | (with_reducible refine Kd.zia ?_))); (case side2 => exact HC0.out); (case side3 => repeat (first | exact (Kd.zu HR1.out HB.out) | (with_reducible refine Kd.zea ?_ _) | (with_reducible refine Kd.zfa ?_ _) | (with_reducible refine Kd.zia ?_))); (case side4 => exact HC1.out); rintro e w12 ⟨rfl, hb⟩; refine ⟨_, rfl, ?_⟩; have n0_ := zb.mk (zo (by repeat with_reducible first | exact HB.out | apply zd | apply za | apply ze) hb); clear HB; have HB := n0_; clear n0_; (try clear hb); (try clear hk)) | ((with_reducible refine zda (N := 11) rfl ?_); refine zaa ?hg (N := 11) ?hd (cs := #[.int .i64 0, .int .i64 0]) (t := 39) ?hr ?_; (case hd => rfl); (case hg => rfl); (case hr => first | (go_simp; done) | (go_simp; rfl)); intro gb292 hg w13 hbox hb; have n0_ := zb.mk (zo (by repeat with_reducible first | exact HB.out | apply zd | apply za | apply ze) hb); have n1_ := zb.mk (hbox); have n2_ := zb.mk ((by rw [hg]; exact (zn (by repeat with_reducible first | exact HB.out | apply zd | apply za | apply ze)) : w.heap.size ≤ gb292)); have n3_ := zb.mk ((by rw [hg]; exact (zn (by repeat with_reducible first | exact HB.out | apply zd | apply za | apply ze)) : w.heap.size ≤ gb292)); clear HB; have HB := n0_; have BK292 := n1_; have GW292 := n2_; have GE292 := n3_; clear n0_ n1_ n2_ n3_; clear hb hbox hg; have hcz14_0 : w13.cell? ⟨gb292, 0, none⟩ = some (.int .i64 0) := (zg BK292.out 0).trans rfl; have hcz14_1 : w13.cell? ⟨gb292, 1, none⟩ = some (.int .i64 0) := (zg BK292.out 1).trans rfl; have hfz14_0 := zf BK292.out 0; have hfz14_1 := zf BK292.out 1) | ((with_reducible refine zt (f := 35) rfl ?_); refine zka (some 44) rfl rfl Tryz.func35 (by kernel_rfl) rfl #[.slice A0 l0.length c0, .int .i64 (wrap64 (t289 + (wrap64 (3 * t290))))] rfl (by (try simp only [List.map_toArray, List.map_cons, List.map_nil]); first | done | rfl | (simp only [List.length_drop, List.length_take]; rfl)) ?_; (with_reducible refine (unfold_Jobs.calls k _ _ l0 (wrap64 (t289 + (wrap64 (3 * t290)))) t293 t294 _ ?side1 ?side2 A9.out).mono ?_); (case side1 => exact Kd.zu HR0.out (by repeat with_reducible first | exact HB.out | apply zd | apply za | apply ze | refine zk ?_ GE292.out)); (case side2 => exact HC0.out); rintro e w15 ⟨v295, rfl, ho0, hb⟩; refine ⟨_, rfl, ?_⟩; have n0_ := zb.mk (Kd.zxa ho0 (zn (by repeat with_reducible first | exact HB.out | apply zd | apply za | apply ze | refine zk ?_ GE292.out))); have n1_ := zb.mk (zr (g := gb292) (o := .cells #[.int .i64 t289, .int .i64 t290] 39 (0, 0)) (by (with_reducible repeat first | apply zi | apply zl | apply zh); refine zba (cs := #[.int .i64 t289, .int .i64 0]) ?_ 1 _ rfl; (with_reducible repeat first | apply zi | apply zl | apply zh); refine zba (cs := #[.int .i64 0, .int .i64 0]) ?_ 0 _ rfl; (with_reducible repeat first | apply zi | apply zl | apply zh); exact BK292.out) hb); have n2_ := zb.mk (zo (by repeat with_reducible first | exact HB.out | apply zd | apply za | apply ze | refine zk ?_ GE292.out) hb); clear BK292; clear HB; have HO296 := n0_; have BK292 := n1_; have HB := n2_; clear n0_ n1_ n2_; (try clear hb); (try clear hk); (try clear ho0); obtain ⟨Ao16, co16, eo16⟩ := Kd.zoa HO296.out; subst eo16))
    go_loopg [14, 52] k (fun kq v14 v52 w' => ∃ (x14_1 : List (S61)) (x52_1 : Int), v52 = .int .i64 x52_1 ∧ zb (gate_Works.l0 kq l2 l3 x14_1 t293 (t293.length : Int) x52_1 = some (r1, r2)) ∧ zb (kq ≤ k) ∧ zb (Kd.R k61 61 w' w.heap.size (fun _ => True) v14 x14_1) ∧ zb (Kd.R k56 56 w' w.heap.size (fun _ => True) (.slice Ao16 t293.length co16) t293) ∧ zb (w'.heap[gb292]? = some (.cells #[.int .i64 t289, .int .i64 t290] 39 (0, 0))) ∧ zb (Below w.heap.size w w'))
    case atStart => exact ⟨(([] : List (S61))), (0), (by first | rfl | (simp; done) | (simp [*]; done)), H', ⟨Nat.le_refl _⟩, ⟨by first | exact Kd.R_nil _ _ _ _ _ | exact Kd.N_nil _ _ _ _ _ | exact Kd.V_nil _ _ _ _ _ | exact Kd.Q_nil _ _ _ _ _ | exact Kd.S_nil _ _ _ _ _⟩, ⟨by (with_reducible repeat (first | apply Kd.zv | apply Kd.zx | apply Kd.zz)); exact HO296.out⟩, ⟨by (with_reducible repeat first | apply zi | apply zl | apply zh); exact BK292.out⟩, ⟨by repeat with_reducible first | exact HB.out | apply zd | apply za | apply ze | refine zk ?_ GE292.out⟩⟩
    case round =>
     clear H'
     try clear c1
     try clear c2
     try clear p2
     try clear c3
     try clear c6
     try clear c6b0
     try clear c6b1
     try clear p6
     try clear c8
     try clear c8b0
     try clear c8b1
     try clear c10
     try clear c10b0
     try clear c10b1
     try clear c12
     try clear c14
     try clear hcz14_0
     try clear hcz14_1
     try clear hfz14_0
     try clear hfz14_1
     obtain ⟨x14_1, x52_1, rfl, HA, HK1, HO_14, HO_50, BK292, HB⟩ := hrel
     cases gk with
     | zero => exact absurd HA.out (by simp [gate_Works.l0])
     | succ k1 =>
      have H := HA.out
      clear HA
      simp only [gate_Works.l0] at H
      by_cases c17 : x52_1 < (t293.length : Int)
      ·rw [if_pos c17] at H
       have c17b0 : decide (x52_1 < (t293.length : Int)) = true := decide_eq_true c17
       clear c17
       by_cases c18 : 0 ≤ x52_1
       ·rw [if_pos c18] at H
        have c18b0 : decide (0 ≤ x52_1) = true := decide_eq_true c18
        clear c18
        by_cases c19 : x52_1 < (t293.length : Int)
        ·rw [if_pos c19] at H
         have c19b0 : decide (x52_1 < (t293.length : Int)) = true := decide_eq_true c19
         clear c19
         by_cases c20 : 0 ≤ ((zca t293 x52_1).f0)
         ·rw [if_pos c20] at H
          have c20b0 : decide (0 ≤ ((zca t293 x52_1).f0)) = true := decide_eq_true c20
          clear c20
          by_cases c21 : ((zca t293 x52_1).f0) < (l3.length : Int)
          ·rw [if_pos c21] at H
           have c21b0 : decide (((zca t293 x52_1).f0) < (l3.length : Int)) = true := decide_eq_true c21
           clear c21
           replace H := Option.bind_eq_some_iff.mp H
           obtain ⟨⟨t300, t301⟩, A220, H⟩ := H
           replace H : (if ((zca t293 x52_1).f0) < (l2.length : Int) then (if x14_1.length < 5864062014805 then (gate_Works.l0 k1 l2 l3 (x14_1 ++ [(⟨(zca t293 x52_1).f2, wrap64 (((zca t293 x52_1).f2) + t300), rd l2 ((zca t293 x52_1).f0)⟩ : S61)]) t293 (t293.length : Int) (wrap64 (x52_1 + 1))) else (none)) else (none)) = some (r1, r2) := H
           have A22 := zb.mk A220
           clear A220
           by_cases c23 : ((zca t293 x52_1).f0) < (l2.length : Int)
           ·rw [if_pos c23] at H
            have c23b0 : decide (((zca t293 x52_1).f0) < (l2.length : Int)) = true := decide_eq_true c23
            clear c23
            by_cases c24 : x14_1.length < 5864062014805
            ·rw [if_pos c24] at H
             have LMc24 := zb.mk c24
             clear c24
             obtain ⟨y303, hy303⟩ : ∃ y_ : List (S61), y_ = (x14_1 ++ [(⟨(zca t293 x52_1).f2, wrap64 (((zca t293 x52_1).f2) + t300), rd l2 ((zca t293 x52_1).f0)⟩ : S61)]) := ⟨_, rfl⟩
             replace H : (gate_Works.l0 k1 l2 l3 y303 t293 (t293.length : Int) (wrap64 (x52_1 + 1))) = some (r1, r2) := by first | (rw [hy303]; with_reducible exact H) | (have H2_ := (Option.bind_some _ _).symm.trans H; rw [hy303]; with_reducible exact H2_) | (have H2_ := (Option.bind_some _ _).symm.trans H; with_reducible exact H2_) | with_reducible exact H | (rw [hy303]; exact H) | exact H
             have Ny303 := zb.mk hy303
             clear hy303
             have H' := zb.mk H
             clear H
             have p297 : 0 ≤ (x52_1 : Int) := of_decide_eq_true (by first | (with_reducible assumption) | assumption)
             have q297 : x52_1 < (t293.length : Int) := of_decide_eq_true (by first | (with_reducible assumption) | assumption)
             obtain ⟨ad297, e297, hx297_0, hx297_1, hx297_2, hx297_3⟩ := at_T56 (Kd.R_reads' HO_50.out).2.2 x52_1 p297 q297
             cases e297
             replace p297 := eq_true p297
             replace q297 := eq_true q297
             try go_wp2_with (first | ((with_reducible refine zda (N := 16) rfl ?_); refine zaa ?hg (N := 16) ?hd (cs := #[.int .i64 0, .int .i64 0, .int .i64 0, .int .i64 0]) (t := 56) ?hr ?_; (case hd => rfl); (case hg => rfl); (case hr => first | (go_simp; done) | (go_simp; rfl)); intro gb298 hg w25 hbox hb; have n0_ := zb.mk (Kd.zga (by (with_reducible repeat (first | apply Kd.zv | apply Kd.zx | apply Kd.zz)); exact HO_14.out) hb); have n1_ := zb.mk (Kd.zga (Kd.znb (by (with_reducible repeat (first | apply Kd.zv | apply Kd.zx | apply Kd.zz)); exact HO_50.out) gb298 (Nat.le_of_eq hg.symm)) hb); have n2_ := zb.mk (zr (g := gb292) (o := .cells #[.int .i64 t289, .int .i64 t290] 39 (0, 0)) (by (with_reducible repeat first | apply zi | apply zl | apply zh); exact BK292.out) hb); have n3_ := zb.mk (zo (by repeat with_reducible first | exact HB.out | apply zd | apply za | apply ze | refine zk ?_ GE292.out) hb); have n4_ := zb.mk (hbox); have n5_ := zb.mk ((by rw [hg]; exact (zn (by repeat with_reducible first | exact HB.out | apply zd | apply za | apply ze | refine zk ?_ GE292.out)) : w.heap.size ≤ gb298)); have n6_ := zb.mk ((by rw [hg]; exact (zn (by repeat with_reducible first | exact HB.out | apply zd | apply za | apply ze | refine zk ?_ GE292.out)) : w.heap.size ≤ gb298)); have n7_ := zb.mk ((by rw [hg]; exact Nat.ne_of_lt (zja (g := gb292) (o := .cells #[.int .i64 t289, .int .i64 t290] 39 (0, 0)) (by (with_reducible repeat first | apply zi | apply zl | apply zh); exact BK292.out)) : gb292 ≠ gb298)); have n8_ := zb.mk ((by rw [hg]; exact Nat.ne_of_gt (zja (g := gb292) (o := .cells #[.int .i64 t289, .int .i64 t290] 39 (0, 0)) (by (with_reducible repeat first | apply zi | apply zl | apply zh); exact BK292.out)) : gb298 ≠ gb292)); clear HO_14; clear HO_50; clear BK292; clear HB; have HO_14 := n0_; have HO_50 := n1_; have BK292 := n2_; have HB := n3_; have BK298 := n4_; have GW298 := n5_; have GE298 := n6_; have NB292_298 := n7_; have NB298_292 := n8_; clear n0_ n1_ n2_ n3_ n4_ n5_ n6_ n7_ n8_; clear hb hbox hg; have hnb26 := NB298_292.out; have hnc26 := NB292_298.out; have hcz27_0 : w25.cell? ⟨gb298, 0, none⟩ = some (.int .i64 0) := (zg BK298.out 0).trans rfl; have hcz27_1 : w25.cell? ⟨gb298, 1, none⟩ = some (.int .i64 0) := (zg BK298.out 1).trans rfl; have hcz27_2 : w25.cell? ⟨gb298, 2, none⟩ = some (.int .i64 0) := (zg BK298.out 2).trans rfl; have hcz27_3 : w25.cell? ⟨gb298, 3, none⟩ = some (.int .i64 0) := (zg BK298.out 3).trans rfl; have hfz27_0 := zf BK298.out 0; have hfz27_1 := zf BK298.out 1; have hfz27_2 := zf BK298.out 2; have hfz27_3 := zf BK298.out 3))
             have n0_ : zb (Kd.R k61 61 ((((w25.setCell ⟨gb298, 0, none⟩ (.int .i64 ((zca t293 x52_1).f0))).setCell ⟨gb298, 1, none⟩ (.int .i64 ((zca t293 x52_1).f1))).setCell ⟨gb298, 2, none⟩ (.int .i64 ((zca t293 x52_1).f2))).setCell ⟨gb298, 3, none⟩ (.int .i64 ((zca t293 x52_1).f3))) w.heap.size (fun _ => True) u14 x14_1) := ⟨by (with_reducible repeat (first | apply Kd.zv | apply Kd.zx | apply Kd.zz)); exact Kd.zra (Kd.R_far (p := ⟨gb298, 3, none⟩) (Kd.R_far (p := ⟨gb298, 2, none⟩) (Kd.R_far (p := ⟨gb298, 1, none⟩) (Kd.R_far (p := ⟨gb298, 0, none⟩) (Kd.zkb HO_14.out BK298.out (by decide)) (fun _ hk => hk.2) (.int .i64 ((zca t293 x52_1).f0))) (fun _ hk => hk.2) (.int .i64 ((zca t293 x52_1).f1))) (fun _ hk => hk.2) (.int .i64 ((zca t293 x52_1).f2))) (fun _ hk => hk.2) (.int .i64 ((zca t293 x52_1).f3))) (fun _ hk => trivial)⟩
             have n1_ : zb (Kd.R k56 56 ((((w25.setCell ⟨gb298, 0, none⟩ (.int .i64 ((zca t293 x52_1).f0))).setCell ⟨gb298, 1, none⟩ (.int .i64 ((zca t293 x52_1).f1))).setCell ⟨gb298, 2, none⟩ (.int .i64 ((zca t293 x52_1).f2))).setCell ⟨gb298, 3, none⟩ (.int .i64 ((zca t293 x52_1).f3))) w.heap.size (fun k_ => k_ ≠ gb298) (.slice (some ad297) t293.length co16) t293) := ⟨by (with_reducible repeat (first | apply Kd.zv | apply Kd.zx | apply Kd.zz)); exact Kd.zra (Kd.R_far (p := ⟨gb298, 3, none⟩) (Kd.R_far (p := ⟨gb298, 2, none⟩) (Kd.R_far (p := ⟨gb298, 1, none⟩) (Kd.R_far (p := ⟨gb298, 0, none⟩) (Kd.zra HO_50.out (fun k_ hk => (⟨hk, hk.2⟩ : _ ∧ k_ ≠ gb298))) (fun _ hk => hk.2) (.int .i64 ((zca t293 x52_1).f0))) (fun _ hk => hk.2) (.int .i64 ((zca t293 x52_1).f1))) (fun _ hk => hk.2) (.int .i64 ((zca t293 x52_1).f2))) (fun _ hk => hk.2) (.int .i64 ((zca t293 x52_1).f3))) (fun _ hk => hk.1.2)⟩
             have n2_ : zb (((((w25.setCell ⟨gb298, 0, none⟩ (.int .i64 ((zca t293 x52_1).f0))).setCell ⟨gb298, 1, none⟩ (.int .i64 ((zca t293 x52_1).f1))).setCell ⟨gb298, 2, none⟩ (.int .i64 ((zca t293 x52_1).f2))).setCell ⟨gb298, 3, none⟩ (.int .i64 ((zca t293 x52_1).f3))).heap[gb292]? = some (.cells #[.int .i64 t289, .int .i64 t290] 39 (0, 0))) := ⟨by (with_reducible repeat first | apply zi | apply zl | apply zh); refine zha ?_ NB292_298.out _; (with_reducible repeat first | apply zi | apply zl | apply zh); refine zha ?_ NB292_298.out _; (with_reducible repeat first | apply zi | apply zl | apply zh); refine zha ?_ NB292_298.out _; (with_reducible repeat first | apply zi | apply zl | apply zh); refine zha ?_ NB292_298.out _; (with_reducible repeat first | apply zi | apply zl | apply zh); exact BK292.out⟩
             have n3_ : zb (((((w25.setCell ⟨gb298, 0, none⟩ (.int .i64 ((zca t293 x52_1).f0))).setCell ⟨gb298, 1, none⟩ (.int .i64 ((zca t293 x52_1).f1))).setCell ⟨gb298, 2, none⟩ (.int .i64 ((zca t293 x52_1).f2))).setCell ⟨gb298, 3, none⟩ (.int .i64 ((zca t293 x52_1).f3))).heap[gb298]? = some (.cells #[.int .i64 ((zca t293 x52_1).f0), .int .i64 ((zca t293 x52_1).f1), .int .i64 ((zca t293 x52_1).f2), .int .i64 ((zca t293 x52_1).f3)] 56 (0, 0))) := ⟨by (with_reducible repeat first | apply zi | apply zl | apply zh); refine zba (cs := #[.int .i64 ((zca t293 x52_1).f0), .int .i64 ((zca t293 x52_1).f1), .int .i64 ((zca t293 x52_1).f2), .int .i64 0]) ?_ 3 _ rfl; (with_reducible repeat first | apply zi | apply zl | apply zh); refine zba (cs := #[.int .i64 ((zca t293 x52_1).f0), .int .i64 ((zca t293 x52_1).f1), .int .i64 0, .int .i64 0]) ?_ 2 _ rfl; (with_reducible repeat first | apply zi | apply zl | apply zh); refine zba (cs := #[.int .i64 ((zca t293 x52_1).f0), .int .i64 0, .int .i64 0, .int .i64 0]) ?_ 1 _ rfl; (with_reducible repeat first | apply zi | apply zl | apply zh); refine zba (cs := #[.int .i64 0, .int .i64 0, .int .i64 0, .int .i64 0]) ?_ 0 _ rfl; (with_reducible repeat first | apply zi | apply zl | apply zh); exact BK298.out⟩
             have n4_ : zb (Below w.heap.size w ((((w25.setCell ⟨gb298, 0, none⟩ (.int .i64 ((zca t293 x52_1).f0))).setCell ⟨gb298, 1, none⟩ (.int .i64 ((zca t293 x52_1).f1))).setCell ⟨gb298, 2, none⟩ (.int .i64 ((zca t293 x52_1).f2))).setCell ⟨gb298, 3, none⟩ (.int .i64 ((zca t293 x52_1).f3)))) := ⟨by repeat with_reducible first | exact HB.out | apply zd | apply za | apply ze | refine zk ?_ GE292.out | refine zk ?_ GE298.out⟩
             (try clear HO_14)
             (try clear HO_50)
             (try clear BK292)
             (try clear BK298)
             (try clear HB)
             generalize ((((w25.setCell ⟨gb298, 0, none⟩ (.int .i64 ((zca t293 x52_1).f0))).setCell ⟨gb298, 1, none⟩ (.int .i64 ((zca t293 x52_1).f1))).setCell ⟨gb298, 2, none⟩ (.int .i64 ((zca t293 x52_1).f2))).setCell ⟨gb298, 3, none⟩ (.int .i64 ((zca t293 x52_1).f3))) = w28 at n0_ n1_ n2_ n3_ n4_ ⊢
             have HO_14 := n0_
             have HO_50 := n1_
             have BK292 := n2_
             have BK298 := n3_
             have HB := n4_
             clear n0_ n1_ n2_ n3_ n4_
             have n0_ := zb.mk (Kd.zz HO_14.out)
             have n1_ := zb.mk (Kd.zz HO_50.out)
             have n2_ := zb.mk (zl BK292.out)
             have n3_ := zb.mk (zl BK298.out)
             have n4_ := zb.mk (ze HB.out)
             clear HO_14
             clear HO_50
             clear BK292
             clear BK298
             clear HB
             have HO_14 := n0_
             have HO_50 := n1_
             have BK292 := n2_
             have BK298 := n3_
             have HB := n4_
             clear n0_ n1_ n2_ n3_ n4_
             have p299 : 0 ≤ (((zca t293 x52_1).f0) : Int) := of_decide_eq_true (by first | (with_reducible assumption) | assumption)
             have q299 : ((zca t293 x52_1).f0) < (l3.length : Int) := of_decide_eq_true (by first | (with_reducible assumption) | assumption)
             obtain ⟨ad299, A299_0, c299_0, A299_1, c299_1, e299, hx299_0, hx299_1, hl299_0, hi299_0, hl299_1, hi299_1⟩ := at_T27 HR3.out ((zca t293 x52_1).f0) p299 q299
             have hw299_1 := hx299_1
             have hw299_0 := hx299_0
             cases e299
             replace hx299_0 := (HB.out.cell (World.block_lt_of_cell? w _ hx299_0)).trans hx299_0
             replace hx299_1 := (HB.out.cell (World.block_lt_of_cell? w _ hx299_1)).trans hx299_1
             have HR299_0 := zb.mk hi299_0
             have HC299_0 := zb.mk hl299_0
             clear hi299_0 hl299_0
             have HR299_1 := zb.mk hi299_1
             have HC299_1 := zb.mk hl299_1
             clear hi299_1 hl299_1
             replace p299 := eq_true p299
             replace q299 := eq_true q299
             refine start_ (n := 13) (S := fun w' => w'.cell? ⟨gb298, 0, none⟩ = some (.int .i64 ((zca t293 x52_1).f0)) ∧ w'.cell? ⟨gb298, 1, none⟩ = some (.int .i64 ((zca t293 x52_1).f1)) ∧ w'.cell? ⟨gb298, 2, none⟩ = some (.int .i64 ((zca t293 x52_1).f2)) ∧ w'.cell? ⟨gb298, 3, none⟩ = some (.int .i64 ((zca t293 x52_1).f3)) ∧ w'.cell? (ad299.add ((((zca t293 x52_1).f0)).toNat * 2)) = some (.slice A299_0 ((zna l3 ((zca t293 x52_1).f0)).f0).length c299_0) ∧ w'.cell? ⟨(ad299.add ((((zca t293 x52_1).f0)).toNat * 2)).block, (ad299.add ((((zca t293 x52_1).f0)).toNat * 2)).off + 1, none⟩ = some (.slice A299_1 ((zna l3 ((zca t293 x52_1).f0)).f1).length c299_1)) (ds := []) #[false, false, false, false, false, false, false, false, false, false, false, false, false] (by kernel_rfl) rfl rfl ⟨(zg BK298.out 0).trans rfl, (zg BK298.out 1).trans rfl, (zg BK298.out 2).trans rfl, (zg BK298.out 3).trans rfl, ((HB.out.cell (World.block_lt_of_cell? w _ hw299_0)).trans hw299_0), ((HB.out.cell (World.block_lt_of_cell? w _ hw299_1)).trans hw299_1)⟩ (fun hHeld => ?_); refine with_tabW gate_Works.tab14 gate_Works.bits14 (fun HT_ HW_ => ?_)
             generalize w28.drew = w29 at HO_14 HO_50 BK292 BK298 HB HR299_0 HR299_1 hx299_0 hx299_1 hHeld ⊢
             refine pure_ (i := 0) (N := some 57) (v := ?_) (a' := ?_) #[true, false, false, false, false, false, false, false, false, false, false, false, false] rfl rfl (zqa HT_.out (by kernel_rfl)) (fun _ _ _ h => h) (Or.inl ⟨by rfl, ?_⟩) ?_ ?_
             rotate_left
             ·intro w'
              go_simp
              with_reducible rfl
             rotate_left
             ·simp only [Act.put, List.setIfInBounds_toArray, List.set_cons_zero, List.set_cons_succ, i64_w, i32_w]
              rfl
             refine pure_ (i := 1) (N := some 58) (v := ?_) (a' := ?_) #[true, true, false, false, false, false, false, false, false, false, false, false, false] rfl rfl (zqa HT_.out (by kernel_rfl)) (fun _ _ _ h => h) (Or.inl ⟨by rfl, ?_⟩) ?_ ?_
             rotate_left
             ·intro w'
              go_simp
              with_reducible rfl
             rotate_left
             ·simp only [Act.put, List.setIfInBounds_toArray, List.set_cons_zero, List.set_cons_succ, i64_w, i32_w]
              rfl
             refine pure_ (i := 5) (N := some 62) (v := ?_) (a' := ?_) #[true, true, false, false, false, true, false, false, false, false, false, false, false] rfl rfl (zqa HT_.out (by kernel_rfl)) (fun _ _ _ h => h) (Or.inl ⟨by rfl, ?_⟩) ?_ ?_
             rotate_left
             ·intro w'
              go_simp
              with_reducible rfl
             rotate_left
             ·simp only [Act.put, List.setIfInBounds_toArray, List.set_cons_zero, List.set_cons_succ, i64_w, i32_w]
              rfl
             refine take_ (i := 2) (N := some 59) (v := ?_) (a' := ?_) #[true, true, true, false, false, true, false, false, false, false, false, false, false] rfl rfl (zua HT_.out HW_.out (by kernel_rfl)) (fun _ _ _ h => h) (Or.inl ⟨by rfl, ?_⟩) hHeld ?_ ?_
             rotate_left
             ·rintro w' ⟨s0, s1, s2, s3, s4, s5⟩
              go_simp
              with_reducible rfl
             rotate_left
             ·simp only [Act.put, List.setIfInBounds_toArray, List.set_cons_zero, List.set_cons_succ, i64_w, i32_w]
              rfl
             refine pure_ (i := 3) (N := some 60) (v := ?_) (a' := ?_) #[true, true, true, true, false, true, false, false, false, false, false, false, false] rfl rfl (zqa HT_.out (by kernel_rfl)) (fun _ _ _ h => h) (Or.inl ⟨by rfl, ?_⟩) ?_ ?_
             rotate_left
             ·intro w'
              go_simp
              with_reducible rfl
             rotate_left
             ·simp only [Act.put, List.setIfInBounds_toArray, List.set_cons_zero, List.set_cons_succ, i64_w, i32_w]
              rfl
             refine take_ (i := 4) (N := some 61) (v := ?_) (a' := ?_) #[true, true, true, true, true, true, false, false, false, false, false, false, false] rfl rfl (zua HT_.out HW_.out (by kernel_rfl)) (fun _ _ _ h => h) (Or.inl ⟨by rfl, ?_⟩) hHeld ?_ ?_
             rotate_left
             ·rintro w' ⟨s0, s1, s2, s3, s4, s5⟩
              go_simp
              with_reducible rfl
             rotate_left
             ·simp only [Act.put, List.setIfInBounds_toArray, List.set_cons_zero, List.set_cons_succ, i64_w, i32_w]
              rfl
             refine take_ (i := 6) (N := some 63) (v := ?_) (a' := ?_) #[true, true, true, true, true, true, true, false, false, false, false, false, false] rfl rfl (zua HT_.out HW_.out (by kernel_rfl)) (fun _ _ _ h => h) (Or.inl ⟨by rfl, ?_⟩) hHeld ?_ ?_
             rotate_left
             ·rintro w' ⟨s0, s1, s2, s3, s4, s5⟩
              go_simp
              with_reducible rfl
             rotate_left
             ·simp only [Act.put, List.setIfInBounds_toArray, List.set_cons_zero, List.set_cons_succ, i64_w, i32_w]
              rfl
             refine one_ (i := 7) (N := some 64) #[true, true, true, true, true, true, true, true, false, false, false, false, false] rfl rfl (ztb HT_.out (by kernel_rfl)) (by decide) (fun K hK => ?_)
             refine goes_ Tryz.func25 (by kernel_rfl) rfl #[.agg #[.slice A299_0 ((zna l3 ((zca t293 x52_1).f0)).f0).length c299_0, .slice A299_1 ((zna l3 ((zca t293 x52_1).f0)).f1).length c299_1], .int .i64 ((zca t293 x52_1).f1)] (by rfl) rfl rfl (by (try simp only [List.map_toArray, List.map_cons, List.map_nil]); first | done | rfl | (simp only [List.length_drop, List.length_take]; rfl)) ?_
             with_reducible refine (words_At.calls _ _ ((zna l3 ((zca t293 x52_1).f0)).f0) _ _ ((zna l3 ((zca t293 x52_1).f0)).f1) ((zca t293 x52_1).f1) t300 t301 _ ?side1 ?side2 ?side3 ?side4 A22.out).mono ?_
             (case side1 => repeat (first | exact (Kd.zu HR299_0.out HB.out) | (with_reducible refine Kd.zea ?_ _) | (with_reducible refine Kd.zfa ?_ _) | (with_reducible refine Kd.zia ?_)))
             (case side2 => exact HC299_0.out)
             (case side3 => repeat (first | exact (Kd.zu HR299_1.out HB.out) | (with_reducible refine Kd.zea ?_ _) | (with_reducible refine Kd.zfa ?_ _) | (with_reducible refine Kd.zia ?_)))
             (case side4 => exact HC299_1.out)
             rintro e w30 ⟨rfl, hb⟩
             refine ⟨_, rfl, ?_⟩
             have n0_ := zb.mk (Kd.zga (by (with_reducible repeat (first | apply Kd.zv | apply Kd.zx | apply Kd.zz)); exact HO_14.out) hb)
             have n1_ := zb.mk (Kd.zga (by (with_reducible repeat (first | apply Kd.zv | apply Kd.zx | apply Kd.zz)); exact HO_50.out) hb)
             have n2_ := zb.mk (zr (g := gb292) (o := .cells #[.int .i64 t289, .int .i64 t290] 39 (0, 0)) (by (with_reducible repeat first | apply zi | apply zl | apply zh); exact BK292.out) hb)
             have n3_ := zb.mk (zr (g := gb298) (o := .cells #[.int .i64 ((zca t293 x52_1).f0), .int .i64 ((zca t293 x52_1).f1), .int .i64 ((zca t293 x52_1).f2), .int .i64 ((zca t293 x52_1).f3)] 56 (0, 0)) (by (with_reducible repeat first | apply zi | apply zl | apply zh); exact BK298.out) hb)
             have n4_ := zb.mk (zo (by repeat with_reducible first | exact HB.out | apply zd | apply za | apply ze | refine zk ?_ GE292.out | refine zk ?_ GE298.out) hb)
             clear HO_14
             clear HO_50
             clear BK292
             clear BK298
             clear HB
             have HO_14 := n0_
             have HO_50 := n1_
             have BK292 := n2_
             have BK298 := n3_
             have HB := n4_
             clear n0_ n1_ n2_ n3_ n4_
             (try clear hb)
             (try clear hb2)
             (try clear hk)
             (try clear hi)
             refine hK.out _ _ ⟨(zg BK298.out 0).trans rfl, (zg BK298.out 1).trans rfl, (zg BK298.out 2).trans rfl, (zg BK298.out 3).trans rfl, ((HB.out.cell (World.block_lt_of_cell? w _ hw299_0)).trans hw299_0), ((HB.out.cell (World.block_lt_of_cell? w _ hw299_1)).trans hw299_1)⟩ (fun hHeld => ?_)
             clear hK K
             refine norm_ (a' := ?_) ?_ ?_
             rotate_left
             ·show Act.put _ (some 64) _ = _
              simp only [Act.put, List.setIfInBounds_toArray, List.set_cons_zero, List.set_cons_succ, i64_w, i32_w]
              rfl
             refine pure_ (i := 8) (N := some 56) (v := ?_) (a' := ?_) #[true, true, true, true, true, true, true, true, true, false, false, false, false] rfl rfl (zqa HT_.out (by kernel_rfl)) (fun _ _ _ h => h) (Or.inl ⟨by rfl, ?_⟩) ?_ ?_
             rotate_left
             ·intro w'
              go_simp
              with_reducible rfl
             rotate_left
             ·simp only [Act.put, List.setIfInBounds_toArray, List.set_cons_zero, List.set_cons_succ, i64_w, i32_w]
              rfl
             refine pure_ (i := 9) (N := some 65) (v := ?_) (a' := ?_) #[true, true, true, true, true, true, true, true, true, true, false, false, false] rfl rfl (zqa HT_.out (by kernel_rfl)) (fun _ _ _ h => h) (Or.inl ⟨by rfl, ?_⟩) ?_ ?_
             rotate_left
             ·intro w'
              go_simp
              with_reducible rfl
             rotate_left
             ·simp only [Act.put, List.setIfInBounds_toArray, List.set_cons_zero, List.set_cons_succ, i64_w, i32_w]
              rfl
             refine pure_ (i := 10) (N := some 66) (v := ?_) (a' := ?_) #[true, true, true, true, true, true, true, true, true, true, true, false, false] rfl rfl (zqa HT_.out (by kernel_rfl)) (fun _ _ _ h => h) (Or.inl ⟨by rfl, ?_⟩) ?_ ?_
             rotate_left
             ·intro w'
              go_simp
              with_reducible rfl
             rotate_left
             ·simp only [Act.put, List.setIfInBounds_toArray, List.set_cons_zero, List.set_cons_succ, i64_w, i32_w]
              rfl
             refine pure_ (i := 11) (N := some 17) (v := ?_) (a' := ?_) #[true, true, true, true, true, true, true, true, true, true, true, true, false] rfl rfl (zqa HT_.out (by kernel_rfl)) (fun _ _ _ h => h) (Or.inl ⟨by rfl, ?_⟩) ?_ ?_
             rotate_left
             ·intro w'
              go_simp
              with_reducible rfl
             rotate_left
             ·simp only [Act.put, List.setIfInBounds_toArray, List.set_cons_zero, List.set_cons_succ, i64_w, i32_w]
              rfl
             refine pure_ (i := 12) (N := some 18) (v := ?_) (a' := ?_) #[true, true, true, true, true, true, true, true, true, true, true, true, true] rfl rfl (zqa HT_.out (by kernel_rfl)) (fun _ _ _ h => h) (Or.inl ⟨by rfl, ?_⟩) ?_ ?_
             rotate_left
             ·intro w'
              go_simp
              with_reducible rfl
             rotate_left
             ·simp only [Act.put, List.setIfInBounds_toArray, List.set_cons_zero, List.set_cons_succ, i64_w, i32_w]
              rfl
             refine done_ (done_of HT_.out (by kernel_rfl)) ?_
             try go_wp2
             have n0_ := zb.mk (Kd.zz HO_14.out)
             have n1_ := zb.mk (Kd.zz HO_50.out)
             have n2_ := zb.mk (zl BK292.out)
             have n3_ := zb.mk (zl BK298.out)
             have n4_ := zb.mk (ze HB.out)
             clear HO_14
             clear HO_50
             clear BK292
             clear BK298
             clear HB
             have HO_14 := n0_
             have HO_50 := n1_
             have BK292 := n2_
             have BK298 := n3_
             have HB := n4_
             clear n0_ n1_ n2_ n3_ n4_
             have p302 : 0 ≤ (((zca t293 x52_1).f0) : Int) := of_decide_eq_true (by first | (with_reducible assumption) | assumption)
             have q302 : ((zca t293 x52_1).f0) < (l2.length : Int) := of_decide_eq_true (by first | (with_reducible assumption) | assumption)
             obtain ⟨ad302, e302, hx302_0⟩ := Kd.zya HR2.out ((zca t293 x52_1).f0) p302 q302
             have hw302_0 := hx302_0
             cases e302
             replace hx302_0 := (HB.out.cell (World.block_lt_of_cell? w _ hx302_0)).trans hx302_0
             replace p302 := eq_true p302
             replace q302 := eq_true q302
             refine start_ (n := 16) (S := fun w' => w'.cell? ⟨gb298, 0, none⟩ = some (.int .i64 ((zca t293 x52_1).f0)) ∧ w'.cell? ⟨gb298, 1, none⟩ = some (.int .i64 ((zca t293 x52_1).f1)) ∧ w'.cell? ⟨gb298, 2, none⟩ = some (.int .i64 ((zca t293 x52_1).f2)) ∧ w'.cell? ⟨gb298, 3, none⟩ = some (.int .i64 ((zca t293 x52_1).f3)) ∧ w'.cell? (ad302.add (((zca t293 x52_1).f0)).toNat) = some (.int .i64 (rd l2 ((zca t293 x52_1).f0)))) (ds := []) #[false, false, false, false, false, false, false, false, false, false, false, false, false, false, false, false] (by kernel_rfl) rfl rfl ⟨(zg BK298.out 0).trans rfl, (zg BK298.out 1).trans rfl, (zg BK298.out 2).trans rfl, (zg BK298.out 3).trans rfl, ((HB.out.cell (World.block_lt_of_cell? w _ hw302_0)).trans hw302_0)⟩ (fun hHeld => ?_); refine with_tabW gate_Works.tab15 gate_Works.bits15 (fun HT_ HW_ => ?_)
             generalize w30.drew = w31 at HO_14 HO_50 BK292 BK298 HB hx302_0 hHeld ⊢
             refine pure_ (i := 0) (N := some 67) (v := ?_) (a' := ?_) #[true, false, false, false, false, false, false, false, false, false, false, false, false, false, false, false] rfl rfl (zqa HT_.out (by kernel_rfl)) (fun _ _ _ h => h) (Or.inl ⟨by rfl, ?_⟩) ?_ ?_
             rotate_left
             ·intro w'
              go_simp
              with_reducible rfl
             rotate_left
             ·simp only [Act.put, List.setIfInBounds_toArray, List.set_cons_zero, List.set_cons_succ, i64_w, i32_w]
              rfl
             refine pure_ (i := 1) (N := some 68) (v := ?_) (a' := ?_) #[true, true, false, false, false, false, false, false, false, false, false, false, false, false, false, false] rfl rfl (zqa HT_.out (by kernel_rfl)) (fun _ _ _ h => h) (Or.inl ⟨by rfl, ?_⟩) ?_ ?_
             rotate_left
             ·intro w'
              go_simp
              with_reducible rfl
             rotate_left
             ·simp only [Act.put, List.setIfInBounds_toArray, List.set_cons_zero, List.set_cons_succ, i64_w, i32_w]
              rfl
             refine pure_ (i := 3) (N := some 70) (v := ?_) (a' := ?_) #[true, true, false, true, false, false, false, false, false, false, false, false, false, false, false, false] rfl rfl (zqa HT_.out (by kernel_rfl)) (fun _ _ _ h => h) (Or.inl ⟨by rfl, ?_⟩) ?_ ?_
             rotate_left
             ·intro w'
              go_simp
              with_reducible rfl
             rotate_left
             ·simp only [Act.put, List.setIfInBounds_toArray, List.set_cons_zero, List.set_cons_succ, i64_w, i32_w]
              rfl
             refine pure_ (i := 5) (N := some 72) (v := ?_) (a' := ?_) #[true, true, false, true, false, true, false, false, false, false, false, false, false, false, false, false] rfl rfl (zqa HT_.out (by kernel_rfl)) (fun _ _ _ h => h) (Or.inl ⟨by rfl, ?_⟩) ?_ ?_
             rotate_left
             ·intro w'
              go_simp
              with_reducible rfl
             rotate_left
             ·simp only [Act.put, List.setIfInBounds_toArray, List.set_cons_zero, List.set_cons_succ, i64_w, i32_w]
              rfl
             refine pure_ (i := 7) (N := some 74) (v := ?_) (a' := ?_) #[true, true, false, true, false, true, false, true, false, false, false, false, false, false, false, false] rfl rfl (zqa HT_.out (by kernel_rfl)) (fun _ _ _ h => h) (Or.inl ⟨by rfl, ?_⟩) ?_ ?_
             rotate_left
             ·intro w'
              go_simp
              with_reducible rfl
             rotate_left
             ·simp only [Act.put, List.setIfInBounds_toArray, List.set_cons_zero, List.set_cons_succ, i64_w, i32_w]
              rfl
             refine pure_ (i := 8) (N := some 75) (v := ?_) (a' := ?_) #[true, true, false, true, false, true, false, true, true, false, false, false, false, false, false, false] rfl rfl (zqa HT_.out (by kernel_rfl)) (fun _ _ _ h => h) (Or.inl ⟨by rfl, ?_⟩) ?_ ?_
             rotate_left
             ·intro w'
              go_simp
              with_reducible rfl
             rotate_left
             ·simp only [Act.put, List.setIfInBounds_toArray, List.set_cons_zero, List.set_cons_succ, i64_w, i32_w]
              rfl
             refine take_ (i := 2) (N := some 69) (v := ?_) (a' := ?_) #[true, true, true, true, false, true, false, true, true, false, false, false, false, false, false, false] rfl rfl (zua HT_.out HW_.out (by kernel_rfl)) (fun _ _ _ h => h) (Or.inl ⟨by rfl, ?_⟩) hHeld ?_ ?_
             rotate_left
             ·rintro w' ⟨s0, s1, s2, s3, s4⟩
              go_simp
              with_reducible rfl
             rotate_left
             ·simp only [Act.put, List.setIfInBounds_toArray, List.set_cons_zero, List.set_cons_succ, i64_w, i32_w]
              rfl
             refine take_ (i := 4) (N := some 71) (v := ?_) (a' := ?_) #[true, true, true, true, true, true, false, true, true, false, false, false, false, false, false, false] rfl rfl (zua HT_.out HW_.out (by kernel_rfl)) (fun _ _ _ h => h) (Or.inl ⟨by rfl, ?_⟩) hHeld ?_ ?_
             rotate_left
             ·rintro w' ⟨s0, s1, s2, s3, s4⟩
              go_simp
              with_reducible rfl
             rotate_left
             ·simp only [Act.put, List.setIfInBounds_toArray, List.set_cons_zero, List.set_cons_succ, i64_w, i32_w]
              rfl
             refine pure_ (i := 6) (N := some 73) (v := ?_) (a' := ?_) #[true, true, true, true, true, true, true, true, true, false, false, false, false, false, false, false] rfl rfl (zqa HT_.out (by kernel_rfl)) (fun _ _ _ h => h) (Or.inl ⟨by rfl, ?_⟩) ?_ ?_
             rotate_left
             ·intro w'
              go_simp
              with_reducible rfl
             rotate_left
             ·simp only [Act.put, List.setIfInBounds_toArray, List.set_cons_zero, List.set_cons_succ, i64_w, i32_w]
              rfl
             refine take_ (i := 9) (N := some 76) (v := ?_) (a' := ?_) #[true, true, true, true, true, true, true, true, true, true, false, false, false, false, false, false] rfl rfl (zua HT_.out HW_.out (by kernel_rfl)) (fun _ _ _ h => h) (Or.inl ⟨by rfl, ?_⟩) hHeld ?_ ?_
             rotate_left
             ·rintro w' ⟨s0, s1, s2, s3, s4⟩
              go_simp
              with_reducible rfl
             rotate_left
             ·simp only [Act.put, List.setIfInBounds_toArray, List.set_cons_zero, List.set_cons_succ, i64_w, i32_w]
              rfl
             refine pure_ (i := 10) (N := some 77) (v := ?_) (a' := ?_) #[true, true, true, true, true, true, true, true, true, true, true, false, false, false, false, false] rfl rfl (zqa HT_.out (by kernel_rfl)) (fun _ _ _ h => h) (Or.inl ⟨by rfl, ?_⟩) ?_ ?_
             rotate_left
             ·intro w'
              go_simp
              with_reducible rfl
             rotate_left
             ·simp only [Act.put, List.setIfInBounds_toArray, List.set_cons_zero, List.set_cons_succ, i64_w, i32_w]
              rfl
             refine take_ (i := 11) (N := some 78) (v := ?_) (a' := ?_) #[true, true, true, true, true, true, true, true, true, true, true, true, false, false, false, false] rfl rfl (zua HT_.out HW_.out (by kernel_rfl)) (fun _ _ _ h => h) (Or.inl ⟨by rfl, ?_⟩) hHeld ?_ ?_
             rotate_left
             ·rintro w' ⟨s0, s1, s2, s3, s4⟩
              go_simp
              with_reducible rfl
             rotate_left
             ·simp only [Act.put, List.setIfInBounds_toArray, List.set_cons_zero, List.set_cons_succ, i64_w, i32_w]
              rfl
             refine pure_ (i := 12) (N := some 79) (v := ?_) (a' := ?_) #[true, true, true, true, true, true, true, true, true, true, true, true, true, false, false, false] rfl rfl (zqa HT_.out (by kernel_rfl)) (fun _ _ _ h => h) (Or.inl ⟨by rfl, ?_⟩) ?_ ?_
             rotate_left
             ·intro w'
              go_simp
              with_reducible rfl
             rotate_left
             ·simp only [Act.put, List.setIfInBounds_toArray, List.set_cons_zero, List.set_cons_succ, i64_w, i32_w]
              rfl
             refine one_ (i := 13) (N := some 80) #[true, true, true, true, true, true, true, true, true, true, true, true, true, true, false, false] rfl rfl (ztb HT_.out (by kernel_rfl)) (by decide) (fun K hK => ?_)
             refine value_ (w1 := ?_) (v := ?_) (by rfl) rfl ?_ ?_
             rotate_left 2
             ·go_simp
              constructor
              ·rfl
              ·rfl
             refine hK.out _ _ ⟨(zg (zh BK298.out _) 0).trans rfl, (zg (zh BK298.out _) 1).trans rfl, (zg (zh BK298.out _) 2).trans rfl, (zg (zh BK298.out _) 3).trans rfl, (World.cell?_alloc_lt _ _ _ (World.block_lt_of_cell? _ _ (((HB.out.cell (World.block_lt_of_cell? w _ hw302_0)).trans hw302_0)))).trans (((HB.out.cell (World.block_lt_of_cell? w _ hw302_0)).trans hw302_0))⟩ (fun hHeld => ?_)
             clear hK K
             refine norm_ (a' := ?_) ?_ ?_
             rotate_left
             ·show Act.put _ (some 80) _ = _
              simp only [Act.put, List.setIfInBounds_toArray, List.set_cons_zero, List.set_cons_succ, i64_w, i32_w]
              rfl
             refine one_ (i := 14) (N := some 81) #[true, true, true, true, true, true, true, true, true, true, true, true, true, true, true, false] rfl rfl (ztb HT_.out (by kernel_rfl)) (by decide) (fun K hK => ?_)
             refine Kd.R_append_step k61 (w0 := w) w.heap.size (by rfl) (.tmp 67) (.tmp 80) 34 61 (.agg #[(.int .i64 0), (.int .i64 0), (.int .i64 0)]) 24 rfl Tryz.underlying34 info61 rfl (by decide) (by omega) u14 x14_1 (⟨(zca t293 x52_1).f2, wrap64 (((zca t293 x52_1).f2) + t300), rd l2 ((zca t293 x52_1).f0)⟩ : S61) [.int .i64 ((zca t293 x52_1).f2), .int .i64 (wrap64 (((zca t293 x52_1).f2) + t300)), .int .i64 (rd l2 ((zca t293 x52_1).f0))] (fun _ => True) (fun _ => False) rfl rfl ?aP (fun _ hk => hk.elim) ?aF ?aO ?aB ?aS ?aL ?_
             (case aP => exact k61_mkM _ _ _ (⟨(zca t293 x52_1).f2, wrap64 (((zca t293 x52_1).f2) + t300), rd l2 ((zca t293 x52_1).f0)⟩ : S61))
             (case aB => exact (by repeat with_reducible first | exact HB.out | apply zd | apply za | apply ze | refine zk ?_ GE292.out | refine zk ?_ GE298.out))
             (case aF => exact (fun _ _ => trivial))
             (case aO => exact (by (with_reducible repeat (first | apply Kd.zv | apply Kd.zx | apply Kd.zz)); exact HO_14.out))
             (case aS => exact (zn (by repeat with_reducible first | exact HB.out | apply zd | apply za | apply ze | refine zk ?_ GE292.out | refine zk ?_ GE298.out)))
             (case aL => have := LMc24.out; omega)
             intro v304 w32 ho hb hg hat
             rw [← Ny303.out] at ho
             have n0_ := zb.mk (Kd.R_over' (by (with_reducible repeat (first | apply Kd.zv | apply Kd.zx | apply Kd.zz)); exact HO_50.out) (Kd.R_typed (by (with_reducible repeat (first | apply Kd.zv | apply Kd.zx | apply Kd.zz)); exact HO_14.out)) (by decide) hg)
             have n1_ := zb.mk (zhb (g := gb292) (o := .cells #[.int .i64 t289, .int .i64 t290] 39 (0, 0)) (by (with_reducible repeat first | apply zi | apply zl | apply zh); exact BK292.out) hg (Kd.R_ne HO_14.out BK292.out (by decide)))
             have n2_ := zb.mk (zhb (g := gb298) (o := .cells #[.int .i64 ((zca t293 x52_1).f0), .int .i64 ((zca t293 x52_1).f1), .int .i64 ((zca t293 x52_1).f2), .int .i64 ((zca t293 x52_1).f3)] 56 (0, 0)) (by (with_reducible repeat first | apply zi | apply zl | apply zh); exact BK298.out) hg (Kd.R_ne HO_14.out BK298.out (by decide)))
             have n3_ := zb.mk (hb)
             have n4_ := zb.mk (ho)
             clear HO_50
             clear BK292
             clear BK298
             clear HB
             clear HO_14
             have HO_50 := n0_
             have BK292 := n1_
             have BK298 := n2_
             have HB := n3_
             have HO305 := n4_
             clear n0_ n1_ n2_ n3_ n4_
             clear ho hb hg hat
             refine hK.out _ _ ⟨(zg BK298.out 0).trans rfl, (zg BK298.out 1).trans rfl, (zg BK298.out 2).trans rfl, (zg BK298.out 3).trans rfl, ((HB.out.cell (World.block_lt_of_cell? w _ hw302_0)).trans hw302_0)⟩ (fun hHeld => ?_)
             clear hK K
             refine norm_ (a' := ?_) ?_ ?_
             rotate_left
             ·show Act.put _ (some 81) _ = _
              simp only [Act.put, List.setIfInBounds_toArray, List.set_cons_zero, List.set_cons_succ, i64_w, i32_w]
              rfl
             refine pure_ (i := 15) (N := some 14) (v := ?_) (a' := ?_) #[true, true, true, true, true, true, true, true, true, true, true, true, true, true, true, true] rfl rfl (zqa HT_.out (by kernel_rfl)) (fun _ _ _ h => h) (Or.inl ⟨by rfl, ?_⟩) ?_ ?_
             rotate_left
             ·intro w'
              go_simp
              with_reducible rfl
             rotate_left
             ·simp only [Act.put, List.setIfInBounds_toArray, List.set_cons_zero, List.set_cons_succ, i64_w, i32_w]
              rfl
             refine done_ (done_of HT_.out (by kernel_rfl)) ?_
             try go_wp2
             go_roundg k1
             case measure => have := HK1.out; omega
             case rel => exact ⟨(y303), (wrap64 (x52_1 + 1)), (by first | rfl | (simp; done) | (simp [*]; done)), H', ⟨by have := HK1.out; omega⟩, ⟨by (with_reducible repeat (first | apply Kd.zv | apply Kd.zx | apply Kd.zz)); exact HO305.out⟩, ⟨by (with_reducible repeat (first | apply Kd.zv | apply Kd.zx | apply Kd.zz)); exact Kd.zra HO_50.out (fun _ hk => trivial)⟩, ⟨by (with_reducible repeat first | apply zi | apply zl | apply zh); exact BK292.out⟩, ⟨by repeat with_reducible first | exact HB.out | apply zd | apply za | apply ze | refine zk ?_ GE292.out | refine zk ?_ GE298.out⟩⟩
            ·rw [if_neg c24] at H
             exact absurd H (by simp)
           ·rw [if_neg c23] at H
            exact absurd H (by simp)
          ·rw [if_neg c21] at H
           exact absurd H (by simp)
         ·rw [if_neg c20] at H
          exact absurd H (by simp)
        ·rw [if_neg c19] at H
         exact absurd H (by simp)
       ·rw [if_neg c18] at H
        exact absurd H (by simp)
      ·rw [if_neg c17] at H
       have c17b0 : decide (x52_1 < (t293.length : Int)) = false := decide_eq_false c17
       clear c17
       simp only [Option.some.injEq, Prod.mk.injEq] at H
       obtain ⟨rfl, rfl⟩ := H
       go_wp2
       go_ret2
       exact ⟨_, by first | rfl | (simp [zp, zq] <;> rfl) | (simp [*, zp, zq] <;> rfl), by (with_reducible repeat (first | apply Kd.zv | apply Kd.zx | apply Kd.zz)); exact HO_14.out, by repeat with_reducible first | exact HB.out | apply zd | apply za | apply ze | refine zk ?_ GE292.out⟩
   ·rw [if_neg c10] at H
    have c10b0 : (t294 == 0) = false := beq_eq_false_iff_ne.mpr c10
    have c10b1 : (t294 != 0) = true := bne_iff_ne.mpr c10
    simp only [Option.some.injEq, Prod.mk.injEq] at H
    obtain ⟨rfl, rfl⟩ := H
    go_enter Tryz.func12, Tryz.ntmps12
    go_wp2_with (first | ((with_reducible refine zt (f := 14) rfl ?_); refine zka (some 23) rfl rfl Tryz.func14 (by kernel_rfl) rfl #[.slice A0 l0.length c0, .slice A1 l1.length c1, .slice A2 l2.length c2, .slice A3 l3.length c3] rfl (by (try simp only [List.map_toArray, List.map_cons, List.map_nil]); first | done | rfl | (simp only [List.length_drop, List.length_take]; rfl)) ?_; (with_reducible refine (due_Check.calls _ _ l0 _ _ l1 _ _ l2 _ _ l3 t288 _ ?side1 ?side2 ?side3 ?side4 ?side5 ?side6 ?side7 ?side8 A5.out).mono ?_); (case side1 => repeat (first | exact HR0.out | (with_reducible refine Kd.zea ?_ _) | (with_reducible refine Kd.zfa ?_ _) | (with_reducible refine Kd.zia ?_))); (case side2 => exact HC0.out); (case side3 => repeat (first | exact HR1.out | (with_reducible refine Kd.zea ?_ _) | (with_reducible refine Kd.zfa ?_ _) | (with_reducible refine Kd.zia ?_))); (case side4 => exact HC1.out); (case side5 => repeat (first | exact HR2.out | (with_reducible refine Kd.zea ?_ _) | (with_reducible refine Kd.zfa ?_ _) | (with_reducible refine Kd.zia ?_))); (case side6 => exact HC2.out); (case side7 => repeat (first | exact HR3.out | (with_reducible refine Kd.zea ?_ _) | (with_reducible refine Kd.zfa ?_ _) | (with_reducible refine Kd.zia ?_))); (case side8 => exact HC3.out); rintro e w33 ⟨rfl, hb⟩; refine ⟨_, rfl, ?_⟩; have n0_ := zb.mk (zo (by repeat with_reducible first | exact HB.out | apply zd | apply za | apply ze) hb); clear HB; have HB := n0_; clear n0_; (try clear hb); (try clear hk)) | ((with_reducible refine zt (f := 29) rfl ?_); refine zka (some 30) rfl rfl Tryz.func29 (by kernel_rfl) rfl #[.slice A0 l0.length c0, .slice A1 l1.length c1] rfl (by (try simp only [List.map_toArray, List.map_cons, List.map_nil]); first | done | rfl | (simp only [List.length_drop, List.length_take]; rfl)) ?_; (with_reducible refine (unfold_Of.calls _ _ l0 _ _ l1 t289 t290 t291 _ ?side1 ?side2 ?side3 ?side4 A7.out).mono ?_); (case side1 => repeat (first | exact (Kd.zu HR0.out HB.out) | (with_reducible refine Kd.zea ?_ _) | (with_reducible refine Kd.zfa ?_ _) | (with_reducible refine Kd.zia ?_))); (case side2 => exact HC0.out); (case side3 => repeat (first | exact (Kd.zu HR1.out HB.out) | (with_reducible refine Kd.zea ?_ _) | (with_reducible refine Kd.zfa ?_ _) | (with_reducible refine Kd.zia ?_))); (case side4 => exact HC1.out); rintro e w34 ⟨rfl, hb⟩; refine ⟨_, rfl, ?_⟩; have n0_ := zb.mk (zo (by repeat with_reducible first | exact HB.out | apply zd | apply za | apply ze) hb); clear HB; have HB := n0_; clear n0_; (try clear hb); (try clear hk)) | ((with_reducible refine zda (N := 11) rfl ?_); refine zaa ?hg (N := 11) ?hd (cs := #[.int .i64 0, .int .i64 0]) (t := 39) ?hr ?_; (case hd => rfl); (case hg => rfl); (case hr => first | (go_simp; done) | (go_simp; rfl)); intro gb292 hg w35 hbox hb; have n0_ := zb.mk (zo (by repeat with_reducible first | exact HB.out | apply zd | apply za | apply ze) hb); have n1_ := zb.mk (hbox); have n2_ := zb.mk ((by rw [hg]; exact (zn (by repeat with_reducible first | exact HB.out | apply zd | apply za | apply ze)) : w.heap.size ≤ gb292)); have n3_ := zb.mk ((by rw [hg]; exact (zn (by repeat with_reducible first | exact HB.out | apply zd | apply za | apply ze)) : w.heap.size ≤ gb292)); clear HB; have HB := n0_; have BK292 := n1_; have GW292 := n2_; have GE292 := n3_; clear n0_ n1_ n2_ n3_; clear hb hbox hg; have hcz36_0 : w35.cell? ⟨gb292, 0, none⟩ = some (.int .i64 0) := (zg BK292.out 0).trans rfl; have hcz36_1 : w35.cell? ⟨gb292, 1, none⟩ = some (.int .i64 0) := (zg BK292.out 1).trans rfl; have hfz36_0 := zf BK292.out 0; have hfz36_1 := zf BK292.out 1) | ((with_reducible refine zt (f := 35) rfl ?_); refine zka (some 44) rfl rfl Tryz.func35 (by kernel_rfl) rfl #[.slice A0 l0.length c0, .int .i64 (wrap64 (t289 + (wrap64 (3 * t290))))] rfl (by (try simp only [List.map_toArray, List.map_cons, List.map_nil]); first | done | rfl | (simp only [List.length_drop, List.length_take]; rfl)) ?_; (with_reducible refine (unfold_Jobs.calls k _ _ l0 (wrap64 (t289 + (wrap64 (3 * t290)))) t293 t294 _ ?side1 ?side2 A9.out).mono ?_); (case side1 => exact Kd.zu HR0.out (by repeat with_reducible first | exact HB.out | apply zd | apply za | apply ze | refine zk ?_ GE292.out)); (case side2 => exact HC0.out); rintro e w37 ⟨v295, rfl, ho0, hb⟩; refine ⟨_, rfl, ?_⟩; have n0_ := zb.mk (Kd.zxa ho0 (zn (by repeat with_reducible first | exact HB.out | apply zd | apply za | apply ze | refine zk ?_ GE292.out))); have n1_ := zb.mk (zr (g := gb292) (o := .cells #[.int .i64 t289, .int .i64 t290] 39 (0, 0)) (by (with_reducible repeat first | apply zi | apply zl | apply zh); refine zba (cs := #[.int .i64 t289, .int .i64 0]) ?_ 1 _ rfl; (with_reducible repeat first | apply zi | apply zl | apply zh); refine zba (cs := #[.int .i64 0, .int .i64 0]) ?_ 0 _ rfl; (with_reducible repeat first | apply zi | apply zl | apply zh); exact BK292.out) hb); have n2_ := zb.mk (zo (by repeat with_reducible first | exact HB.out | apply zd | apply za | apply ze | refine zk ?_ GE292.out) hb); clear BK292; clear HB; have HO296 := n0_; have BK292 := n1_; have HB := n2_; clear n0_ n1_ n2_; (try clear hb); (try clear hk); (try clear ho0)))
    go_ret2
    exact ⟨_, by first | rfl | (simp [zp, zq] <;> rfl) | (simp [*, zp, zq] <;> rfl), by first | exact Kd.R_nil _ _ _ _ _ | exact Kd.N_nil _ _ _ _ _ | exact Kd.V_nil _ _ _ _ _ | exact Kd.Q_nil _ _ _ _ _ | exact Kd.S_nil _ _ _ _ _, by repeat with_reducible first | exact HB.out | apply zd | apply za | apply ze | refine zk ?_ GE292.out⟩
  ·rw [if_neg c8] at H
   have c8b0 : (t291 == 0) = false := beq_eq_false_iff_ne.mpr c8
   have c8b1 : (t291 != 0) = true := bne_iff_ne.mpr c8
   simp only [Option.some.injEq, Prod.mk.injEq] at H
   obtain ⟨rfl, rfl⟩ := H
   go_enter Tryz.func12, Tryz.ntmps12
   go_wp2_with (first | ((with_reducible refine zt (f := 14) rfl ?_); refine zka (some 23) rfl rfl Tryz.func14 (by kernel_rfl) rfl #[.slice A0 l0.length c0, .slice A1 l1.length c1, .slice A2 l2.length c2, .slice A3 l3.length c3] rfl (by (try simp only [List.map_toArray, List.map_cons, List.map_nil]); first | done | rfl | (simp only [List.length_drop, List.length_take]; rfl)) ?_; (with_reducible refine (due_Check.calls _ _ l0 _ _ l1 _ _ l2 _ _ l3 t288 _ ?side1 ?side2 ?side3 ?side4 ?side5 ?side6 ?side7 ?side8 A5.out).mono ?_); (case side1 => repeat (first | exact HR0.out | (with_reducible refine Kd.zea ?_ _) | (with_reducible refine Kd.zfa ?_ _) | (with_reducible refine Kd.zia ?_))); (case side2 => exact HC0.out); (case side3 => repeat (first | exact HR1.out | (with_reducible refine Kd.zea ?_ _) | (with_reducible refine Kd.zfa ?_ _) | (with_reducible refine Kd.zia ?_))); (case side4 => exact HC1.out); (case side5 => repeat (first | exact HR2.out | (with_reducible refine Kd.zea ?_ _) | (with_reducible refine Kd.zfa ?_ _) | (with_reducible refine Kd.zia ?_))); (case side6 => exact HC2.out); (case side7 => repeat (first | exact HR3.out | (with_reducible refine Kd.zea ?_ _) | (with_reducible refine Kd.zfa ?_ _) | (with_reducible refine Kd.zia ?_))); (case side8 => exact HC3.out); rintro e w38 ⟨rfl, hb⟩; refine ⟨_, rfl, ?_⟩; have n0_ := zb.mk (zo (by repeat with_reducible first | exact HB.out | apply zd | apply za | apply ze) hb); clear HB; have HB := n0_; clear n0_; (try clear hb); (try clear hk)) | ((with_reducible refine zt (f := 29) rfl ?_); refine zka (some 30) rfl rfl Tryz.func29 (by kernel_rfl) rfl #[.slice A0 l0.length c0, .slice A1 l1.length c1] rfl (by (try simp only [List.map_toArray, List.map_cons, List.map_nil]); first | done | rfl | (simp only [List.length_drop, List.length_take]; rfl)) ?_; (with_reducible refine (unfold_Of.calls _ _ l0 _ _ l1 t289 t290 t291 _ ?side1 ?side2 ?side3 ?side4 A7.out).mono ?_); (case side1 => repeat (first | exact (Kd.zu HR0.out HB.out) | (with_reducible refine Kd.zea ?_ _) | (with_reducible refine Kd.zfa ?_ _) | (with_reducible refine Kd.zia ?_))); (case side2 => exact HC0.out); (case side3 => repeat (first | exact (Kd.zu HR1.out HB.out) | (with_reducible refine Kd.zea ?_ _) | (with_reducible refine Kd.zfa ?_ _) | (with_reducible refine Kd.zia ?_))); (case side4 => exact HC1.out); rintro e w39 ⟨rfl, hb⟩; refine ⟨_, rfl, ?_⟩; have n0_ := zb.mk (zo (by repeat with_reducible first | exact HB.out | apply zd | apply za | apply ze) hb); clear HB; have HB := n0_; clear n0_; (try clear hb); (try clear hk)) | ((with_reducible refine zda (N := 11) rfl ?_); refine zaa ?hg (N := 11) ?hd (cs := #[.int .i64 0, .int .i64 0]) (t := 39) ?hr ?_; (case hd => rfl); (case hg => rfl); (case hr => first | (go_simp; done) | (go_simp; rfl)); intro gb292 hg w40 hbox hb; have n0_ := zb.mk (zo (by repeat with_reducible first | exact HB.out | apply zd | apply za | apply ze) hb); have n1_ := zb.mk (hbox); have n2_ := zb.mk ((by rw [hg]; exact (zn (by repeat with_reducible first | exact HB.out | apply zd | apply za | apply ze)) : w.heap.size ≤ gb292)); have n3_ := zb.mk ((by rw [hg]; exact (zn (by repeat with_reducible first | exact HB.out | apply zd | apply za | apply ze)) : w.heap.size ≤ gb292)); clear HB; have HB := n0_; have BK292 := n1_; have GW292 := n2_; have GE292 := n3_; clear n0_ n1_ n2_ n3_; clear hb hbox hg; have hcz41_0 : w40.cell? ⟨gb292, 0, none⟩ = some (.int .i64 0) := (zg BK292.out 0).trans rfl; have hcz41_1 : w40.cell? ⟨gb292, 1, none⟩ = some (.int .i64 0) := (zg BK292.out 1).trans rfl; have hfz41_0 := zf BK292.out 0; have hfz41_1 := zf BK292.out 1))
   go_ret2
   exact ⟨_, by first | rfl | (simp [zp, zq] <;> rfl) | (simp [*, zp, zq] <;> rfl), by first | exact Kd.R_nil _ _ _ _ _ | exact Kd.N_nil _ _ _ _ _ | exact Kd.V_nil _ _ _ _ _ | exact Kd.Q_nil _ _ _ _ _ | exact Kd.S_nil _ _ _ _ _, by repeat with_reducible first | exact HB.out | apply zd | apply za | apply ze | refine zk ?_ GE292.out⟩
 ·rw [if_neg c6] at H
  have c6b0 : (t288 == 0) = false := beq_eq_false_iff_ne.mpr c6
  have c6b1 : (t288 != 0) = true := bne_iff_ne.mpr c6
  simp only [Option.some.injEq, Prod.mk.injEq] at H
  obtain ⟨rfl, rfl⟩ := H
  go_enter Tryz.func12, Tryz.ntmps12
  go_wp2_with (first | ((with_reducible refine zt (f := 14) rfl ?_); refine zka (some 23) rfl rfl Tryz.func14 (by kernel_rfl) rfl #[.slice A0 l0.length c0, .slice A1 l1.length c1, .slice A2 l2.length c2, .slice A3 l3.length c3] rfl (by (try simp only [List.map_toArray, List.map_cons, List.map_nil]); first | done | rfl | (simp only [List.length_drop, List.length_take]; rfl)) ?_; (with_reducible refine (due_Check.calls _ _ l0 _ _ l1 _ _ l2 _ _ l3 t288 _ ?side1 ?side2 ?side3 ?side4 ?side5 ?side6 ?side7 ?side8 A5.out).mono ?_); (case side1 => repeat (first | exact HR0.out | (with_reducible refine Kd.zea ?_ _) | (with_reducible refine Kd.zfa ?_ _) | (with_reducible refine Kd.zia ?_))); (case side2 => exact HC0.out); (case side3 => repeat (first | exact HR1.out | (with_reducible refine Kd.zea ?_ _) | (with_reducible refine Kd.zfa ?_ _) | (with_reducible refine Kd.zia ?_))); (case side4 => exact HC1.out); (case side5 => repeat (first | exact HR2.out | (with_reducible refine Kd.zea ?_ _) | (with_reducible refine Kd.zfa ?_ _) | (with_reducible refine Kd.zia ?_))); (case side6 => exact HC2.out); (case side7 => repeat (first | exact HR3.out | (with_reducible refine Kd.zea ?_ _) | (with_reducible refine Kd.zfa ?_ _) | (with_reducible refine Kd.zia ?_))); (case side8 => exact HC3.out); rintro e w42 ⟨rfl, hb⟩; refine ⟨_, rfl, ?_⟩; have n0_ := zb.mk (zo (by repeat with_reducible first | exact HB.out | apply zd | apply za | apply ze) hb); clear HB; have HB := n0_; clear n0_; (try clear hb); (try clear hk)))
  go_ret2
  exact ⟨_, by first | rfl | (simp [zp, zq] <;> rfl) | (simp [*, zp, zq] <;> rfl), by first | exact Kd.R_nil _ _ _ _ _ | exact Kd.N_nil _ _ _ _ _ | exact Kd.V_nil _ _ _ _ _ | exact Kd.Q_nil _ _ _ _ _ | exact Kd.S_nil _ _ _ _ _, by repeat with_reducible first | exact HB.out | apply zd | apply za | apply ze⟩
end
end Go.Proofs.YtfondhcppjkchaaGreat.Q
