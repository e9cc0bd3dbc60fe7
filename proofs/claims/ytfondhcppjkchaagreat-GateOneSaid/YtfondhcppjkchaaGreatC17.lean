import Derived.Test.YtfondhcppjkchaaGreatC3
import Derived.Test.YtfondhcppjkchaaGreatC5
import Derived.Test.YtfondhcppjkchaaGreatC16
set_option maxHeartbeats 40000000
set_option maxRecDepth 100000
set_option linter.unusedVariables false
set_option linter.unusedSimpArgs false
namespace Go.Proofs.YtfondhcppjkchaaGreat.Q
noncomputable section
open Go.RowKit Go.Proofs.YtfondhcppjkchaaGreatW.PrintWords Go.Proofs.YtfondhcppjkchaaGreatW.PrintLast Go.Proofs.YtfondhcppjkchaaGreatW.PrintMore
attribute [local go_sem] max2_int min2_int max_two min_two max_three min_three max_four min_four
def gate_Load.l0 : Nat → List (S78) → Int → List Int → Int → Int → Int → Int → Option (Int × Int × Int)
 | 0, _, _, _, _, _, _, _ => none
 | k + 1, x0, x11, x33, x34, x35, x251000, x251001 => if x35 < x34 then (if 0 ≤ x35 then (if x35 < (x33.length : Int) then (if (rd x33 x35) < 1 then (some (0, 0, 2)) else (if (rd x33 x35) > 1048576 then (some (0, 0, 2)) else (if x35 < (x0.length : Int) then ((unfold_Count.f k x251000 x251001 ((zj x0 x35).f0.f0) ((zj x0 x35).f0.f1)).bind fun bt253 => (gate_Load.l0 k x0 (wrap64 (x11 + (wrap64 (bt253.2.1 * (rd x33 x35))))) x33 x34 (wrap64 (x35 + 1)) x251000 x251001)) else (none)))) else (none)) else (none)) else (some (x11, x251001, 0))
def gate_Load.f (k : Nat) (l0 : List (S78)) (l1 : List (S68)) (l2 : List Int) : Option (Int × Int × Int) := (unfold_Of.f l0 l1).bind fun bt247 => (if bt247.2.2 = 0 then (if (l2.length : Int) = (l0.length : Int) then (gate_Load.l0 k l0 0 l2 (l2.length : Int) 0 bt247.1 bt247.2.1) else (some (0, 0, 2))) else (some (0, 0, bt247.2.2)))
theorem gate_Load.zma : ∀ k, (∀ y0 y1 y2 y3 y4 y5 y6, LeO (gate_Load.l0 k y0 y1 y2 y3 y4 y5 y6) (gate_Load.l0 (k + 1) y0 y1 y2 y3 y4 y5 y6))
 | 0 => fun _ _ _ _ _ _ _ r h => by simp [gate_Load.l0] at h
 | k + 1 => by
  have ih0 := gate_Load.zma k
  ·intro y0 y1 y2 y3 y4 y5 y6
   unfold gate_Load.l0
   repeat' first
   | (with_reducible exact ih0 _ _ _ _ _ _ _)
   | (with_reducible exact unfold_Count.mono _ _ _ _ _)
   | (with_reducible exact LeO.refl _)
   | (with_reducible exact LeO.none _)
   | (with_reducible refine LeO.ite ?_ ?_)
   | (with_reducible refine LeO.bind ?_ (fun _ => ?_))
   | exact ih0 _ _ _ _ _ _ _
   | exact unfold_Count.mono _ _ _ _ _
   | exact LeO.none _
   | refine LeO.ite ?_ ?_
   | refine LeO.bind ?_ (fun _ => ?_)
theorem gate_Load.mono : ∀ a0 a1 a2 k, LeO (gate_Load.f k a0 a1 a2) (gate_Load.f (k + 1) a0 a1 a2) := by
 intro a0 a1 a2 k
 have ih0 := gate_Load.zma k
 unfold gate_Load.f
 repeat' first
   | (with_reducible exact ih0 _ _ _ _ _ _ _)
   | (with_reducible exact unfold_Count.mono _ _ _ _ _)
   | (with_reducible exact LeO.refl _)
   | (with_reducible exact LeO.none _)
   | (with_reducible refine LeO.ite ?_ ?_)
   | (with_reducible refine LeO.bind ?_ (fun _ => ?_))
   | exact ih0 _ _ _ _ _ _ _
   | exact unfold_Count.mono _ _ _ _ _
   | exact LeO.none _
   | refine LeO.ite ?_ ?_
   | refine LeO.bind ?_ (fun _ => ?_)
def gate_Load.T12 : Bool × List (List Nat × List Nat) := (true, [([], []), ([], []), ([], []), ([1, 2], [1, 2]), ([3], [3]), ([4], [4]), ([0, 5], [0, 5]), ([6], [6]), ([7], [7]), ([7], [7]), ([7], [7]), ([8, 6, 0, 1, 2, 3, 4, 5, 6, 7, 8], [8]), ([9, 11, 0, 1, 2, 3, 4, 5, 6, 7, 8, 9, 11], [9]), ([10, 12, 0, 1, 2, 3, 4, 5, 6, 7, 8, 9, 10, 11, 12], [10])])
def gate_Load.B12 : List Nat := [0, 0, 0, 6, 14, 30, 63, 127, 255, 255, 255, 511, 3071, 8191]
theorem gate_Load.tab12 : rtab .any (opsOf Tryz.f10 12) = gate_Load.T12 := by kernel_rfl
theorem gate_Load.bits12 : waitsOk gate_Load.T12.2 gate_Load.B12 = true := by kernel_rfl
theorem gate_Load.calls (k : Nat) (A0 : Option Addr) (c0 : Nat) (l0 : List (S78)) (A1 : Option Addr) (c1 : Nat) (l1 : List (S68)) (A2 : Option Addr) (c2 : Nat) (l2 : List Int) (r1 : Int) (r2 : Int) (r3 : Int) (w : World) (hr0 : Kd.C k78 w A0 l0.length l0) (hc0 : l0.length ≤ c0) (hr1 : Kd.C k68 w A1 l1.length l1) (hc1 : l1.length ≤ c1) (hr2 : Kd.C (Kd.int .i64) w A2 l2.length l2) (hc2 : l2.length ≤ c2) (h : gate_Load.f k l0 l1 l2 = some (r1, r2, r3)) :
  Calls Tryz.prog 10 #[.slice A0 l0.length c0, .slice A1 l1.length c1, .slice A2 l2.length c2] w fun e w' => e = .returned (.tuple #[.int .i64 r1, .int .i64 r2, .int .i64 r3]) ∧ Below w.heap.size w w' := by
 have hu39 := Tryz.underlying39
 have hu68 := Tryz.underlying68
 have HR0 := zb.mk hr0
 have HC0 := zb.mk hc0
 clear hr0 hc0
 have HR1 := zb.mk hr1
 have HC1 := zb.mk hc1
 clear hr1 hc1
 have HR2 := zb.mk hr2
 have HC2 := zb.mk hc2
 clear hr2 hc2
 have HB := zb.mk (Below.refl w.heap.size w)
 have H : ((unfold_Of.f l0 l1).bind fun bt247 => (if bt247.2.2 = 0 then (if (l2.length : Int) = (l0.length : Int) then (gate_Load.l0 k l0 0 l2 (l2.length : Int) 0 bt247.1 bt247.2.1) else (some (0, 0, 2))) else (some (0, 0, bt247.2.2)))) = some (r1, r2, r3) := h
 clear h
 replace H := Option.bind_eq_some_iff.mp H
 obtain ⟨⟨t247, t248, t249⟩, A40, H⟩ := H
 replace H : (if t249 = 0 then (if (l2.length : Int) = (l0.length : Int) then (gate_Load.l0 k l0 0 l2 (l2.length : Int) 0 t247 t248) else (some (0, 0, 2))) else (some (0, 0, t249))) = some (r1, r2, r3) := H
 have A4 := zb.mk A40
 clear A40
 by_cases c5 : t249 = 0
 ·rw [if_pos c5] at H
  have c5b0 : (t249 == 0) = true := beq_iff_eq.mpr c5
  have c5b1 : (t249 != 0) = false := bne_eq_false_iff_eq.mpr c5
  clear c5
  by_cases c6 : (l2.length : Int) = (l0.length : Int)
  ·rw [if_pos c6] at H
   have c6b0 : ((l2.length : Int) == (l0.length : Int)) = true := beq_iff_eq.mpr c6
   have c6b1 : ((l2.length : Int) != (l0.length : Int)) = false := bne_eq_false_iff_eq.mpr c6
   have c6b2 : (l2.length == l0.length) = true := by first | simpa using c6 | (simp at c6 ⊢; omega)
   clear c6
   have H' := zb.mk H
   clear H
   go_enter Tryz.func10, Tryz.ntmps10
   go_wp2_with (first | ((with_reducible refine zt (f := 29) rfl ?_); refine zka (some 20) rfl rfl Tryz.func29 (by kernel_rfl) rfl #[.slice A0 l0.length c0, .slice A1 l1.length c1] rfl (by (try simp only [List.map_toArray, List.map_cons, List.map_nil]); first | done | rfl | (simp only [List.length_drop, List.length_take]; rfl)) ?_; (with_reducible refine (unfold_Of.calls _ _ l0 _ _ l1 t247 t248 t249 _ ?side1 ?side2 ?side3 ?side4 A4.out).mono ?_); (case side1 => repeat (first | exact HR0.out | (with_reducible refine Kd.zea ?_ _) | (with_reducible refine Kd.zfa ?_ _) | (with_reducible refine Kd.zia ?_))); (case side2 => exact HC0.out); (case side3 => repeat (first | exact HR1.out | (with_reducible refine Kd.zea ?_ _) | (with_reducible refine Kd.zfa ?_ _) | (with_reducible refine Kd.zia ?_))); (case side4 => exact HC1.out); rintro e w7 ⟨rfl, hb⟩; refine ⟨_, rfl, ?_⟩; have n0_ := zb.mk (zo (by repeat with_reducible first | exact HB.out | apply zd | apply za | apply ze) hb); clear HB; have HB := n0_; clear n0_; (try clear hb)) | ((with_reducible refine zda (N := 9) rfl ?_); refine zaa ?hg (N := 9) ?hd (cs := #[.int .i64 0, .int .i64 0]) (t := 39) ?hr ?_; (case hd => rfl); (case hg => rfl); (case hr => first | (go_simp; done) | (go_simp; rfl)); intro gb250 hg w8 hbox hb; have n0_ := zb.mk (zo (by repeat with_reducible first | exact HB.out | apply zd | apply za | apply ze) hb); have n1_ := zb.mk (hbox); have n2_ := zb.mk ((by rw [hg]; exact (zn (by repeat with_reducible first | exact HB.out | apply zd | apply za | apply ze)) : w.heap.size ≤ gb250)); have n3_ := zb.mk ((by rw [hg]; exact (zn (by repeat with_reducible first | exact HB.out | apply zd | apply za | apply ze)) : w.heap.size ≤ gb250)); clear HB; have HB := n0_; have BK250 := n1_; have GW250 := n2_; have GE250 := n3_; clear n0_ n1_ n2_ n3_; clear hb hbox hg; have hcz9_0 : w8.cell? ⟨gb250, 0, none⟩ = some (.int .i64 0) := (zg BK250.out 0).trans rfl; have hcz9_1 : w8.cell? ⟨gb250, 1, none⟩ = some (.int .i64 0) := (zg BK250.out 1).trans rfl; have hfz9_0 := zf BK250.out 0; have hfz9_1 := zf BK250.out 1))
   go_loopg [11, 35] k (fun kq v11 v35 w' => ∃ (x11_1 : Int) (x35_1 : Int), v11 = .int .i64 x11_1 ∧ v35 = .int .i64 x35_1 ∧ zb (gate_Load.l0 kq l0 x11_1 l2 (l2.length : Int) x35_1 t247 t248 = some (r1, r2, r3)) ∧ zb (kq ≤ k) ∧ zb (w'.heap[gb250]? = some (.cells #[.int .i64 t247, .int .i64 t248] 39 (0, 0))) ∧ zb (Below w.heap.size w w'))
   case atStart => exact ⟨(0), (0), (by first | rfl | (simp; done) | (simp [*]; done)), (by first | rfl | (simp; done) | (simp [*]; done)), H', ⟨Nat.le_refl _⟩, ⟨by (with_reducible repeat first | apply zi | apply zl | apply zh); refine zba (cs := #[.int .i64 t247, .int .i64 0]) ?_ 1 _ rfl; (with_reducible repeat first | apply zi | apply zl | apply zh); refine zba (cs := #[.int .i64 0, .int .i64 0]) ?_ 0 _ rfl; (with_reducible repeat first | apply zi | apply zl | apply zh); exact BK250.out⟩, ⟨by repeat with_reducible first | exact HB.out | apply zd | apply za | apply ze | refine zk ?_ GE250.out⟩⟩
   case round =>
    clear H'
    try clear c1
    try clear c2
    try clear p2
    try clear c5
    try clear c5b0
    try clear c5b1
    try clear c6
    try clear c6b0
    try clear c6b1
    try clear c6b2
    try clear hcz9_0
    try clear hcz9_1
    try clear hfz9_0
    try clear hfz9_1
    obtain ⟨x11_1, x35_1, rfl, rfl, HA, HK1, BK250, HB⟩ := hrel
    cases gk with
    | zero => exact absurd HA.out (by simp [gate_Load.l0])
    | succ k1 =>
     have H := HA.out
     clear HA
     simp only [gate_Load.l0] at H
     by_cases c10 : x35_1 < (l2.length : Int)
     ·rw [if_pos c10] at H
      have c10b0 : decide (x35_1 < (l2.length : Int)) = true := decide_eq_true c10
      clear c10
      by_cases c11 : 0 ≤ x35_1
      ·rw [if_pos c11] at H
       have c11b0 : decide (0 ≤ x35_1) = true := decide_eq_true c11
       clear c11
       by_cases c12 : x35_1 < (l2.length : Int)
       ·rw [if_pos c12] at H
        have c12b0 : decide (x35_1 < (l2.length : Int)) = true := decide_eq_true c12
        clear c12
        by_cases c13 : (rd l2 x35_1) < 1
        ·rw [if_pos c13] at H
         have c13b0 : decide ((rd l2 x35_1) < 1) = true := decide_eq_true c13
         clear c13
         simp only [Option.some.injEq, Prod.mk.injEq] at H
         obtain ⟨rfl, rfl, rfl⟩ := H
         have p251 : 0 ≤ (x35_1 : Int) := of_decide_eq_true (by first | (with_reducible assumption) | assumption)
         have q251 : x35_1 < (l2.length : Int) := of_decide_eq_true (by first | (with_reducible assumption) | assumption)
         obtain ⟨ad251, e251, hx251_0⟩ := Kd.zya HR2.out x35_1 p251 q251
         cases e251
         replace hx251_0 := (HB.out.cell (World.block_lt_of_cell? w _ hx251_0)).trans hx251_0
         replace p251 := eq_true p251
         replace q251 := eq_true q251
         go_wp2
         go_ret3
         exact ⟨by first | rfl | (simp [zp, zq] <;> rfl) | (simp [*, zp, zq] <;> rfl), by repeat with_reducible first | exact HB.out | apply zd | apply za | apply ze | refine zk ?_ GE250.out⟩
        ·rw [if_neg c13] at H
         have c13b0 : decide ((rd l2 x35_1) < 1) = false := decide_eq_false c13
         clear c13
         by_cases c14 : (rd l2 x35_1) > 1048576
         ·rw [if_pos c14] at H
          have c14b0 : decide (1048576 < (rd l2 x35_1)) = true := decide_eq_true c14
          clear c14
          simp only [Option.some.injEq, Prod.mk.injEq] at H
          obtain ⟨rfl, rfl, rfl⟩ := H
          have p251 : 0 ≤ (x35_1 : Int) := of_decide_eq_true (by first | (with_reducible assumption) | assumption)
          have q251 : x35_1 < (l2.length : Int) := of_decide_eq_true (by first | (with_reducible assumption) | assumption)
          obtain ⟨ad251, e251, hx251_0⟩ := Kd.zya HR2.out x35_1 p251 q251
          cases e251
          replace hx251_0 := (HB.out.cell (World.block_lt_of_cell? w _ hx251_0)).trans hx251_0
          replace p251 := eq_true p251
          replace q251 := eq_true q251
          go_wp2
          go_ret3
          exact ⟨by first | rfl | (simp [zp, zq] <;> rfl) | (simp [*, zp, zq] <;> rfl), by repeat with_reducible first | exact HB.out | apply zd | apply za | apply ze | refine zk ?_ GE250.out⟩
         ·rw [if_neg c14] at H
          have c14b0 : decide (1048576 < (rd l2 x35_1)) = false := decide_eq_false c14
          clear c14
          by_cases c15 : x35_1 < (l0.length : Int)
          ·rw [if_pos c15] at H
           have c15b0 : decide (x35_1 < (l0.length : Int)) = true := decide_eq_true c15
           clear c15
           replace H := Option.bind_eq_some_iff.mp H
           obtain ⟨⟨t253, t254, t255⟩, A160, H⟩ := H
           replace H : (gate_Load.l0 k1 l0 (wrap64 (x11_1 + (wrap64 (t254 * (rd l2 x35_1))))) l2 (l2.length : Int) (wrap64 (x35_1 + 1)) t247 t248) = some (r1, r2, r3) := H
           have A16 := zb.mk A160
           clear A160
           have H' := zb.mk H
           clear H
           have p251 : 0 ≤ (x35_1 : Int) := of_decide_eq_true (by first | (with_reducible assumption) | assumption)
           have q251 : x35_1 < (l2.length : Int) := of_decide_eq_true (by first | (with_reducible assumption) | assumption)
           obtain ⟨ad251, e251, hx251_0⟩ := Kd.zya HR2.out x35_1 p251 q251
           cases e251
           replace hx251_0 := (HB.out.cell (World.block_lt_of_cell? w _ hx251_0)).trans hx251_0
           replace p251 := eq_true p251
           replace q251 := eq_true q251
           try go_wp2
           have n0_ := zb.mk (zl BK250.out)
           have n1_ := zb.mk (ze HB.out)
           clear BK250
           clear HB
           have BK250 := n0_
           have HB := n1_
           clear n0_ n1_
           have p252 : 0 ≤ (x35_1 : Int) := of_decide_eq_true (by first | (with_reducible assumption) | assumption)
           have q252 : x35_1 < (l0.length : Int) := of_decide_eq_true (by first | (with_reducible assumption) | assumption)
           obtain ⟨ad252, A252_5, c252_5, e252, hx252_0, hx252_1, hx252_2, hx252_3, hx252_4, hx252_5, hx252_6, hl252_5, hi252_5⟩ := zeb HR0.out x35_1 p252 q252
           have hw252_6 := hx252_6
           have hw252_5 := hx252_5
           have hw252_4 := hx252_4
           have hw252_3 := hx252_3
           have hw252_2 := hx252_2
           have hw252_1 := hx252_1
           have hw252_0 := hx252_0
           cases e252
           replace hx252_0 := (HB.out.cell (World.block_lt_of_cell? w _ hx252_0)).trans hx252_0
           replace hx252_1 := (HB.out.cell (World.block_lt_of_cell? w _ hx252_1)).trans hx252_1
           replace hx252_2 := (HB.out.cell (World.block_lt_of_cell? w _ hx252_2)).trans hx252_2
           replace hx252_3 := (HB.out.cell (World.block_lt_of_cell? w _ hx252_3)).trans hx252_3
           replace hx252_4 := (HB.out.cell (World.block_lt_of_cell? w _ hx252_4)).trans hx252_4
           replace hx252_5 := (HB.out.cell (World.block_lt_of_cell? w _ hx252_5)).trans hx252_5
           replace hx252_6 := (HB.out.cell (World.block_lt_of_cell? w _ hx252_6)).trans hx252_6
           have HR252_5 := zb.mk hi252_5
           have HC252_5 := zb.mk hl252_5
           clear hi252_5 hl252_5
           replace p252 := eq_true p252
           replace q252 := eq_true q252
           refine start_ (n := 14) (S := fun w' => w'.cell? ⟨gb250, 0, none⟩ = some (.int .i64 t247) ∧ w'.cell? ⟨gb250, 1, none⟩ = some (.int .i64 t248) ∧ w'.cell? (ad252.add ((x35_1).toNat * 7)) = some (.int .i64 ((zj l0 x35_1).f0.f0)) ∧ w'.cell? ⟨(ad252.add ((x35_1).toNat * 7)).block, (ad252.add ((x35_1).toNat * 7)).off + 1, none⟩ = some (.int .i64 ((zj l0 x35_1).f0.f1)) ∧ w'.cell? ⟨(ad252.add ((x35_1).toNat * 7)).block, (ad252.add ((x35_1).toNat * 7)).off + 2, none⟩ = some (.int .i64 ((zj l0 x35_1).f1)) ∧ w'.cell? ⟨(ad252.add ((x35_1).toNat * 7)).block, (ad252.add ((x35_1).toNat * 7)).off + 3, none⟩ = some (.int .i64 ((zj l0 x35_1).f2)) ∧ w'.cell? ⟨(ad252.add ((x35_1).toNat * 7)).block, (ad252.add ((x35_1).toNat * 7)).off + 4, none⟩ = some (.int .i64 ((zj l0 x35_1).f3)) ∧ w'.cell? ⟨(ad252.add ((x35_1).toNat * 7)).block, (ad252.add ((x35_1).toNat * 7)).off + 5, none⟩ = some (.slice A252_5 ((zj l0 x35_1).f4).length c252_5) ∧ w'.cell? ⟨(ad252.add ((x35_1).toNat * 7)).block, (ad252.add ((x35_1).toNat * 7)).off + 6, none⟩ = some (.int .i64 ((zj l0 x35_1).f5))) (ds := []) #[false, false, false, false, false, false, false, false, false, false, false, false, false, false] (by kernel_rfl) rfl rfl ⟨(zg BK250.out 0).trans rfl, (zg BK250.out 1).trans rfl, ((HB.out.cell (World.block_lt_of_cell? w _ hw252_0)).trans hw252_0), ((HB.out.cell (World.block_lt_of_cell? w _ hw252_1)).trans hw252_1), ((HB.out.cell (World.block_lt_of_cell? w _ hw252_2)).trans hw252_2), ((HB.out.cell (World.block_lt_of_cell? w _ hw252_3)).trans hw252_3), ((HB.out.cell (World.block_lt_of_cell? w _ hw252_4)).trans hw252_4), ((HB.out.cell (World.block_lt_of_cell? w _ hw252_5)).trans hw252_5), ((HB.out.cell (World.block_lt_of_cell? w _ hw252_6)).trans hw252_6)⟩ (fun hHeld => ?_); refine with_tabW gate_Load.tab12 gate_Load.bits12 (fun HT_ HW_ => ?_)
           generalize wr.drew = w17 at BK250 HB HR252_5 hx252_0 hx252_1 hx252_2 hx252_3 hx252_4 hx252_5 hx252_6 hHeld ⊢
           refine pure_ (i := 1) (N := some 48) (v := ?_) (a' := ?_) #[false, true, false, false, false, false, false, false, false, false, false, false, false, false] rfl rfl (zqa HT_.out (by kernel_rfl)) (fun _ _ _ h => h) (Or.inl ⟨by rfl, ?_⟩) ?_ ?_
           rotate_left
           ·intro w'
            go_simp
            with_reducible rfl
           rotate_left
           ·simp only [Act.put, List.setIfInBounds_toArray, List.set_cons_zero, List.set_cons_succ, i64_w, i32_w]
            rfl
           refine pure_ (i := 2) (N := some 49) (v := ?_) (a' := ?_) #[false, true, true, false, false, false, false, false, false, false, false, false, false, false] rfl rfl (zqa HT_.out (by kernel_rfl)) (fun _ _ _ h => h) (Or.inl ⟨by rfl, ?_⟩) ?_ ?_
           rotate_left
           ·intro w'
            go_simp
            with_reducible rfl
           rotate_left
           ·simp only [Act.put, List.setIfInBounds_toArray, List.set_cons_zero, List.set_cons_succ, i64_w, i32_w]
            rfl
           refine pure_ (i := 3) (N := some 50) (v := ?_) (a' := ?_) #[false, true, true, true, false, false, false, false, false, false, false, false, false, false] rfl rfl (zqa HT_.out (by kernel_rfl)) (fun _ _ _ h => h) (Or.inl ⟨by rfl, ?_⟩) ?_ ?_
           rotate_left
           ·intro w'
            go_simp
            with_reducible rfl
           rotate_left
           ·simp only [Act.put, List.setIfInBounds_toArray, List.set_cons_zero, List.set_cons_succ, i64_w, i32_w]
            rfl
           refine pure_ (i := 4) (N := some 51) (v := ?_) (a' := ?_) #[false, true, true, true, true, false, false, false, false, false, false, false, false, false] rfl rfl (zqa HT_.out (by kernel_rfl)) (fun _ _ _ h => h) (Or.inl ⟨by rfl, ?_⟩) ?_ ?_
           rotate_left
           ·intro w'
            go_simp
            with_reducible rfl
           rotate_left
           ·simp only [Act.put, List.setIfInBounds_toArray, List.set_cons_zero, List.set_cons_succ, i64_w, i32_w]
            rfl
           refine take_ (i := 0) (N := some 47) (v := ?_) (a' := ?_) #[true, true, true, true, true, false, false, false, false, false, false, false, false, false] rfl rfl (zua HT_.out HW_.out (by kernel_rfl)) (fun _ _ _ h => h) (Or.inl ⟨by rfl, ?_⟩) hHeld ?_ ?_
           rotate_left
           ·rintro w' ⟨s0, s1, s2, s3, s4, s5, s6, s7, s8⟩
            go_simp
            with_reducible rfl
           rotate_left
           ·simp only [Act.put, List.setIfInBounds_toArray, List.set_cons_zero, List.set_cons_succ, i64_w, i32_w]
            rfl
           refine take_ (i := 5) (N := some 52) (v := ?_) (a' := ?_) #[true, true, true, true, true, true, false, false, false, false, false, false, false, false] rfl rfl (zua HT_.out HW_.out (by kernel_rfl)) (fun _ _ _ h => h) (Or.inl ⟨by rfl, ?_⟩) hHeld ?_ ?_
           rotate_left
           ·rintro w' ⟨s0, s1, s2, s3, s4, s5, s6, s7, s8⟩
            go_simp
            with_reducible rfl
           rotate_left
           ·simp only [Act.put, List.setIfInBounds_toArray, List.set_cons_zero, List.set_cons_succ, i64_w, i32_w]
            rfl
           refine one_ (i := 6) (N := some 53) #[true, true, true, true, true, true, true, false, false, false, false, false, false, false] rfl rfl (ztb HT_.out (by kernel_rfl)) (by decide) (fun K hK => ?_)
           refine goes_ Tryz.func34 (by kernel_rfl) rfl #[.agg #[.int .i64 t247, .int .i64 t248], .agg #[.int .i64 ((zj l0 x35_1).f0.f0), .int .i64 ((zj l0 x35_1).f0.f1)]] (by rfl) rfl rfl (by (try simp only [List.map_toArray, List.map_cons, List.map_nil]); first | done | rfl | (simp only [List.length_drop, List.length_take]; rfl)) ?_
           with_reducible refine (unfold_Count.calls k1 t247 t248 ((zj l0 x35_1).f0.f0) ((zj l0 x35_1).f0.f1) t253 t254 t255 _ A16.out).mono ?_
           rintro e w18 ⟨rfl, hb⟩
           refine ⟨_, rfl, ?_⟩
           have n0_ := zb.mk (zr (g := gb250) (o := .cells #[.int .i64 t247, .int .i64 t248] 39 (0, 0)) (by (with_reducible repeat first | apply zi | apply zl | apply zh); exact BK250.out) hb)
           have n1_ := zb.mk (zo (by repeat with_reducible first | exact HB.out | apply zd | apply za | apply ze | refine zk ?_ GE250.out) hb)
           clear BK250
           clear HB
           have BK250 := n0_
           have HB := n1_
           clear n0_ n1_
           (try clear hb)
           (try clear hb2)
           (try clear hk)
           (try clear hi)
           refine hK.out _ _ ⟨(zg BK250.out 0).trans rfl, (zg BK250.out 1).trans rfl, ((HB.out.cell (World.block_lt_of_cell? w _ hw252_0)).trans hw252_0), ((HB.out.cell (World.block_lt_of_cell? w _ hw252_1)).trans hw252_1), ((HB.out.cell (World.block_lt_of_cell? w _ hw252_2)).trans hw252_2), ((HB.out.cell (World.block_lt_of_cell? w _ hw252_3)).trans hw252_3), ((HB.out.cell (World.block_lt_of_cell? w _ hw252_4)).trans hw252_4), ((HB.out.cell (World.block_lt_of_cell? w _ hw252_5)).trans hw252_5), ((HB.out.cell (World.block_lt_of_cell? w _ hw252_6)).trans hw252_6)⟩ (fun hHeld => ?_)
           clear hK K
           refine norm_ (a' := ?_) ?_ ?_
           rotate_left
           ·show Act.put _ (some 53) _ = _
            simp only [Act.put, List.setIfInBounds_toArray, List.set_cons_zero, List.set_cons_succ, i64_w, i32_w]
            rfl
           refine pure_ (i := 7) (N := some 46) (v := ?_) (a' := ?_) #[true, true, true, true, true, true, true, true, false, false, false, false, false, false] rfl rfl (zqa HT_.out (by kernel_rfl)) (fun _ _ _ h => h) (Or.inl ⟨by rfl, ?_⟩) ?_ ?_
           rotate_left
           ·intro w'
            go_simp
            with_reducible rfl
           rotate_left
           ·simp only [Act.put, List.setIfInBounds_toArray, List.set_cons_zero, List.set_cons_succ, i64_w, i32_w]
            rfl
           refine pure_ (i := 8) (N := some 54) (v := ?_) (a' := ?_) #[true, true, true, true, true, true, true, true, true, false, false, false, false, false] rfl rfl (zqa HT_.out (by kernel_rfl)) (fun _ _ _ h => h) (Or.inl ⟨by rfl, ?_⟩) ?_ ?_
           rotate_left
           ·intro w'
            go_simp
            with_reducible rfl
           rotate_left
           ·simp only [Act.put, List.setIfInBounds_toArray, List.set_cons_zero, List.set_cons_succ, i64_w, i32_w]
            rfl
           refine pure_ (i := 9) (N := some 55) (v := ?_) (a' := ?_) #[true, true, true, true, true, true, true, true, true, true, false, false, false, false] rfl rfl (zqa HT_.out (by kernel_rfl)) (fun _ _ _ h => h) (Or.inl ⟨by rfl, ?_⟩) ?_ ?_
           rotate_left
           ·intro w'
            go_simp
            with_reducible rfl
           rotate_left
           ·simp only [Act.put, List.setIfInBounds_toArray, List.set_cons_zero, List.set_cons_succ, i64_w, i32_w]
            rfl
           refine pure_ (i := 10) (N := some 56) (v := ?_) (a' := ?_) #[true, true, true, true, true, true, true, true, true, true, true, false, false, false] rfl rfl (zqa HT_.out (by kernel_rfl)) (fun _ _ _ h => h) (Or.inl ⟨by rfl, ?_⟩) ?_ ?_
           rotate_left
           ·intro w'
            go_simp
            with_reducible rfl
           rotate_left
           ·simp only [Act.put, List.setIfInBounds_toArray, List.set_cons_zero, List.set_cons_succ, i64_w, i32_w]
            rfl
           refine pure_ (i := 11) (N := some 14) (v := ?_) (a' := ?_) #[true, true, true, true, true, true, true, true, true, true, true, true, false, false] rfl rfl (zqa HT_.out (by kernel_rfl)) (fun _ _ _ h => h) (Or.inl ⟨by rfl, ?_⟩) ?_ ?_
           rotate_left
           ·intro w'
            go_simp
            with_reducible rfl
           rotate_left
           ·simp only [Act.put, List.setIfInBounds_toArray, List.set_cons_zero, List.set_cons_succ, i64_w, i32_w]
            rfl
           refine pure_ (i := 12) (N := some 15) (v := ?_) (a' := ?_) #[true, true, true, true, true, true, true, true, true, true, true, true, true, false] rfl rfl (zqa HT_.out (by kernel_rfl)) (fun _ _ _ h => h) (Or.inl ⟨by rfl, ?_⟩) ?_ ?_
           rotate_left
           ·intro w'
            go_simp
            with_reducible rfl
           rotate_left
           ·simp only [Act.put, List.setIfInBounds_toArray, List.set_cons_zero, List.set_cons_succ, i64_w, i32_w]
            rfl
           refine pure_ (i := 13) (N := some 16) (v := ?_) (a' := ?_) #[true, true, true, true, true, true, true, true, true, true, true, true, true, true] rfl rfl (zqa HT_.out (by kernel_rfl)) (fun _ _ _ h => h) (Or.inl ⟨by rfl, ?_⟩) ?_ ?_
           rotate_left
           ·intro w'
            go_simp
            with_reducible rfl
           rotate_left
           ·simp only [Act.put, List.setIfInBounds_toArray, List.set_cons_zero, List.set_cons_succ, i64_w, i32_w]
            rfl
           refine done_ (done_of HT_.out (by kernel_rfl)) ?_
           try go_wp2
           go_roundg k1
           case measure => have := HK1.out; omega
           case rel => exact ⟨(wrap64 (x11_1 + (wrap64 (t254 * (rd l2 x35_1))))), (wrap64 (x35_1 + 1)), (by first | rfl | (simp; done) | (simp [*]; done)), (by first | rfl | (simp; done) | (simp [*]; done)), H', ⟨by have := HK1.out; omega⟩, ⟨by (with_reducible repeat first | apply zi | apply zl | apply zh); exact BK250.out⟩, ⟨by repeat with_reducible first | exact HB.out | apply zd | apply za | apply ze | refine zk ?_ GE250.out⟩⟩
          ·rw [if_neg c15] at H
           exact absurd H (by simp)
       ·rw [if_neg c12] at H
        exact absurd H (by simp)
      ·rw [if_neg c11] at H
       exact absurd H (by simp)
     ·rw [if_neg c10] at H
      have c10b0 : decide (x35_1 < (l2.length : Int)) = false := decide_eq_false c10
      clear c10
      simp only [Option.some.injEq, Prod.mk.injEq] at H
      obtain ⟨rfl, rfl, rfl⟩ := H
      try go_wp2
      have n0_ := zb.mk (zl BK250.out)
      have n1_ := zb.mk (ze HB.out)
      clear BK250
      clear HB
      have BK250 := n0_
      have HB := n1_
      clear n0_ n1_
      refine start_ (n := 6) (S := fun w' => w'.cell? ⟨gb250, 0, none⟩ = some (.int .i64 t247) ∧ w'.cell? ⟨gb250, 1, none⟩ = some (.int .i64 t248)) (ds := []) #[false, false, false, false, false, false] (by kernel_rfl) rfl rfl ⟨(zg BK250.out 0).trans rfl, (zg BK250.out 1).trans rfl⟩ (fun hHeld => ?_)
      generalize wr.drew = w19 at BK250 HB hHeld ⊢
      refine pure_ (i := 0) (N := some 63) (v := ?_) (a' := ?_) #[true, false, false, false, false, false] rfl rfl (by kernel_rfl) (fun _ _ _ h => h) (Or.inl ⟨by rfl, ?_⟩) ?_ ?_
      rotate_left
      ·intro w'
       go_simp
       with_reducible rfl
      rotate_left
      ·simp only [Act.put, List.setIfInBounds_toArray, List.set_cons_zero, List.set_cons_succ, i64_w, i32_w]
       rfl
      refine pure_ (i := 1) (N := some 64) (v := ?_) (a' := ?_) #[true, true, false, false, false, false] rfl rfl (by kernel_rfl) (fun _ _ _ h => h) (Or.inl ⟨by rfl, ?_⟩) ?_ ?_
      rotate_left
      ·intro w'
       go_simp
       with_reducible rfl
      rotate_left
      ·simp only [Act.put, List.setIfInBounds_toArray, List.set_cons_zero, List.set_cons_succ, i64_w, i32_w]
       rfl
      refine pure_ (i := 3) (N := some 6) (v := ?_) (a' := ?_) #[true, true, false, true, false, false] rfl rfl (by kernel_rfl) (fun _ _ _ h => h) (Or.inl ⟨by rfl, ?_⟩) ?_ ?_
      rotate_left
      ·intro w'
       go_simp
       with_reducible rfl
      rotate_left
      ·simp only [Act.put, List.setIfInBounds_toArray, List.set_cons_zero, List.set_cons_succ, i64_w, i32_w]
       rfl
      refine take_ (i := 2) (N := some 65) (v := ?_) (a' := ?_) #[true, true, true, true, false, false] rfl rfl (by kernel_rfl) (fun _ _ _ h => h) (Or.inl ⟨by rfl, ?_⟩) hHeld ?_ ?_
      rotate_left
      ·rintro w' ⟨s0, s1⟩
       go_simp
       with_reducible rfl
      rotate_left
      ·simp only [Act.put, List.setIfInBounds_toArray, List.set_cons_zero, List.set_cons_succ, i64_w, i32_w]
       rfl
      refine pure_ (i := 4) (N := some 7) (v := ?_) (a' := ?_) #[true, true, true, true, true, false] rfl rfl (by kernel_rfl) (fun _ _ _ h => h) (Or.inl ⟨by rfl, ?_⟩) ?_ ?_
      rotate_left
      ·intro w'
       go_simp
       with_reducible rfl
      rotate_left
      ·simp only [Act.put, List.setIfInBounds_toArray, List.set_cons_zero, List.set_cons_succ, i64_w, i32_w]
       rfl
      refine pure_ (i := 5) (N := some 8) (v := ?_) (a' := ?_) #[true, true, true, true, true, true] rfl rfl (by kernel_rfl) (fun _ _ _ h => h) (Or.inl ⟨by rfl, ?_⟩) ?_ ?_
      rotate_left
      ·intro w'
       go_simp
       with_reducible rfl
      rotate_left
      ·simp only [Act.put, List.setIfInBounds_toArray, List.set_cons_zero, List.set_cons_succ, i64_w, i32_w]
       rfl
      refine done_ (by kernel_rfl) ?_
      try go_wp2
      go_ret3
      exact ⟨by first | rfl | (simp [zp, zq] <;> rfl) | (simp [*, zp, zq] <;> rfl), by repeat with_reducible first | exact HB.out | apply zd | apply za | apply ze | refine zk ?_ GE250.out⟩
  ·rw [if_neg c6] at H
   have c6b0 : ((l2.length : Int) == (l0.length : Int)) = false := beq_eq_false_iff_ne.mpr c6
   have c6b1 : ((l2.length : Int) != (l0.length : Int)) = true := bne_iff_ne.mpr c6
   have c6b2 : (l2.length == l0.length) = false := by first | simpa using c6 | (simp at c6 ⊢; omega)
   simp only [Option.some.injEq, Prod.mk.injEq] at H
   obtain ⟨rfl, rfl, rfl⟩ := H
   go_enter Tryz.func10, Tryz.ntmps10
   go_wp2_with (first | ((with_reducible refine zt (f := 29) rfl ?_); refine zka (some 20) rfl rfl Tryz.func29 (by kernel_rfl) rfl #[.slice A0 l0.length c0, .slice A1 l1.length c1] rfl (by (try simp only [List.map_toArray, List.map_cons, List.map_nil]); first | done | rfl | (simp only [List.length_drop, List.length_take]; rfl)) ?_; (with_reducible refine (unfold_Of.calls _ _ l0 _ _ l1 t247 t248 t249 _ ?side1 ?side2 ?side3 ?side4 A4.out).mono ?_); (case side1 => repeat (first | exact HR0.out | (with_reducible refine Kd.zea ?_ _) | (with_reducible refine Kd.zfa ?_ _) | (with_reducible refine Kd.zia ?_))); (case side2 => exact HC0.out); (case side3 => repeat (first | exact HR1.out | (with_reducible refine Kd.zea ?_ _) | (with_reducible refine Kd.zfa ?_ _) | (with_reducible refine Kd.zia ?_))); (case side4 => exact HC1.out); rintro e w20 ⟨rfl, hb⟩; refine ⟨_, rfl, ?_⟩; have n0_ := zb.mk (zo (by repeat with_reducible first | exact HB.out | apply zd | apply za | apply ze) hb); clear HB; have HB := n0_; clear n0_; (try clear hb)) | ((with_reducible refine zda (N := 9) rfl ?_); refine zaa ?hg (N := 9) ?hd (cs := #[.int .i64 0, .int .i64 0]) (t := 39) ?hr ?_; (case hd => rfl); (case hg => rfl); (case hr => first | (go_simp; done) | (go_simp; rfl)); intro gb250 hg w21 hbox hb; have n0_ := zb.mk (zo (by repeat with_reducible first | exact HB.out | apply zd | apply za | apply ze) hb); have n1_ := zb.mk (hbox); have n2_ := zb.mk ((by rw [hg]; exact (zn (by repeat with_reducible first | exact HB.out | apply zd | apply za | apply ze)) : w.heap.size ≤ gb250)); have n3_ := zb.mk ((by rw [hg]; exact (zn (by repeat with_reducible first | exact HB.out | apply zd | apply za | apply ze)) : w.heap.size ≤ gb250)); clear HB; have HB := n0_; have BK250 := n1_; have GW250 := n2_; have GE250 := n3_; clear n0_ n1_ n2_ n3_; clear hb hbox hg; have hcz22_0 : w21.cell? ⟨gb250, 0, none⟩ = some (.int .i64 0) := (zg BK250.out 0).trans rfl; have hcz22_1 : w21.cell? ⟨gb250, 1, none⟩ = some (.int .i64 0) := (zg BK250.out 1).trans rfl; have hfz22_0 := zf BK250.out 0; have hfz22_1 := zf BK250.out 1))
   go_ret3
   exact ⟨by first | rfl | (simp [zp, zq] <;> rfl) | (simp [*, zp, zq] <;> rfl), by repeat with_reducible first | exact HB.out | apply zd | apply za | apply ze | refine zk ?_ GE250.out⟩
 ·rw [if_neg c5] at H
  have c5b0 : (t249 == 0) = false := beq_eq_false_iff_ne.mpr c5
  have c5b1 : (t249 != 0) = true := bne_iff_ne.mpr c5
  simp only [Option.some.injEq, Prod.mk.injEq] at H
  obtain ⟨rfl, rfl, rfl⟩ := H
  go_enter Tryz.func10, Tryz.ntmps10
  go_wp2_with (first | ((with_reducible refine zt (f := 29) rfl ?_); refine zka (some 20) rfl rfl Tryz.func29 (by kernel_rfl) rfl #[.slice A0 l0.length c0, .slice A1 l1.length c1] rfl (by (try simp only [List.map_toArray, List.map_cons, List.map_nil]); first | done | rfl | (simp only [List.length_drop, List.length_take]; rfl)) ?_; (with_reducible refine (unfold_Of.calls _ _ l0 _ _ l1 t247 t248 t249 _ ?side1 ?side2 ?side3 ?side4 A4.out).mono ?_); (case side1 => repeat (first | exact HR0.out | (with_reducible refine Kd.zea ?_ _) | (with_reducible refine Kd.zfa ?_ _) | (with_reducible refine Kd.zia ?_))); (case side2 => exact HC0.out); (case side3 => repeat (first | exact HR1.out | (with_reducible refine Kd.zea ?_ _) | (with_reducible refine Kd.zfa ?_ _) | (with_reducible refine Kd.zia ?_))); (case side4 => exact HC1.out); rintro e w23 ⟨rfl, hb⟩; refine ⟨_, rfl, ?_⟩; have n0_ := zb.mk (zo (by repeat with_reducible first | exact HB.out | apply zd | apply za | apply ze) hb); clear HB; have HB := n0_; clear n0_; (try clear hb)) | ((with_reducible refine zda (N := 9) rfl ?_); refine zaa ?hg (N := 9) ?hd (cs := #[.int .i64 0, .int .i64 0]) (t := 39) ?hr ?_; (case hd => rfl); (case hg => rfl); (case hr => first | (go_simp; done) | (go_simp; rfl)); intro gb250 hg w24 hbox hb; have n0_ := zb.mk (zo (by repeat with_reducible first | exact HB.out | apply zd | apply za | apply ze) hb); have n1_ := zb.mk (hbox); have n2_ := zb.mk ((by rw [hg]; exact (zn (by repeat with_reducible first | exact HB.out | apply zd | apply za | apply ze)) : w.heap.size ≤ gb250)); have n3_ := zb.mk ((by rw [hg]; exact (zn (by repeat with_reducible first | exact HB.out | apply zd | apply za | apply ze)) : w.heap.size ≤ gb250)); clear HB; have HB := n0_; have BK250 := n1_; have GW250 := n2_; have GE250 := n3_; clear n0_ n1_ n2_ n3_; clear hb hbox hg; have hcz25_0 : w24.cell? ⟨gb250, 0, none⟩ = some (.int .i64 0) := (zg BK250.out 0).trans rfl; have hcz25_1 : w24.cell? ⟨gb250, 1, none⟩ = some (.int .i64 0) := (zg BK250.out 1).trans rfl; have hfz25_0 := zf BK250.out 0; have hfz25_1 := zf BK250.out 1))
  go_ret3
  exact ⟨by first | rfl | (simp [zp, zq] <;> rfl) | (simp [*, zp, zq] <;> rfl), by repeat with_reducible first | exact HB.out | apply zd | apply za | apply ze | refine zk ?_ GE250.out⟩
end
end Go.Proofs.YtfondhcppjkchaaGreat.Q
