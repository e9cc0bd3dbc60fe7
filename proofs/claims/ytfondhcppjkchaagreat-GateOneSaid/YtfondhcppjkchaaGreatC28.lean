import Derived.Test.YtfondhcppjkchaaGreatC3
import Derived.Test.YtfondhcppjkchaaGreatC27
import Derived.Test.YtfondhcppjkchaaGreatC13
set_option maxHeartbeats 40000000
set_option maxRecDepth 100000
set_option linter.unusedVariables false
set_option linter.unusedSimpArgs false
namespace Go.Proofs.YtfondhcppjkchaaGreat.Q
noncomputable section
open Go.RowKit Go.Proofs.YtfondhcppjkchaaGreatW.PrintWords Go.Proofs.YtfondhcppjkchaaGreatW.PrintLast Go.Proofs.YtfondhcppjkchaaGreatW.PrintMore
attribute [local go_sem] max2_int min2_int max_two min_two max_three min_three max_four min_four
mutual
def unfold_Needs.j0 : Nat → Int → Bool → Int → Int → Int → Int → Int → List (S75) → Int → Option ((List (S174)) × Int)
 | 0, _, _, _, _, _, _, _, _, _ => none
 | k + 1, x1, x17, x264000, x264001, x264002, x264003, x264004, x264005, x264006 => if x17 = true then (some (([] : List (S174)), 2)) else (unfold_Needs.l0 k x1 ([] : List (S174)) x264005 (x264005.length : Int) 0)
def unfold_Needs.l0 : Nat → Int → List (S174) → List (S75) → Int → Int → Option ((List (S174)) × Int)
 | 0, _, _, _, _, _ => none
 | k + 1, x1, x6, x19, x20, x21 => if x21 < x20 then (if 0 ≤ x21 then (if x21 < (x19.length : Int) then ((deps_At.f ((zm x19 x21).f3.f0) ((zm x19 x21).f3.f1) ((zm x19 x21).f3.f2) x1).bind fun bt267 => (if bt267.2.2.2 = 0 then (if bt267.1 = true then (unfold_Needs.l0 k x1 x6 x19 x20 (wrap64 (x21 + 1))) else (if x6.length < 4398046511104 then (unfold_Needs.l0 k x1 (x6 ++ [(⟨(zm x19 x21).f0, (zm x19 x21).f1, (zm x19 x21).f2, bt267.2.2.1⟩ : S174)]) x19 x20 (wrap64 (x21 + 1))) else (none))) else (some (([] : List (S174)), bt267.2.2.2)))) else (none)) else (none)) else (some (x6, 0))
end
def unfold_Needs.f (k : Nat) (a0_0 : Int) (a0_1 : Int) (a0_2 : Int) (a0_3 : Int) (a0_4 : Int) (l0_5 : List (S75)) (a0_6 : Int) (a1 : Int) : Option ((List (S174)) × Int) := if a1 < 0 then (unfold_Needs.j0 k a1 true a0_0 a0_1 a0_2 a0_3 a0_4 l0_5 a0_6) else ((containsRead.f l0_5).bind fun t264 => (unfold_Needs.j0 k a1 t264 a0_0 a0_1 a0_2 a0_3 a0_4 l0_5 a0_6))
theorem unfold_Needs.zma : ∀ k, (∀ y0 y1 y2 y3 y4 y5 y6 y7 y8, LeO (unfold_Needs.j0 k y0 y1 y2 y3 y4 y5 y6 y7 y8) (unfold_Needs.j0 (k + 1) y0 y1 y2 y3 y4 y5 y6 y7 y8)) ∧ (∀ y0 y1 y2 y3 y4, LeO (unfold_Needs.l0 k y0 y1 y2 y3 y4) (unfold_Needs.l0 (k + 1) y0 y1 y2 y3 y4))
 | 0 => ⟨fun _ _ _ _ _ _ _ _ _ r h => by simp [unfold_Needs.j0] at h, fun _ _ _ _ _ r h => by simp [unfold_Needs.l0] at h⟩
 | k + 1 => by
  obtain ⟨ih0, ih1⟩ := unfold_Needs.zma k
  refine ⟨?_, ?_⟩
  ·intro y0 y1 y2 y3 y4 y5 y6 y7 y8
   unfold unfold_Needs.j0
   repeat' first
   | (with_reducible exact ih0 _ _ _ _ _ _ _ _ _)
   | (with_reducible exact ih1 _ _ _ _ _)
   | (with_reducible exact LeO.refl _)
   | (with_reducible exact LeO.none _)
   | (with_reducible refine LeO.ite ?_ ?_)
   | (with_reducible refine LeO.bind ?_ (fun _ => ?_))
   | exact ih0 _ _ _ _ _ _ _ _ _
   | exact ih1 _ _ _ _ _
   | exact LeO.none _
   | refine LeO.ite ?_ ?_
   | refine LeO.bind ?_ (fun _ => ?_)
  ·intro y0 y1 y2 y3 y4
   unfold unfold_Needs.l0
   repeat' first
   | (with_reducible exact ih0 _ _ _ _ _ _ _ _ _)
   | (with_reducible exact ih1 _ _ _ _ _)
   | (with_reducible exact LeO.refl _)
   | (with_reducible exact LeO.none _)
   | (with_reducible refine LeO.ite ?_ ?_)
   | (with_reducible refine LeO.bind ?_ (fun _ => ?_))
   | exact ih0 _ _ _ _ _ _ _ _ _
   | exact ih1 _ _ _ _ _
   | exact LeO.none _
   | refine LeO.ite ?_ ?_
   | refine LeO.bind ?_ (fun _ => ?_)
theorem unfold_Needs.mono : ∀ a0 a1 a2 a3 a4 a5 a6 a7 k, LeO (unfold_Needs.f k a0 a1 a2 a3 a4 a5 a6 a7) (unfold_Needs.f (k + 1) a0 a1 a2 a3 a4 a5 a6 a7) := by
 intro a0 a1 a2 a3 a4 a5 a6 a7 k
 obtain ⟨ih0, ih1⟩ := unfold_Needs.zma k
 unfold unfold_Needs.f
 repeat' first
   | (with_reducible exact ih0 _ _ _ _ _ _ _ _ _)
   | (with_reducible exact ih1 _ _ _ _ _)
   | (with_reducible exact LeO.refl _)
   | (with_reducible exact LeO.none _)
   | (with_reducible refine LeO.ite ?_ ?_)
   | (with_reducible refine LeO.bind ?_ (fun _ => ?_))
   | exact ih0 _ _ _ _ _ _ _ _ _
   | exact ih1 _ _ _ _ _
   | exact LeO.none _
   | refine LeO.ite ?_ ?_
   | refine LeO.bind ?_ (fun _ => ?_)
theorem unfold_Needs.calls (k : Nat) (a0_0 : Int) (a0_1 : Int) (a0_2 : Int) (a0_3 : Int) (a0_4 : Int) (A0_5 : Option Addr) (c0_5 : Nat) (l0_5 : List (S75)) (a0_6 : Int) (a1 : Int) (r1 : List (S174)) (r2 : Int) (w : World) (hr0_5 : Kd.C k75 w A0_5 l0_5.length l0_5) (hc0_5 : l0_5.length ≤ c0_5) (h : unfold_Needs.f k a0_0 a0_1 a0_2 a0_3 a0_4 l0_5 a0_6 a1 = some (r1, r2)) :
  Calls Tryz.prog 110 #[.agg #[.int .i64 a0_0, .int .i64 a0_1, .int .i64 a0_2, .int .i64 a0_3, .int .i64 a0_4, .slice A0_5 l0_5.length c0_5, .int .i64 a0_6], .int .i64 a1] w fun e w' => ∃ v0_ : Value, e = .returned (.tuple #[v0_, .int .i64 r2]) ∧ Kd.R k174 174 w' w.heap.size (fun _ => True) v0_ r1 ∧ Below w.heap.size w w' := by
 have hu78 := Tryz.underlying78
 have hu75 := Tryz.underlying75
 have hu73 := Tryz.underlying73
 have hu70 := Tryz.underlying70
 have hu174 := Tryz.underlying174
 have HR0_5 := zb.mk hr0_5
 have HC0_5 := zb.mk hc0_5
 clear hr0_5 hc0_5
 have HB := zb.mk (Below.refl w.heap.size w)
 have H : (if a1 < 0 then (unfold_Needs.j0 k a1 true a0_0 a0_1 a0_2 a0_3 a0_4 l0_5 a0_6) else ((containsRead.f l0_5).bind fun t264 => (unfold_Needs.j0 k a1 t264 a0_0 a0_1 a0_2 a0_3 a0_4 l0_5 a0_6))) = some (r1, r2) := h
 clear h
 have HC3 := zb.mk H
 clear H
 go_enter Tryz.func110, Tryz.ntmps110
 go_upto_region 1 with (first | ((with_reducible refine zda (N := 2) rfl ?_); refine zaa ?hg (N := 2) ?hd (cs := #[.int .i64 a0_0, .int .i64 a0_1, .int .i64 a0_2, .int .i64 a0_3, .int .i64 a0_4, .slice A0_5 l0_5.length c0_5, .int .i64 a0_6]) (t := 78) ?hr ?_; (case hd => rfl); (case hg => rfl); (case hr => first | (go_simp; done) | (go_simp; rfl)); intro gb263 hg w4 hbox hb; have n0_ := zb.mk (zo (by repeat with_reducible first | exact HB.out | apply zd | apply za | apply ze) hb); have n1_ := zb.mk (hbox); have n2_ := zb.mk ((by rw [hg]; exact (zn (by repeat with_reducible first | exact HB.out | apply zd | apply za | apply ze)) : w.heap.size ≤ gb263)); have n3_ := zb.mk ((by rw [hg]; exact (zn (by repeat with_reducible first | exact HB.out | apply zd | apply za | apply ze)) : w.heap.size ≤ gb263)); clear HB; have HB := n0_; have BK263 := n1_; have GW263 := n2_; have GE263 := n3_; clear n0_ n1_ n2_ n3_; clear hb hbox hg))
 (try simp only [Act.put, List.setIfInBounds_toArray, List.set_cons_zero, List.set_cons_succ])
 go_cut [17] (fun v17 wc => ∃ (kq : Nat) (x17_2 : Bool), v17 = .bool x17_2 ∧ zb (unfold_Needs.j0 kq a1 x17_2 a0_0 a0_1 a0_2 a0_3 a0_4 l0_5 a0_6 = some (r1, r2)) ∧ zb (kq ≤ k) ∧ zb (wc.heap[gb263]? = some (.cells #[.int .i64 a0_0, .int .i64 a0_1, .int .i64 a0_2, .int .i64 a0_3, .int .i64 a0_4, (.slice A0_5 l0_5.length c0_5), .int .i64 a0_6] 78 (0, 0))) ∧ zb (Below w.heap.size w wc))
 case first =>
  have H := HC3.out
  clear HC3
  by_cases c5 : a1 < 0
  ·rw [if_pos c5] at H
   have c5b0 : decide (a1 < 0) = true := decide_eq_true c5
   clear c5
   (first | rw [c5b0] | (simp only [i64_w, i32_w]; rw [c5b0]) | skip)
   have H' := zb.mk H
   clear H
   go_wp2
   go_meet
   case rel => exact ⟨_, (true), (by first | rfl | (simp; done) | (simp [*]; done)), H', ⟨by first | omega | exact Nat.le_refl _⟩, ⟨by (with_reducible repeat first | apply zi | apply zl | apply zh); exact BK263.out⟩, ⟨by repeat with_reducible first | exact HB.out | apply zd | apply za | apply ze | refine zk ?_ GE263.out⟩⟩
  ·rw [if_neg c5] at H
   have c5b0 : decide (a1 < 0) = false := decide_eq_false c5
   clear c5
   (first | rw [c5b0] | (simp only [i64_w, i32_w]; rw [c5b0]) | skip)
   replace H := Option.bind_eq_some_iff.mp H
   obtain ⟨t264, A60, H⟩ := H
   replace H : (unfold_Needs.j0 k a1 t264 a0_0 a0_1 a0_2 a0_3 a0_4 l0_5 a0_6) = some (r1, r2) := H
   have A6 := zb.mk A60
   clear A60
   have H' := zb.mk H
   clear H
   have hcz7_0 : w4.cell? ⟨gb263, 0, none⟩ = some (.int .i64 a0_0) := (zg BK263.out 0).trans rfl
   have hcz7_1 : w4.cell? ⟨gb263, 1, none⟩ = some (.int .i64 a0_1) := (zg BK263.out 1).trans rfl
   have hcz7_2 : w4.cell? ⟨gb263, 2, none⟩ = some (.int .i64 a0_2) := (zg BK263.out 2).trans rfl
   have hcz7_3 : w4.cell? ⟨gb263, 3, none⟩ = some (.int .i64 a0_3) := (zg BK263.out 3).trans rfl
   have hcz7_4 : w4.cell? ⟨gb263, 4, none⟩ = some (.int .i64 a0_4) := (zg BK263.out 4).trans rfl
   have hcz7_5 : w4.cell? ⟨gb263, 5, none⟩ = some (.slice A0_5 l0_5.length c0_5) := (zg BK263.out 5).trans rfl
   have hcz7_6 : w4.cell? ⟨gb263, 6, none⟩ = some (.int .i64 a0_6) := (zg BK263.out 6).trans rfl
   have hfz7_0 := zf BK263.out 0
   have hfz7_1 := zf BK263.out 1
   have hfz7_2 := zf BK263.out 2
   have hfz7_3 := zf BK263.out 3
   have hfz7_4 := zf BK263.out 4
   have hfz7_5 := zf BK263.out 5
   have hfz7_6 := zf BK263.out 6
   go_wp2_with (first | (go_at_call 144; (with_reducible refine (containsRead.calls _ _ l0_5 t264 _ ?side1 ?side2 A6.out).mono ?_); (case side1 => repeat (first | exact (Kd.zu HR0_5.out HB.out) | (with_reducible refine Kd.zea ?_ _) | (with_reducible refine Kd.zfa ?_ _) | (with_reducible refine Kd.zia ?_))); (case side2 => exact HC0_5.out); rintro e w8 ⟨rfl, hb⟩; have n0_ := zb.mk (zr (g := gb263) (o := .cells #[.int .i64 a0_0, .int .i64 a0_1, .int .i64 a0_2, .int .i64 a0_3, .int .i64 a0_4, .slice A0_5 l0_5.length c0_5, .int .i64 a0_6] 78 (0, 0)) (by (with_reducible repeat first | apply zi | apply zl | apply zh); exact BK263.out) hb); have n1_ := zb.mk (zo (by repeat with_reducible first | exact HB.out | apply zd | apply za | apply ze | refine zk ?_ GE263.out) hb); clear BK263; clear HB; have BK263 := n0_; have HB := n1_; clear n0_ n1_; (try clear hb)))
   go_meet
   case rel => exact ⟨_, (t264), (by first | rfl | (simp; done) | (simp [*]; done)), H', ⟨by first | omega | exact Nat.le_refl _⟩, ⟨by (with_reducible repeat first | apply zi | apply zl | apply zh); exact BK263.out⟩, ⟨by repeat with_reducible first | exact HB.out | apply zd | apply za | apply ze | refine zk ?_ GE263.out⟩⟩
 case rest =>
  clear HC3
  try clear c1
  try clear p2
  try clear c5
  try clear c5b0
  try clear hcz7_0
  try clear hcz7_1
  try clear hcz7_2
  try clear hcz7_3
  try clear hcz7_4
  try clear hcz7_5
  try clear hcz7_6
  try clear hfz7_0
  try clear hfz7_1
  try clear hfz7_2
  try clear hfz7_3
  try clear hfz7_4
  try clear hfz7_5
  try clear hfz7_6
  obtain ⟨kq, x17_2, rfl, HA, HJ2, BK263, HB⟩ := hcut
  cases kq with
  | zero => exact absurd HA.out (by simp [unfold_Needs.j0])
  | succ kj2 =>
   have H := HA.out
   clear HA
   simp only [unfold_Needs.j0] at H
   by_cases c9 : x17_2 = true
   ·subst c9
    have H1 : (some (([] : List (S174)), 2)) = some (r1, r2) := by rw [if_pos rfl] at H; exact H
    clear H
    have H := H1
    clear H1
    simp only [Option.some.injEq, Prod.mk.injEq] at H
    obtain ⟨rfl, rfl⟩ := H
    go_wp2
    go_ret2
    exact ⟨_, by first | rfl | (simp [zp, zq] <;> rfl) | (simp [*, zp, zq] <;> rfl), by first | exact Kd.R_nil _ _ _ _ _ | exact Kd.N_nil _ _ _ _ _ | exact Kd.V_nil _ _ _ _ _ | exact Kd.Q_nil _ _ _ _ _ | exact Kd.S_nil _ _ _ _ _, by repeat with_reducible first | exact HB.out | apply zd | apply za | apply ze | refine zk ?_ GE263.out⟩
   ·replace c9 := Bool.eq_false_iff.mpr c9
    subst c9
    have H1 : (unfold_Needs.l0 kj2 a1 ([] : List (S174)) l0_5 (l0_5.length : Int) 0) = some (r1, r2) := by rw [if_neg (show ¬ (false = true) by decide)] at H; exact H
    clear H
    have H := H1
    clear H1
    have H' := zb.mk H
    clear H
    have hcz10_0 : wc.cell? ⟨gb263, 0, none⟩ = some (.int .i64 a0_0) := (zg BK263.out 0).trans rfl
    have hcz10_1 : wc.cell? ⟨gb263, 1, none⟩ = some (.int .i64 a0_1) := (zg BK263.out 1).trans rfl
    have hcz10_2 : wc.cell? ⟨gb263, 2, none⟩ = some (.int .i64 a0_2) := (zg BK263.out 2).trans rfl
    have hcz10_3 : wc.cell? ⟨gb263, 3, none⟩ = some (.int .i64 a0_3) := (zg BK263.out 3).trans rfl
    have hcz10_4 : wc.cell? ⟨gb263, 4, none⟩ = some (.int .i64 a0_4) := (zg BK263.out 4).trans rfl
    have hcz10_5 : wc.cell? ⟨gb263, 5, none⟩ = some (.slice A0_5 l0_5.length c0_5) := (zg BK263.out 5).trans rfl
    have hcz10_6 : wc.cell? ⟨gb263, 6, none⟩ = some (.int .i64 a0_6) := (zg BK263.out 6).trans rfl
    have hfz10_0 := zf BK263.out 0
    have hfz10_1 := zf BK263.out 1
    have hfz10_2 := zf BK263.out 2
    have hfz10_3 := zf BK263.out 3
    have hfz10_4 := zf BK263.out 4
    have hfz10_5 := zf BK263.out 5
    have hfz10_6 := zf BK263.out 6
    go_wp2
    go_loopg [6, 21] kj2 (fun kq v6 v21 w' => ∃ (x6_2 : List (S174)) (x21_2 : Int), v21 = .int .i64 x21_2 ∧ zb (unfold_Needs.l0 kq a1 x6_2 l0_5 (l0_5.length : Int) x21_2 = some (r1, r2)) ∧ zb (kq ≤ kj2) ∧ zb (Kd.R k174 174 w' w.heap.size (fun _ => True) v6 x6_2) ∧ zb (w'.heap[gb263]? = some (.cells #[.int .i64 a0_0, .int .i64 a0_1, .int .i64 a0_2, .int .i64 a0_3, .int .i64 a0_4, (.slice A0_5 l0_5.length c0_5), .int .i64 a0_6] 78 (0, 0))) ∧ zb (Below w.heap.size w w'))
    case atStart => exact ⟨(([] : List (S174))), (0), (by first | rfl | (simp; done) | (simp [*]; done)), H', ⟨Nat.le_refl _⟩, ⟨by first | exact Kd.R_nil _ _ _ _ _ | exact Kd.N_nil _ _ _ _ _ | exact Kd.V_nil _ _ _ _ _ | exact Kd.Q_nil _ _ _ _ _ | exact Kd.S_nil _ _ _ _ _⟩, ⟨by (with_reducible repeat first | apply zi | apply zl | apply zh); exact BK263.out⟩, ⟨by repeat with_reducible first | exact HB.out | apply zd | apply za | apply ze | refine zk ?_ GE263.out⟩⟩
    case round =>
     clear H'
     try clear c1
     try clear p2
     try clear c5
     try clear c5b0
     try clear c9
     try clear hcz10_0
     try clear hcz10_1
     try clear hcz10_2
     try clear hcz10_3
     try clear hcz10_4
     try clear hcz10_5
     try clear hcz10_6
     try clear hcz7_0
     try clear hcz7_1
     try clear hcz7_2
     try clear hcz7_3
     try clear hcz7_4
     try clear hcz7_5
     try clear hcz7_6
     try clear hfz10_0
     try clear hfz10_1
     try clear hfz10_2
     try clear hfz10_3
     try clear hfz10_4
     try clear hfz10_5
     try clear hfz10_6
     try clear hfz7_0
     try clear hfz7_1
     try clear hfz7_2
     try clear hfz7_3
     try clear hfz7_4
     try clear hfz7_5
     try clear hfz7_6
     try clear p2
     obtain ⟨x6_2, x21_2, rfl, HA, HK2, HO_6, BK263, HB⟩ := hrel
     cases gk with
     | zero => exact absurd HA.out (by simp [unfold_Needs.l0])
     | succ k2 =>
      have H := HA.out
      clear HA
      simp only [unfold_Needs.l0] at H
      by_cases c11 : x21_2 < (l0_5.length : Int)
      ·rw [if_pos c11] at H
       have c11b0 : decide (x21_2 < (l0_5.length : Int)) = true := decide_eq_true c11
       clear c11
       by_cases c12 : 0 ≤ x21_2
       ·rw [if_pos c12] at H
        have c12b0 : decide (0 ≤ x21_2) = true := decide_eq_true c12
        clear c12
        by_cases c13 : x21_2 < (l0_5.length : Int)
        ·rw [if_pos c13] at H
         have c13b0 : decide (x21_2 < (l0_5.length : Int)) = true := decide_eq_true c13
         clear c13
         replace H := Option.bind_eq_some_iff.mp H
         obtain ⟨⟨t267, t268, t269, t270⟩, A140, H⟩ := H
         replace H : (if t270 = 0 then (if t267 = true then (unfold_Needs.l0 k2 a1 x6_2 l0_5 (l0_5.length : Int) (wrap64 (x21_2 + 1))) else (if x6_2.length < 4398046511104 then (unfold_Needs.l0 k2 a1 (x6_2 ++ [(⟨(zm l0_5 x21_2).f0, (zm l0_5 x21_2).f1, (zm l0_5 x21_2).f2, t269⟩ : S174)]) l0_5 (l0_5.length : Int) (wrap64 (x21_2 + 1))) else (none))) else (some (([] : List (S174)), t270))) = some (r1, r2) := H
         have A14 := zb.mk A140
         clear A140
         by_cases c15 : t270 = 0
         ·rw [if_pos c15] at H
          have c15b0 : (t270 == 0) = true := beq_iff_eq.mpr c15
          have c15b1 : (t270 != 0) = false := bne_eq_false_iff_eq.mpr c15
          clear c15
          by_cases c16 : t267 = true
          ·subst c16
           have H1 : (unfold_Needs.l0 k2 a1 x6_2 l0_5 (l0_5.length : Int) (wrap64 (x21_2 + 1))) = some (r1, r2) := by rw [if_pos rfl] at H; exact H
           clear H
           have H := H1
           clear H1
           have H' := zb.mk H
           clear H
           have p265 : 0 ≤ (x21_2 : Int) := of_decide_eq_true (by first | (with_reducible assumption) | assumption)
           have q265 : x21_2 < (l0_5.length : Int) := of_decide_eq_true (by first | (with_reducible assumption) | assumption)
           obtain ⟨ad265, A265_3, c265_3, A265_4, c265_4, e265, hx265_0, hx265_1, hx265_2, hx265_3, hx265_4, hx265_5, hl265_3, hi265_3, hl265_4, hi265_4⟩ := at_T75 HR0_5.out x21_2 p265 q265
           cases e265
           replace hx265_0 := (HB.out.cell (World.block_lt_of_cell? w _ hx265_0)).trans hx265_0
           replace hx265_1 := (HB.out.cell (World.block_lt_of_cell? w _ hx265_1)).trans hx265_1
           replace hx265_2 := (HB.out.cell (World.block_lt_of_cell? w _ hx265_2)).trans hx265_2
           replace hx265_3 := (HB.out.cell (World.block_lt_of_cell? w _ hx265_3)).trans hx265_3
           replace hx265_4 := (HB.out.cell (World.block_lt_of_cell? w _ hx265_4)).trans hx265_4
           replace hx265_5 := (HB.out.cell (World.block_lt_of_cell? w _ hx265_5)).trans hx265_5
           have HR265_3 := zb.mk hi265_3
           have HC265_3 := zb.mk hl265_3
           clear hi265_3 hl265_3
           have HR265_4 := zb.mk hi265_4
           have HC265_4 := zb.mk hl265_4
           clear hi265_4 hl265_4
           replace p265 := eq_true p265
           replace q265 := eq_true q265
           go_wp2_with (first | ((with_reducible refine zda (N := 8) rfl ?_); refine zaa ?hg (N := 8) ?hd (cs := #[.int .u8 0, .int .i64 0, .int .i64 0, .slice none 0 0, .slice none 0 0, .int .i64 0]) (t := 75) ?hr ?_; (case hd => rfl); (case hg => rfl); (case hr => first | (go_simp; done) | (go_simp; rfl)); intro gb266 hg w17 hbox hb; have n0_ := zb.mk (Kd.zga (by (with_reducible repeat (first | apply Kd.zv | apply Kd.zx | apply Kd.zz)); exact HO_6.out) hb); have n1_ := zb.mk (zr (g := gb263) (o := .cells #[.int .i64 a0_0, .int .i64 a0_1, .int .i64 a0_2, .int .i64 a0_3, .int .i64 a0_4, .slice (some ad265) l0_5.length c0_5, .int .i64 a0_6] 78 (0, 0)) (by (with_reducible repeat first | apply zi | apply zl | apply zh); exact BK263.out) hb); have n2_ := zb.mk (zo (by repeat with_reducible first | exact HB.out | apply zd | apply za | apply ze | refine zk ?_ GE263.out) hb); have n3_ := zb.mk (hbox); have n4_ := zb.mk ((by rw [hg]; exact (zn (by repeat with_reducible first | exact HB.out | apply zd | apply za | apply ze | refine zk ?_ GE263.out)) : w.heap.size ≤ gb266)); have n5_ := zb.mk ((by rw [hg]; exact (zn (by repeat with_reducible first | exact HB.out | apply zd | apply za | apply ze | refine zk ?_ GE263.out)) : w.heap.size ≤ gb266)); have n6_ := zb.mk ((by rw [hg]; exact Nat.ne_of_lt (zja (g := gb263) (o := .cells #[.int .i64 a0_0, .int .i64 a0_1, .int .i64 a0_2, .int .i64 a0_3, .int .i64 a0_4, .slice (some ad265) l0_5.length c0_5, .int .i64 a0_6] 78 (0, 0)) (by (with_reducible repeat first | apply zi | apply zl | apply zh); exact BK263.out)) : gb263 ≠ gb266)); have n7_ := zb.mk ((by rw [hg]; exact Nat.ne_of_gt (zja (g := gb263) (o := .cells #[.int .i64 a0_0, .int .i64 a0_1, .int .i64 a0_2, .int .i64 a0_3, .int .i64 a0_4, .slice (some ad265) l0_5.length c0_5, .int .i64 a0_6] 78 (0, 0)) (by (with_reducible repeat first | apply zi | apply zl | apply zh); exact BK263.out)) : gb266 ≠ gb263)); clear HO_6; clear BK263; clear HB; have HO_6 := n0_; have BK263 := n1_; have HB := n2_; have BK266 := n3_; have GW266 := n4_; have GE266 := n5_; have NB263_266 := n6_; have NB266_263 := n7_; clear n0_ n1_ n2_ n3_ n4_ n5_ n6_ n7_; clear hb hbox hg; have hnb18 := NB266_263.out; have hnc18 := NB263_266.out; have hcz19_0 : w17.cell? ⟨gb266, 0, none⟩ = some (.int .u8 0) := (zg BK266.out 0).trans rfl; have hcz19_1 : w17.cell? ⟨gb266, 1, none⟩ = some (.int .i64 0) := (zg BK266.out 1).trans rfl; have hcz19_2 : w17.cell? ⟨gb266, 2, none⟩ = some (.int .i64 0) := (zg BK266.out 2).trans rfl; have hcz19_3 : w17.cell? ⟨gb266, 3, none⟩ = some (.slice none 0 0) := (zg BK266.out 3).trans rfl; have hcz19_4 : w17.cell? ⟨gb266, 4, none⟩ = some (.slice none 0 0) := (zg BK266.out 4).trans rfl; have hcz19_5 : w17.cell? ⟨gb266, 5, none⟩ = some (.int .i64 0) := (zg BK266.out 5).trans rfl; have hfz19_0 := zf BK266.out 0; have hfz19_1 := zf BK266.out 1; have hfz19_2 := zf BK266.out 2; have hfz19_3 := zf BK266.out 3; have hfz19_4 := zf BK266.out 4; have hfz19_5 := zf BK266.out 5) | ((with_reducible refine zt (f := 125) rfl ?_); refine zka (some 29) rfl rfl Tryz.func125 (by kernel_rfl) rfl #[.agg #[.slice A265_3 ((zm l0_5 x21_2).f3.f0).length c265_3, .slice A265_4 ((zm l0_5 x21_2).f3.f1).length c265_4, .int .i64 ((zm l0_5 x21_2).f3.f2)], .int .i64 a1] rfl (by (try simp only [List.map_toArray, List.map_cons, List.map_nil]); first | done | rfl | (simp only [List.length_drop, List.length_take]; rfl)) ?_; (with_reducible refine (deps_At.calls _ _ ((zm l0_5 x21_2).f3.f0) _ _ ((zm l0_5 x21_2).f3.f1) ((zm l0_5 x21_2).f3.f2) a1 true t268 t269 t270 _ ?side1 ?side2 ?side3 ?side4 A14.out).mono ?_); (case side1 => exact Kd.zu HR265_3.out (by repeat with_reducible first | exact HB.out | apply zd | apply za | apply ze | refine zk ?_ GE263.out | refine zk ?_ GE266.out)); (case side2 => exact HC265_3.out); (case side3 => exact Kd.zu HR265_4.out (by repeat with_reducible first | exact HB.out | apply zd | apply za | apply ze | refine zk ?_ GE263.out | refine zk ?_ GE266.out)); (case side4 => exact HC265_4.out); rintro e w20 ⟨rfl, hb⟩; refine ⟨_, rfl, ?_⟩; have n0_ := zb.mk (Kd.zga (by (with_reducible repeat (first | apply Kd.zv | apply Kd.zx | apply Kd.zz)); exact (Kd.zra (Kd.R_far (p := ⟨gb266, 5, none⟩) (Kd.R_far (p := ⟨gb266, 4, none⟩) (Kd.R_far (p := ⟨gb266, 3, none⟩) (Kd.R_far (p := ⟨gb266, 2, none⟩) (Kd.R_far (p := ⟨gb266, 1, none⟩) (Kd.R_far (p := ⟨gb266, 0, none⟩) (Kd.zkb HO_6.out BK266.out (by decide)) (fun _ hk => hk.2) (.int .u8 ((zm l0_5 x21_2).f0))) (fun _ hk => hk.2) (.int .i64 ((zm l0_5 x21_2).f1))) (fun _ hk => hk.2) (.int .i64 ((zm l0_5 x21_2).f2))) (fun _ hk => hk.2) (.slice A265_3 ((zm l0_5 x21_2).f3.f0).length c265_3)) (fun _ hk => hk.2) (.slice A265_4 ((zm l0_5 x21_2).f3.f1).length c265_4)) (fun _ hk => hk.2) (.int .i64 ((zm l0_5 x21_2).f3.f2))) (fun _ h_ => h_.1))) hb); have n1_ := zb.mk (zr (g := gb263) (o := .cells #[.int .i64 a0_0, .int .i64 a0_1, .int .i64 a0_2, .int .i64 a0_3, .int .i64 a0_4, .slice (some ad265) l0_5.length c0_5, .int .i64 a0_6] 78 (0, 0)) (by (with_reducible repeat first | apply zi | apply zl | apply zh); refine zha ?_ NB263_266.out _; (with_reducible repeat first | apply zi | apply zl | apply zh); refine zha ?_ NB263_266.out _; (with_reducible repeat first | apply zi | apply zl | apply zh); refine zha ?_ NB263_266.out _; (with_reducible repeat first | apply zi | apply zl | apply zh); refine zha ?_ NB263_266.out _; (with_reducible repeat first | apply zi | apply zl | apply zh); refine zha ?_ NB263_266.out _; (with_reducible repeat first | apply zi | apply zl | apply zh); refine zha ?_ NB263_266.out _; (with_reducible repeat first | apply zi | apply zl | apply zh); exact BK263.out) hb); have n2_ := zb.mk (zr (g := gb266) (o := .cells #[.int .u8 ((zm l0_5 x21_2).f0), .int .i64 ((zm l0_5 x21_2).f1), .int .i64 ((zm l0_5 x21_2).f2), .slice A265_3 ((zm l0_5 x21_2).f3.f0).length c265_3, .slice A265_4 ((zm l0_5 x21_2).f3.f1).length c265_4, .int .i64 ((zm l0_5 x21_2).f3.f2)] 75 (0, 0)) (by (with_reducible repeat first | apply zi | apply zl | apply zh); refine zba (cs := #[.int .u8 ((zm l0_5 x21_2).f0), .int .i64 ((zm l0_5 x21_2).f1), .int .i64 ((zm l0_5 x21_2).f2), .slice A265_3 ((zm l0_5 x21_2).f3.f0).length c265_3, .slice A265_4 ((zm l0_5 x21_2).f3.f1).length c265_4, .int .i64 0]) ?_ 5 _ rfl; (with_reducible repeat first | apply zi | apply zl | apply zh); refine zba (cs := #[.int .u8 ((zm l0_5 x21_2).f0), .int .i64 ((zm l0_5 x21_2).f1), .int .i64 ((zm l0_5 x21_2).f2), .slice A265_3 ((zm l0_5 x21_2).f3.f0).length c265_3, .slice none 0 0, .int .i64 0]) ?_ 4 _ rfl; (with_reducible repeat first | apply zi | apply zl | apply zh); refine zba (cs := #[.int .u8 ((zm l0_5 x21_2).f0), .int .i64 ((zm l0_5 x21_2).f1), .int .i64 ((zm l0_5 x21_2).f2), .slice none 0 0, .slice none 0 0, .int .i64 0]) ?_ 3 _ rfl; (with_reducible repeat first | apply zi | apply zl | apply zh); refine zba (cs := #[.int .u8 ((zm l0_5 x21_2).f0), .int .i64 ((zm l0_5 x21_2).f1), .int .i64 0, .slice none 0 0, .slice none 0 0, .int .i64 0]) ?_ 2 _ rfl; (with_reducible repeat first | apply zi | apply zl | apply zh); refine zba (cs := #[.int .u8 ((zm l0_5 x21_2).f0), .int .i64 0, .int .i64 0, .slice none 0 0, .slice none 0 0, .int .i64 0]) ?_ 1 _ rfl; (with_reducible repeat first | apply zi | apply zl | apply zh); refine zba (cs := #[.int .u8 0, .int .i64 0, .int .i64 0, .slice none 0 0, .slice none 0 0, .int .i64 0]) ?_ 0 _ rfl; (with_reducible repeat first | apply zi | apply zl | apply zh); exact BK266.out) hb); have n3_ := zb.mk (zo (by repeat with_reducible first | exact HB.out | apply zd | apply za | apply ze | refine zk ?_ GE263.out | refine zk ?_ GE266.out) hb); clear HO_6; clear BK263; clear BK266; clear HB; have HO_6 := n0_; have BK263 := n1_; have BK266 := n2_; have HB := n3_; clear n0_ n1_ n2_ n3_; (try clear hb)) | ((with_reducible refine zda (N := 9) rfl ?_); refine zaa ?hg (N := 9) ?hd (cs := #[.bool false, .int .i64 0, .int .i64 0]) (t := 70) ?hr ?_; (case hd => rfl); (case hg => rfl); (case hr => first | (go_simp; done) | (go_simp; rfl)); intro gb271 hg w21 hbox hb; have n0_ := zb.mk (Kd.zga (by (with_reducible repeat (first | apply Kd.zv | apply Kd.zx | apply Kd.zz)); exact HO_6.out) hb); have n1_ := zb.mk (zr (g := gb263) (o := .cells #[.int .i64 a0_0, .int .i64 a0_1, .int .i64 a0_2, .int .i64 a0_3, .int .i64 a0_4, .slice (some ad265) l0_5.length c0_5, .int .i64 a0_6] 78 (0, 0)) (by (with_reducible repeat first | apply zi | apply zl | apply zh); exact BK263.out) hb); have n2_ := zb.mk (zr (g := gb266) (o := .cells #[.int .u8 ((zm l0_5 x21_2).f0), .int .i64 ((zm l0_5 x21_2).f1), .int .i64 ((zm l0_5 x21_2).f2), .slice A265_3 ((zm l0_5 x21_2).f3.f0).length c265_3, .slice A265_4 ((zm l0_5 x21_2).f3.f1).length c265_4, .int .i64 ((zm l0_5 x21_2).f3.f2)] 75 (0, 0)) (by (with_reducible repeat first | apply zi | apply zl | apply zh); exact BK266.out) hb); have n3_ := zb.mk (zo (by repeat with_reducible first | exact HB.out | apply zd | apply za | apply ze | refine zk ?_ GE263.out | refine zk ?_ GE266.out) hb); have n4_ := zb.mk (hbox); have n5_ := zb.mk ((by rw [hg]; exact (zn (by repeat with_reducible first | exact HB.out | apply zd | apply za | apply ze | refine zk ?_ GE263.out | refine zk ?_ GE266.out)) : w.heap.size ≤ gb271)); have n6_ := zb.mk ((by rw [hg]; exact (zn (by repeat with_reducible first | exact HB.out | apply zd | apply za | apply ze | refine zk ?_ GE263.out | refine zk ?_ GE266.out)) : w.heap.size ≤ gb271)); have n7_ := zb.mk ((by rw [hg]; exact Nat.ne_of_lt (zja (g := gb263) (o := .cells #[.int .i64 a0_0, .int .i64 a0_1, .int .i64 a0_2, .int .i64 a0_3, .int .i64 a0_4, .slice (some ad265) l0_5.length c0_5, .int .i64 a0_6] 78 (0, 0)) (by (with_reducible repeat first | apply zi | apply zl | apply zh); exact BK263.out)) : gb263 ≠ gb271)); have n8_ := zb.mk ((by rw [hg]; exact Nat.ne_of_gt (zja (g := gb263) (o := .cells #[.int .i64 a0_0, .int .i64 a0_1, .int .i64 a0_2, .int .i64 a0_3, .int .i64 a0_4, .slice (some ad265) l0_5.length c0_5, .int .i64 a0_6] 78 (0, 0)) (by (with_reducible repeat first | apply zi | apply zl | apply zh); exact BK263.out)) : gb271 ≠ gb263)); have n9_ := zb.mk ((by rw [hg]; exact Nat.ne_of_lt (zja (g := gb266) (o := .cells #[.int .u8 ((zm l0_5 x21_2).f0), .int .i64 ((zm l0_5 x21_2).f1), .int .i64 ((zm l0_5 x21_2).f2), .slice A265_3 ((zm l0_5 x21_2).f3.f0).length c265_3, .slice A265_4 ((zm l0_5 x21_2).f3.f1).length c265_4, .int .i64 ((zm l0_5 x21_2).f3.f2)] 75 (0, 0)) (by (with_reducible repeat first | apply zi | apply zl | apply zh); exact BK266.out)) : gb266 ≠ gb271)); have n10_ := zb.mk ((by rw [hg]; exact Nat.ne_of_gt (zja (g := gb266) (o := .cells #[.int .u8 ((zm l0_5 x21_2).f0), .int .i64 ((zm l0_5 x21_2).f1), .int .i64 ((zm l0_5 x21_2).f2), .slice A265_3 ((zm l0_5 x21_2).f3.f0).length c265_3, .slice A265_4 ((zm l0_5 x21_2).f3.f1).length c265_4, .int .i64 ((zm l0_5 x21_2).f3.f2)] 75 (0, 0)) (by (with_reducible repeat first | apply zi | apply zl | apply zh); exact BK266.out)) : gb271 ≠ gb266)); clear HO_6; clear BK263; clear BK266; clear HB; have HO_6 := n0_; have BK263 := n1_; have BK266 := n2_; have HB := n3_; have BK271 := n4_; have GW271 := n5_; have GE271 := n6_; have NB263_271 := n7_; have NB271_263 := n8_; have NB266_271 := n9_; have NB271_266 := n10_; clear n0_ n1_ n2_ n3_ n4_ n5_ n6_ n7_ n8_ n9_ n10_; clear hb hbox hg; have hnb22 := NB271_263.out; have hnc22 := NB263_271.out; have hnb23 := NB271_266.out; have hnc23 := NB266_271.out; have hcz24_0 : w21.cell? ⟨gb271, 0, none⟩ = some (.bool false) := (zg BK271.out 0).trans rfl; have hcz24_1 : w21.cell? ⟨gb271, 1, none⟩ = some (.int .i64 0) := (zg BK271.out 1).trans rfl; have hcz24_2 : w21.cell? ⟨gb271, 2, none⟩ = some (.int .i64 0) := (zg BK271.out 2).trans rfl; have hfz24_0 := zf BK271.out 0; have hfz24_1 := zf BK271.out 1; have hfz24_2 := zf BK271.out 2))
           go_roundg k2
           case measure => have := HJ2.out; have := HK2.out; omega
           case rel => exact ⟨(x6_2), (wrap64 (x21_2 + 1)), (by first | rfl | (simp; done) | (simp [*]; done)), H', ⟨by have := HJ2.out; have := HK2.out; omega⟩, ⟨by (with_reducible repeat (first | apply Kd.zv | apply Kd.zx | apply Kd.zz)); exact Kd.zra (Kd.R_far (p := ⟨gb271, 2, none⟩) (Kd.R_far (p := ⟨gb271, 1, none⟩) (Kd.R_far (p := ⟨gb271, 0, none⟩) (Kd.zkb HO_6.out BK271.out (by decide)) (fun _ hk => hk.2) (.bool true)) (fun _ hk => hk.2) (.int .i64 t268)) (fun _ hk => hk.2) (.int .i64 t269)) (fun _ hk => trivial)⟩, ⟨by (with_reducible repeat first | apply zi | apply zl | apply zh); refine zha ?_ NB263_271.out _; (with_reducible repeat first | apply zi | apply zl | apply zh); refine zha ?_ NB263_271.out _; (with_reducible repeat first | apply zi | apply zl | apply zh); refine zha ?_ NB263_271.out _; (with_reducible repeat first | apply zi | apply zl | apply zh); exact BK263.out⟩, ⟨by repeat with_reducible first | exact HB.out | apply zd | apply za | apply ze | refine zk ?_ GE263.out | refine zk ?_ GE266.out | refine zk ?_ GE271.out⟩⟩
          ·replace c16 := Bool.eq_false_iff.mpr c16
           subst c16
           have H1 : (if x6_2.length < 4398046511104 then (unfold_Needs.l0 k2 a1 (x6_2 ++ [(⟨(zm l0_5 x21_2).f0, (zm l0_5 x21_2).f1, (zm l0_5 x21_2).f2, t269⟩ : S174)]) l0_5 (l0_5.length : Int) (wrap64 (x21_2 + 1))) else (none)) = some (r1, r2) := by rw [if_neg (show ¬ (false = true) by decide)] at H; exact H
           clear H
           have H := H1
           clear H1
           by_cases c25 : x6_2.length < 4398046511104
           ·rw [if_pos c25] at H
            have LMc25 := zb.mk c25
            clear c25
            obtain ⟨y272, hy272⟩ : ∃ y_ : List (S174), y_ = (x6_2 ++ [(⟨(zm l0_5 x21_2).f0, (zm l0_5 x21_2).f1, (zm l0_5 x21_2).f2, t269⟩ : S174)]) := ⟨_, rfl⟩
            replace H : (unfold_Needs.l0 k2 a1 y272 l0_5 (l0_5.length : Int) (wrap64 (x21_2 + 1))) = some (r1, r2) := by first | (rw [hy272]; with_reducible exact H) | (have H2_ := (Option.bind_some _ _).symm.trans H; rw [hy272]; with_reducible exact H2_) | (have H2_ := (Option.bind_some _ _).symm.trans H; with_reducible exact H2_) | with_reducible exact H | (rw [hy272]; exact H) | exact H
            have Ny272 := zb.mk hy272
            clear hy272
            have H' := zb.mk H
            clear H
            have p265 : 0 ≤ (x21_2 : Int) := of_decide_eq_true (by first | (with_reducible assumption) | assumption)
            have q265 : x21_2 < (l0_5.length : Int) := of_decide_eq_true (by first | (with_reducible assumption) | assumption)
            obtain ⟨ad265, A265_3, c265_3, A265_4, c265_4, e265, hx265_0, hx265_1, hx265_2, hx265_3, hx265_4, hx265_5, hl265_3, hi265_3, hl265_4, hi265_4⟩ := at_T75 HR0_5.out x21_2 p265 q265
            cases e265
            replace hx265_0 := (HB.out.cell (World.block_lt_of_cell? w _ hx265_0)).trans hx265_0
            replace hx265_1 := (HB.out.cell (World.block_lt_of_cell? w _ hx265_1)).trans hx265_1
            replace hx265_2 := (HB.out.cell (World.block_lt_of_cell? w _ hx265_2)).trans hx265_2
            replace hx265_3 := (HB.out.cell (World.block_lt_of_cell? w _ hx265_3)).trans hx265_3
            replace hx265_4 := (HB.out.cell (World.block_lt_of_cell? w _ hx265_4)).trans hx265_4
            replace hx265_5 := (HB.out.cell (World.block_lt_of_cell? w _ hx265_5)).trans hx265_5
            have HR265_3 := zb.mk hi265_3
            have HC265_3 := zb.mk hl265_3
            clear hi265_3 hl265_3
            have HR265_4 := zb.mk hi265_4
            have HC265_4 := zb.mk hl265_4
            clear hi265_4 hl265_4
            replace p265 := eq_true p265
            replace q265 := eq_true q265
            go_wp2_with (first | ((with_reducible refine zda (N := 8) rfl ?_); refine zaa ?hg (N := 8) ?hd (cs := #[.int .u8 0, .int .i64 0, .int .i64 0, .slice none 0 0, .slice none 0 0, .int .i64 0]) (t := 75) ?hr ?_; (case hd => rfl); (case hg => rfl); (case hr => first | (go_simp; done) | (go_simp; rfl)); intro gb266 hg w26 hbox hb; have n0_ := zb.mk (Kd.zga (by (with_reducible repeat (first | apply Kd.zv | apply Kd.zx | apply Kd.zz)); exact HO_6.out) hb); have n1_ := zb.mk (zr (g := gb263) (o := .cells #[.int .i64 a0_0, .int .i64 a0_1, .int .i64 a0_2, .int .i64 a0_3, .int .i64 a0_4, .slice (some ad265) l0_5.length c0_5, .int .i64 a0_6] 78 (0, 0)) (by (with_reducible repeat first | apply zi | apply zl | apply zh); exact BK263.out) hb); have n2_ := zb.mk (zo (by repeat with_reducible first | exact HB.out | apply zd | apply za | apply ze | refine zk ?_ GE263.out) hb); have n3_ := zb.mk (hbox); have n4_ := zb.mk ((by rw [hg]; exact (zn (by repeat with_reducible first | exact HB.out | apply zd | apply za | apply ze | refine zk ?_ GE263.out)) : w.heap.size ≤ gb266)); have n5_ := zb.mk ((by rw [hg]; exact (zn (by repeat with_reducible first | exact HB.out | apply zd | apply za | apply ze | refine zk ?_ GE263.out)) : w.heap.size ≤ gb266)); have n6_ := zb.mk ((by rw [hg]; exact Nat.ne_of_lt (zja (g := gb263) (o := .cells #[.int .i64 a0_0, .int .i64 a0_1, .int .i64 a0_2, .int .i64 a0_3, .int .i64 a0_4, .slice (some ad265) l0_5.length c0_5, .int .i64 a0_6] 78 (0, 0)) (by (with_reducible repeat first | apply zi | apply zl | apply zh); exact BK263.out)) : gb263 ≠ gb266)); have n7_ := zb.mk ((by rw [hg]; exact Nat.ne_of_gt (zja (g := gb263) (o := .cells #[.int .i64 a0_0, .int .i64 a0_1, .int .i64 a0_2, .int .i64 a0_3, .int .i64 a0_4, .slice (some ad265) l0_5.length c0_5, .int .i64 a0_6] 78 (0, 0)) (by (with_reducible repeat first | apply zi | apply zl | apply zh); exact BK263.out)) : gb266 ≠ gb263)); clear HO_6; clear BK263; clear HB; have HO_6 := n0_; have BK263 := n1_; have HB := n2_; have BK266 := n3_; have GW266 := n4_; have GE266 := n5_; have NB263_266 := n6_; have NB266_263 := n7_; clear n0_ n1_ n2_ n3_ n4_ n5_ n6_ n7_; clear hb hbox hg; have hnb27 := NB266_263.out; have hnc27 := NB263_266.out; have hcz28_0 : w26.cell? ⟨gb266, 0, none⟩ = some (.int .u8 0) := (zg BK266.out 0).trans rfl; have hcz28_1 : w26.cell? ⟨gb266, 1, none⟩ = some (.int .i64 0) := (zg BK266.out 1).trans rfl; have hcz28_2 : w26.cell? ⟨gb266, 2, none⟩ = some (.int .i64 0) := (zg BK266.out 2).trans rfl; have hcz28_3 : w26.cell? ⟨gb266, 3, none⟩ = some (.slice none 0 0) := (zg BK266.out 3).trans rfl; have hcz28_4 : w26.cell? ⟨gb266, 4, none⟩ = some (.slice none 0 0) := (zg BK266.out 4).trans rfl; have hcz28_5 : w26.cell? ⟨gb266, 5, none⟩ = some (.int .i64 0) := (zg BK266.out 5).trans rfl; have hfz28_0 := zf BK266.out 0; have hfz28_1 := zf BK266.out 1; have hfz28_2 := zf BK266.out 2; have hfz28_3 := zf BK266.out 3; have hfz28_4 := zf BK266.out 4; have hfz28_5 := zf BK266.out 5) | ((with_reducible refine zt (f := 125) rfl ?_); refine zka (some 29) rfl rfl Tryz.func125 (by kernel_rfl) rfl #[.agg #[.slice A265_3 ((zm l0_5 x21_2).f3.f0).length c265_3, .slice A265_4 ((zm l0_5 x21_2).f3.f1).length c265_4, .int .i64 ((zm l0_5 x21_2).f3.f2)], .int .i64 a1] rfl (by (try simp only [List.map_toArray, List.map_cons, List.map_nil]); first | done | rfl | (simp only [List.length_drop, List.length_take]; rfl)) ?_; (with_reducible refine (deps_At.calls _ _ ((zm l0_5 x21_2).f3.f0) _ _ ((zm l0_5 x21_2).f3.f1) ((zm l0_5 x21_2).f3.f2) a1 false t268 t269 t270 _ ?side1 ?side2 ?side3 ?side4 A14.out).mono ?_); (case side1 => exact Kd.zu HR265_3.out (by repeat with_reducible first | exact HB.out | apply zd | apply za | apply ze | refine zk ?_ GE263.out | refine zk ?_ GE266.out)); (case side2 => exact HC265_3.out); (case side3 => exact Kd.zu HR265_4.out (by repeat with_reducible first | exact HB.out | apply zd | apply za | apply ze | refine zk ?_ GE263.out | refine zk ?_ GE266.out)); (case side4 => exact HC265_4.out); rintro e w29 ⟨rfl, hb⟩; refine ⟨_, rfl, ?_⟩; have n0_ := zb.mk (Kd.zga (by (with_reducible repeat (first | apply Kd.zv | apply Kd.zx | apply Kd.zz)); exact (Kd.zra (Kd.R_far (p := ⟨gb266, 5, none⟩) (Kd.R_far (p := ⟨gb266, 4, none⟩) (Kd.R_far (p := ⟨gb266, 3, none⟩) (Kd.R_far (p := ⟨gb266, 2, none⟩) (Kd.R_far (p := ⟨gb266, 1, none⟩) (Kd.R_far (p := ⟨gb266, 0, none⟩) (Kd.zkb HO_6.out BK266.out (by decide)) (fun _ hk => hk.2) (.int .u8 ((zm l0_5 x21_2).f0))) (fun _ hk => hk.2) (.int .i64 ((zm l0_5 x21_2).f1))) (fun _ hk => hk.2) (.int .i64 ((zm l0_5 x21_2).f2))) (fun _ hk => hk.2) (.slice A265_3 ((zm l0_5 x21_2).f3.f0).length c265_3)) (fun _ hk => hk.2) (.slice A265_4 ((zm l0_5 x21_2).f3.f1).length c265_4)) (fun _ hk => hk.2) (.int .i64 ((zm l0_5 x21_2).f3.f2))) (fun _ h_ => h_.1))) hb); have n1_ := zb.mk (zr (g := gb263) (o := .cells #[.int .i64 a0_0, .int .i64 a0_1, .int .i64 a0_2, .int .i64 a0_3, .int .i64 a0_4, .slice (some ad265) l0_5.length c0_5, .int .i64 a0_6] 78 (0, 0)) (by (with_reducible repeat first | apply zi | apply zl | apply zh); refine zha ?_ NB263_266.out _; (with_reducible repeat first | apply zi | apply zl | apply zh); refine zha ?_ NB263_266.out _; (with_reducible repeat first | apply zi | apply zl | apply zh); refine zha ?_ NB263_266.out _; (with_reducible repeat first | apply zi | apply zl | apply zh); refine zha ?_ NB263_266.out _; (with_reducible repeat first | apply zi | apply zl | apply zh); refine zha ?_ NB263_266.out _; (with_reducible repeat first | apply zi | apply zl | apply zh); refine zha ?_ NB263_266.out _; (with_reducible repeat first | apply zi | apply zl | apply zh); exact BK263.out) hb); have n2_ := zb.mk (zr (g := gb266) (o := .cells #[.int .u8 ((zm l0_5 x21_2).f0), .int .i64 ((zm l0_5 x21_2).f1), .int .i64 ((zm l0_5 x21_2).f2), .slice A265_3 ((zm l0_5 x21_2).f3.f0).length c265_3, .slice A265_4 ((zm l0_5 x21_2).f3.f1).length c265_4, .int .i64 ((zm l0_5 x21_2).f3.f2)] 75 (0, 0)) (by (with_reducible repeat first | apply zi | apply zl | apply zh); refine zba (cs := #[.int .u8 ((zm l0_5 x21_2).f0), .int .i64 ((zm l0_5 x21_2).f1), .int .i64 ((zm l0_5 x21_2).f2), .slice A265_3 ((zm l0_5 x21_2).f3.f0).length c265_3, .slice A265_4 ((zm l0_5 x21_2).f3.f1).length c265_4, .int .i64 0]) ?_ 5 _ rfl; (with_reducible repeat first | apply zi | apply zl | apply zh); refine zba (cs := #[.int .u8 ((zm l0_5 x21_2).f0), .int .i64 ((zm l0_5 x21_2).f1), .int .i64 ((zm l0_5 x21_2).f2), .slice A265_3 ((zm l0_5 x21_2).f3.f0).length c265_3, .slice none 0 0, .int .i64 0]) ?_ 4 _ rfl; (with_reducible repeat first | apply zi | apply zl | apply zh); refine zba (cs := #[.int .u8 ((zm l0_5 x21_2).f0), .int .i64 ((zm l0_5 x21_2).f1), .int .i64 ((zm l0_5 x21_2).f2), .slice none 0 0, .slice none 0 0, .int .i64 0]) ?_ 3 _ rfl; (with_reducible repeat first | apply zi | apply zl | apply zh); refine zba (cs := #[.int .u8 ((zm l0_5 x21_2).f0), .int .i64 ((zm l0_5 x21_2).f1), .int .i64 0, .slice none 0 0, .slice none 0 0, .int .i64 0]) ?_ 2 _ rfl; (with_reducible repeat first | apply zi | apply zl | apply zh); refine zba (cs := #[.int .u8 ((zm l0_5 x21_2).f0), .int .i64 0, .int .i64 0, .slice none 0 0, .slice none 0 0, .int .i64 0]) ?_ 1 _ rfl; (with_reducible repeat first | apply zi | apply zl | apply zh); refine zba (cs := #[.int .u8 0, .int .i64 0, .int .i64 0, .slice none 0 0, .slice none 0 0, .int .i64 0]) ?_ 0 _ rfl; (with_reducible repeat first | apply zi | apply zl | apply zh); exact BK266.out) hb); have n3_ := zb.mk (zo (by repeat with_reducible first | exact HB.out | apply zd | apply za | apply ze | refine zk ?_ GE263.out | refine zk ?_ GE266.out) hb); clear HO_6; clear BK263; clear BK266; clear HB; have HO_6 := n0_; have BK263 := n1_; have BK266 := n2_; have HB := n3_; clear n0_ n1_ n2_ n3_; (try clear hb)) | ((with_reducible refine zda (N := 9) rfl ?_); refine zaa ?hg (N := 9) ?hd (cs := #[.bool false, .int .i64 0, .int .i64 0]) (t := 70) ?hr ?_; (case hd => rfl); (case hg => rfl); (case hr => first | (go_simp; done) | (go_simp; rfl)); intro gb271 hg w30 hbox hb; have n0_ := zb.mk (Kd.zga (by (with_reducible repeat (first | apply Kd.zv | apply Kd.zx | apply Kd.zz)); exact HO_6.out) hb); have n1_ := zb.mk (zr (g := gb263) (o := .cells #[.int .i64 a0_0, .int .i64 a0_1, .int .i64 a0_2, .int .i64 a0_3, .int .i64 a0_4, .slice (some ad265) l0_5.length c0_5, .int .i64 a0_6] 78 (0, 0)) (by (with_reducible repeat first | apply zi | apply zl | apply zh); exact BK263.out) hb); have n2_ := zb.mk (zr (g := gb266) (o := .cells #[.int .u8 ((zm l0_5 x21_2).f0), .int .i64 ((zm l0_5 x21_2).f1), .int .i64 ((zm l0_5 x21_2).f2), .slice A265_3 ((zm l0_5 x21_2).f3.f0).length c265_3, .slice A265_4 ((zm l0_5 x21_2).f3.f1).length c265_4, .int .i64 ((zm l0_5 x21_2).f3.f2)] 75 (0, 0)) (by (with_reducible repeat first | apply zi | apply zl | apply zh); exact BK266.out) hb); have n3_ := zb.mk (zo (by repeat with_reducible first | exact HB.out | apply zd | apply za | apply ze | refine zk ?_ GE263.out | refine zk ?_ GE266.out) hb); have n4_ := zb.mk (hbox); have n5_ := zb.mk ((by rw [hg]; exact (zn (by repeat with_reducible first | exact HB.out | apply zd | apply za | apply ze | refine zk ?_ GE263.out | refine zk ?_ GE266.out)) : w.heap.size ≤ gb271)); have n6_ := zb.mk ((by rw [hg]; exact (zn (by repeat with_reducible first | exact HB.out | apply zd | apply za | apply ze | refine zk ?_ GE263.out | refine zk ?_ GE266.out)) : w.heap.size ≤ gb271)); have n7_ := zb.mk ((by rw [hg]; exact Nat.ne_of_lt (zja (g := gb263) (o := .cells #[.int .i64 a0_0, .int .i64 a0_1, .int .i64 a0_2, .int .i64 a0_3, .int .i64 a0_4, .slice (some ad265) l0_5.length c0_5, .int .i64 a0_6] 78 (0, 0)) (by (with_reducible repeat first | apply zi | apply zl | apply zh); exact BK263.out)) : gb263 ≠ gb271)); have n8_ := zb.mk ((by rw [hg]; exact Nat.ne_of_gt (zja (g := gb263) (o := .cells #[.int .i64 a0_0, .int .i64 a0_1, .int .i64 a0_2, .int .i64 a0_3, .int .i64 a0_4, .slice (some ad265) l0_5.length c0_5, .int .i64 a0_6] 78 (0, 0)) (by (with_reducible repeat first | apply zi | apply zl | apply zh); exact BK263.out)) : gb271 ≠ gb263)); have n9_ := zb.mk ((by rw [hg]; exact Nat.ne_of_lt (zja (g := gb266) (o := .cells #[.int .u8 ((zm l0_5 x21_2).f0), .int .i64 ((zm l0_5 x21_2).f1), .int .i64 ((zm l0_5 x21_2).f2), .slice A265_3 ((zm l0_5 x21_2).f3.f0).length c265_3, .slice A265_4 ((zm l0_5 x21_2).f3.f1).length c265_4, .int .i64 ((zm l0_5 x21_2).f3.f2)] 75 (0, 0)) (by (with_reducible repeat first | apply zi | apply zl | apply zh); exact BK266.out)) : gb266 ≠ gb271)); have n10_ := zb.mk ((by rw [hg]; exact Nat.ne_of_gt (zja (g := gb266) (o := .cells #[.int .u8 ((zm l0_5 x21_2).f0), .int .i64 ((zm l0_5 x21_2).f1), .int .i64 ((zm l0_5 x21_2).f2), .slice A265_3 ((zm l0_5 x21_2).f3.f0).length c265_3, .slice A265_4 ((zm l0_5 x21_2).f3.f1).length c265_4, .int .i64 ((zm l0_5 x21_2).f3.f2)] 75 (0, 0)) (by (with_reducible repeat first | apply zi | apply zl | apply zh); exact BK266.out)) : gb271 ≠ gb266)); clear HO_6; clear BK263; clear BK266; clear HB; have HO_6 := n0_; have BK263 := n1_; have BK266 := n2_; have HB := n3_; have BK271 := n4_; have GW271 := n5_; have GE271 := n6_; have NB263_271 := n7_; have NB271_263 := n8_; have NB266_271 := n9_; have NB271_266 := n10_; clear n0_ n1_ n2_ n3_ n4_ n5_ n6_ n7_ n8_ n9_ n10_; clear hb hbox hg; have hnb31 := NB271_263.out; have hnc31 := NB263_271.out; have hnb32 := NB271_266.out; have hnc32 := NB266_271.out; have hcz33_0 : w30.cell? ⟨gb271, 0, none⟩ = some (.bool false) := (zg BK271.out 0).trans rfl; have hcz33_1 : w30.cell? ⟨gb271, 1, none⟩ = some (.int .i64 0) := (zg BK271.out 1).trans rfl; have hcz33_2 : w30.cell? ⟨gb271, 2, none⟩ = some (.int .i64 0) := (zg BK271.out 2).trans rfl; have hfz33_0 := zf BK271.out 0; have hfz33_1 := zf BK271.out 1; have hfz33_2 := zf BK271.out 2; have hcz34_0 : w30.cell? ⟨gb266, 0, none⟩ = some (.int .u8 ((zm l0_5 x21_2).f0)) := (zg BK266.out 0).trans rfl; have hcz34_1 : w30.cell? ⟨gb266, 1, none⟩ = some (.int .i64 ((zm l0_5 x21_2).f1)) := (zg BK266.out 1).trans rfl; have hcz34_2 : w30.cell? ⟨gb266, 2, none⟩ = some (.int .i64 ((zm l0_5 x21_2).f2)) := (zg BK266.out 2).trans rfl; have hcz34_3 : w30.cell? ⟨gb266, 3, none⟩ = some (.slice A265_3 ((zm l0_5 x21_2).f3.f0).length c265_3) := (zg BK266.out 3).trans rfl; have hcz34_4 : w30.cell? ⟨gb266, 4, none⟩ = some (.slice A265_4 ((zm l0_5 x21_2).f3.f1).length c265_4) := (zg BK266.out 4).trans rfl; have hcz34_5 : w30.cell? ⟨gb266, 5, none⟩ = some (.int .i64 ((zm l0_5 x21_2).f3.f2)) := (zg BK266.out 5).trans rfl; have hfz34_0 := zf BK266.out 0; have hfz34_1 := zf BK266.out 1; have hfz34_2 := zf BK266.out 2; have hfz34_3 := zf BK266.out 3; have hfz34_4 := zf BK266.out 4; have hfz34_5 := zf BK266.out 5) | ((with_reducible refine gate_builtin (b := .append) (xs := #[.tmp 38, .tmp 48]) rfl ?_); at_builtin; refine Kd.R_append k174 (w0 := w) w.heap.size rfl (.tmp 38) (.tmp 48) 170 174 (.agg #[(.int .u8 0), (.int .i64 0), (.int .i64 0), (.int .i64 0)]) 32 rfl Tryz.underlying170 info174 rfl (by decide) (by omega) u6 x6_2 (⟨(zm l0_5 x21_2).f0, (zm l0_5 x21_2).f1, (zm l0_5 x21_2).f2, t269⟩ : S174) [.int .u8 ((zm l0_5 x21_2).f0), .int .i64 ((zm l0_5 x21_2).f1), .int .i64 ((zm l0_5 x21_2).f2), .int .i64 t269] (fun _ => True) (fun _ => False) rfl (by first | (go_simp; done) | (go_simp; rfl)) ?aP (fun _ hk => hk.elim) ?aF ?aO ?aB ?aS ?aL ?_; (case aP => exact k174_mkM _ _ _ (⟨(zm l0_5 x21_2).f0, (zm l0_5 x21_2).f1, (zm l0_5 x21_2).f2, t269⟩ : S174)); (case aB => exact (by repeat with_reducible first | exact HB.out | apply zd | apply za | apply ze | refine zk ?_ GE263.out | refine zk ?_ GE266.out | refine zk ?_ GE271.out)); (case aF => exact (fun _ _ => trivial)); (case aO => exact (by (with_reducible repeat (first | apply Kd.zv | apply Kd.zx | apply Kd.zz)); exact Kd.zra (Kd.R_far (p := ⟨gb271, 2, none⟩) (Kd.R_far (p := ⟨gb271, 1, none⟩) (Kd.R_far (p := ⟨gb271, 0, none⟩) (Kd.zkb HO_6.out BK271.out (by decide)) (fun _ hk => hk.2) (.bool false)) (fun _ hk => hk.2) (.int .i64 t268)) (fun _ hk => hk.2) (.int .i64 t269)) (fun _ hk => trivial))); (case aS => exact (zn (by repeat with_reducible first | exact HB.out | apply zd | apply za | apply ze | refine zk ?_ GE263.out | refine zk ?_ GE266.out | refine zk ?_ GE271.out))); (case aL => have := LMc25.out; omega); intro v273 w35 ho hb hg hat; rw [← Ny272.out] at ho; have n0_ := zb.mk (zhb (g := gb263) (o := .cells #[.int .i64 a0_0, .int .i64 a0_1, .int .i64 a0_2, .int .i64 a0_3, .int .i64 a0_4, .slice (some ad265) l0_5.length c0_5, .int .i64 a0_6] 78 (0, 0)) (by (with_reducible repeat first | apply zi | apply zl | apply zh); refine zha ?_ NB263_271.out _; (with_reducible repeat first | apply zi | apply zl | apply zh); refine zha ?_ NB263_271.out _; (with_reducible repeat first | apply zi | apply zl | apply zh); refine zha ?_ NB263_271.out _; (with_reducible repeat first | apply zi | apply zl | apply zh); exact BK263.out) hg (Kd.R_ne HO_6.out BK263.out (by decide))); have n1_ := zb.mk (zhb (g := gb266) (o := .cells #[.int .u8 ((zm l0_5 x21_2).f0), .int .i64 ((zm l0_5 x21_2).f1), .int .i64 ((zm l0_5 x21_2).f2), .slice A265_3 ((zm l0_5 x21_2).f3.f0).length c265_3, .slice A265_4 ((zm l0_5 x21_2).f3.f1).length c265_4, .int .i64 ((zm l0_5 x21_2).f3.f2)] 75 (0, 0)) (by (with_reducible repeat first | apply zi | apply zl | apply zh); refine zha ?_ NB266_271.out _; (with_reducible repeat first | apply zi | apply zl | apply zh); refine zha ?_ NB266_271.out _; (with_reducible repeat first | apply zi | apply zl | apply zh); refine zha ?_ NB266_271.out _; (with_reducible repeat first | apply zi | apply zl | apply zh); exact BK266.out) hg (Kd.R_ne HO_6.out BK266.out (by decide))); have n2_ := zb.mk (zhb (g := gb271) (o := .cells #[.bool false, .int .i64 t268, .int .i64 t269] 70 (0, 0)) (by (with_reducible repeat first | apply zi | apply zl | apply zh); refine zba (cs := #[.bool false, .int .i64 t268, .int .i64 0]) ?_ 2 _ rfl; (with_reducible repeat first | apply zi | apply zl | apply zh); refine zba (cs := #[.bool false, .int .i64 0, .int .i64 0]) ?_ 1 _ rfl; (with_reducible repeat first | apply zi | apply zl | apply zh); refine zba (cs := #[.bool false, .int .i64 0, .int .i64 0]) ?_ 0 _ rfl; (with_reducible repeat first | apply zi | apply zl | apply zh); exact BK271.out) hg (Kd.R_ne HO_6.out BK271.out (by decide))); have n3_ := zb.mk (hb); have n4_ := zb.mk (ho); clear BK263; clear BK266; clear BK271; clear HB; clear HO_6; have BK263 := n0_; have BK266 := n1_; have BK271 := n2_; have HB := n3_; have HO274 := n4_; clear n0_ n1_ n2_ n3_ n4_; clear ho hb hg hat))
            go_roundg k2
            case measure => have := HJ2.out; have := HK2.out; omega
            case rel => exact ⟨(y272), (wrap64 (x21_2 + 1)), (by first | rfl | (simp; done) | (simp [*]; done)), H', ⟨by have := HJ2.out; have := HK2.out; omega⟩, ⟨by (with_reducible repeat (first | apply Kd.zv | apply Kd.zx | apply Kd.zz)); exact HO274.out⟩, ⟨by (with_reducible repeat first | apply zi | apply zl | apply zh); exact BK263.out⟩, ⟨by repeat with_reducible first | exact HB.out | apply zd | apply za | apply ze | refine zk ?_ GE263.out | refine zk ?_ GE266.out | refine zk ?_ GE271.out⟩⟩
           ·rw [if_neg c25] at H
            exact absurd H (by simp)
         ·rw [if_neg c15] at H
          have c15b0 : (t270 == 0) = false := beq_eq_false_iff_ne.mpr c15
          have c15b1 : (t270 != 0) = true := bne_iff_ne.mpr c15
          simp only [Option.some.injEq, Prod.mk.injEq] at H
          obtain ⟨rfl, rfl⟩ := H
          have p265 : 0 ≤ (x21_2 : Int) := of_decide_eq_true (by first | (with_reducible assumption) | assumption)
          have q265 : x21_2 < (l0_5.length : Int) := of_decide_eq_true (by first | (with_reducible assumption) | assumption)
          obtain ⟨ad265, A265_3, c265_3, A265_4, c265_4, e265, hx265_0, hx265_1, hx265_2, hx265_3, hx265_4, hx265_5, hl265_3, hi265_3, hl265_4, hi265_4⟩ := at_T75 HR0_5.out x21_2 p265 q265
          cases e265
          replace hx265_0 := (HB.out.cell (World.block_lt_of_cell? w _ hx265_0)).trans hx265_0
          replace hx265_1 := (HB.out.cell (World.block_lt_of_cell? w _ hx265_1)).trans hx265_1
          replace hx265_2 := (HB.out.cell (World.block_lt_of_cell? w _ hx265_2)).trans hx265_2
          replace hx265_3 := (HB.out.cell (World.block_lt_of_cell? w _ hx265_3)).trans hx265_3
          replace hx265_4 := (HB.out.cell (World.block_lt_of_cell? w _ hx265_4)).trans hx265_4
          replace hx265_5 := (HB.out.cell (World.block_lt_of_cell? w _ hx265_5)).trans hx265_5
          have HR265_3 := zb.mk hi265_3
          have HC265_3 := zb.mk hl265_3
          clear hi265_3 hl265_3
          have HR265_4 := zb.mk hi265_4
          have HC265_4 := zb.mk hl265_4
          clear hi265_4 hl265_4
          replace p265 := eq_true p265
          replace q265 := eq_true q265
          go_wp2_with (first | ((with_reducible refine zda (N := 8) rfl ?_); refine zaa ?hg (N := 8) ?hd (cs := #[.int .u8 0, .int .i64 0, .int .i64 0, .slice none 0 0, .slice none 0 0, .int .i64 0]) (t := 75) ?hr ?_; (case hd => rfl); (case hg => rfl); (case hr => first | (go_simp; done) | (go_simp; rfl)); intro gb266 hg w36 hbox hb; have n0_ := zb.mk (Kd.zga (by (with_reducible repeat (first | apply Kd.zv | apply Kd.zx | apply Kd.zz)); exact HO_6.out) hb); have n1_ := zb.mk (zr (g := gb263) (o := .cells #[.int .i64 a0_0, .int .i64 a0_1, .int .i64 a0_2, .int .i64 a0_3, .int .i64 a0_4, .slice (some ad265) l0_5.length c0_5, .int .i64 a0_6] 78 (0, 0)) (by (with_reducible repeat first | apply zi | apply zl | apply zh); exact BK263.out) hb); have n2_ := zb.mk (zo (by repeat with_reducible first | exact HB.out | apply zd | apply za | apply ze | refine zk ?_ GE263.out) hb); have n3_ := zb.mk (hbox); have n4_ := zb.mk ((by rw [hg]; exact (zn (by repeat with_reducible first | exact HB.out | apply zd | apply za | apply ze | refine zk ?_ GE263.out)) : w.heap.size ≤ gb266)); have n5_ := zb.mk ((by rw [hg]; exact (zn (by repeat with_reducible first | exact HB.out | apply zd | apply za | apply ze | refine zk ?_ GE263.out)) : w.heap.size ≤ gb266)); have n6_ := zb.mk ((by rw [hg]; exact Nat.ne_of_lt (zja (g := gb263) (o := .cells #[.int .i64 a0_0, .int .i64 a0_1, .int .i64 a0_2, .int .i64 a0_3, .int .i64 a0_4, .slice (some ad265) l0_5.length c0_5, .int .i64 a0_6] 78 (0, 0)) (by (with_reducible repeat first | apply zi | apply zl | apply zh); exact BK263.out)) : gb263 ≠ gb266)); have n7_ := zb.mk ((by rw [hg]; exact Nat.ne_of_gt (zja (g := gb263) (o := .cells #[.int .i64 a0_0, .int .i64 a0_1, .int .i64 a0_2, .int .i64 a0_3, .int .i64 a0_4, .slice (some ad265) l0_5.length c0_5, .int .i64 a0_6] 78 (0, 0)) (by (with_reducible repeat first | apply zi | apply zl | apply zh); exact BK263.out)) : gb266 ≠ gb263)); clear HO_6; clear BK263; clear HB; have HO_6 := n0_; have BK263 := n1_; have HB := n2_; have BK266 := n3_; have GW266 := n4_; have GE266 := n5_; have NB263_266 := n6_; have NB266_263 := n7_; clear n0_ n1_ n2_ n3_ n4_ n5_ n6_ n7_; clear hb hbox hg; have hnb37 := NB266_263.out; have hnc37 := NB263_266.out; have hcz38_0 : w36.cell? ⟨gb266, 0, none⟩ = some (.int .u8 0) := (zg BK266.out 0).trans rfl; have hcz38_1 : w36.cell? ⟨gb266, 1, none⟩ = some (.int .i64 0) := (zg BK266.out 1).trans rfl; have hcz38_2 : w36.cell? ⟨gb266, 2, none⟩ = some (.int .i64 0) := (zg BK266.out 2).trans rfl; have hcz38_3 : w36.cell? ⟨gb266, 3, none⟩ = some (.slice none 0 0) := (zg BK266.out 3).trans rfl; have hcz38_4 : w36.cell? ⟨gb266, 4, none⟩ = some (.slice none 0 0) := (zg BK266.out 4).trans rfl; have hcz38_5 : w36.cell? ⟨gb266, 5, none⟩ = some (.int .i64 0) := (zg BK266.out 5).trans rfl; have hfz38_0 := zf BK266.out 0; have hfz38_1 := zf BK266.out 1; have hfz38_2 := zf BK266.out 2; have hfz38_3 := zf BK266.out 3; have hfz38_4 := zf BK266.out 4; have hfz38_5 := zf BK266.out 5) | ((with_reducible refine zt (f := 125) rfl ?_); refine zka (some 29) rfl rfl Tryz.func125 (by kernel_rfl) rfl #[.agg #[.slice A265_3 ((zm l0_5 x21_2).f3.f0).length c265_3, .slice A265_4 ((zm l0_5 x21_2).f3.f1).length c265_4, .int .i64 ((zm l0_5 x21_2).f3.f2)], .int .i64 a1] rfl (by (try simp only [List.map_toArray, List.map_cons, List.map_nil]); first | done | rfl | (simp only [List.length_drop, List.length_take]; rfl)) ?_; (with_reducible refine (deps_At.calls _ _ ((zm l0_5 x21_2).f3.f0) _ _ ((zm l0_5 x21_2).f3.f1) ((zm l0_5 x21_2).f3.f2) a1 t267 t268 t269 t270 _ ?side1 ?side2 ?side3 ?side4 A14.out).mono ?_); (case side1 => exact Kd.zu HR265_3.out (by repeat with_reducible first | exact HB.out | apply zd | apply za | apply ze | refine zk ?_ GE263.out | refine zk ?_ GE266.out)); (case side2 => exact HC265_3.out); (case side3 => exact Kd.zu HR265_4.out (by repeat with_reducible first | exact HB.out | apply zd | apply za | apply ze | refine zk ?_ GE263.out | refine zk ?_ GE266.out)); (case side4 => exact HC265_4.out); rintro e w39 ⟨rfl, hb⟩; refine ⟨_, rfl, ?_⟩; have n0_ := zb.mk (Kd.zga (by (with_reducible repeat (first | apply Kd.zv | apply Kd.zx | apply Kd.zz)); exact (Kd.zra (Kd.R_far (p := ⟨gb266, 5, none⟩) (Kd.R_far (p := ⟨gb266, 4, none⟩) (Kd.R_far (p := ⟨gb266, 3, none⟩) (Kd.R_far (p := ⟨gb266, 2, none⟩) (Kd.R_far (p := ⟨gb266, 1, none⟩) (Kd.R_far (p := ⟨gb266, 0, none⟩) (Kd.zkb HO_6.out BK266.out (by decide)) (fun _ hk => hk.2) (.int .u8 ((zm l0_5 x21_2).f0))) (fun _ hk => hk.2) (.int .i64 ((zm l0_5 x21_2).f1))) (fun _ hk => hk.2) (.int .i64 ((zm l0_5 x21_2).f2))) (fun _ hk => hk.2) (.slice A265_3 ((zm l0_5 x21_2).f3.f0).length c265_3)) (fun _ hk => hk.2) (.slice A265_4 ((zm l0_5 x21_2).f3.f1).length c265_4)) (fun _ hk => hk.2) (.int .i64 ((zm l0_5 x21_2).f3.f2))) (fun _ h_ => h_.1))) hb); have n1_ := zb.mk (zr (g := gb263) (o := .cells #[.int .i64 a0_0, .int .i64 a0_1, .int .i64 a0_2, .int .i64 a0_3, .int .i64 a0_4, .slice (some ad265) l0_5.length c0_5, .int .i64 a0_6] 78 (0, 0)) (by (with_reducible repeat first | apply zi | apply zl | apply zh); refine zha ?_ NB263_266.out _; (with_reducible repeat first | apply zi | apply zl | apply zh); refine zha ?_ NB263_266.out _; (with_reducible repeat first | apply zi | apply zl | apply zh); refine zha ?_ NB263_266.out _; (with_reducible repeat first | apply zi | apply zl | apply zh); refine zha ?_ NB263_266.out _; (with_reducible repeat first | apply zi | apply zl | apply zh); refine zha ?_ NB263_266.out _; (with_reducible repeat first | apply zi | apply zl | apply zh); refine zha ?_ NB263_266.out _; (with_reducible repeat first | apply zi | apply zl | apply zh); exact BK263.out) hb); have n2_ := zb.mk (zr (g := gb266) (o := .cells #[.int .u8 ((zm l0_5 x21_2).f0), .int .i64 ((zm l0_5 x21_2).f1), .int .i64 ((zm l0_5 x21_2).f2), .slice A265_3 ((zm l0_5 x21_2).f3.f0).length c265_3, .slice A265_4 ((zm l0_5 x21_2).f3.f1).length c265_4, .int .i64 ((zm l0_5 x21_2).f3.f2)] 75 (0, 0)) (by (with_reducible repeat first | apply zi | apply zl | apply zh); refine zba (cs := #[.int .u8 ((zm l0_5 x21_2).f0), .int .i64 ((zm l0_5 x21_2).f1), .int .i64 ((zm l0_5 x21_2).f2), .slice A265_3 ((zm l0_5 x21_2).f3.f0).length c265_3, .slice A265_4 ((zm l0_5 x21_2).f3.f1).length c265_4, .int .i64 0]) ?_ 5 _ rfl; (with_reducible repeat first | apply zi | apply zl | apply zh); refine zba (cs := #[.int .u8 ((zm l0_5 x21_2).f0), .int .i64 ((zm l0_5 x21_2).f1), .int .i64 ((zm l0_5 x21_2).f2), .slice A265_3 ((zm l0_5 x21_2).f3.f0).length c265_3, .slice none 0 0, .int .i64 0]) ?_ 4 _ rfl; (with_reducible repeat first | apply zi | apply zl | apply zh); refine zba (cs := #[.int .u8 ((zm l0_5 x21_2).f0), .int .i64 ((zm l0_5 x21_2).f1), .int .i64 ((zm l0_5 x21_2).f2), .slice none 0 0, .slice none 0 0, .int .i64 0]) ?_ 3 _ rfl; (with_reducible repeat first | apply zi | apply zl | apply zh); refine zba (cs := #[.int .u8 ((zm l0_5 x21_2).f0), .int .i64 ((zm l0_5 x21_2).f1), .int .i64 0, .slice none 0 0, .slice none 0 0, .int .i64 0]) ?_ 2 _ rfl; (with_reducible repeat first | apply zi | apply zl | apply zh); refine zba (cs := #[.int .u8 ((zm l0_5 x21_2).f0), .int .i64 0, .int .i64 0, .slice none 0 0, .slice none 0 0, .int .i64 0]) ?_ 1 _ rfl; (with_reducible repeat first | apply zi | apply zl | apply zh); refine zba (cs := #[.int .u8 0, .int .i64 0, .int .i64 0, .slice none 0 0, .slice none 0 0, .int .i64 0]) ?_ 0 _ rfl; (with_reducible repeat first | apply zi | apply zl | apply zh); exact BK266.out) hb); have n3_ := zb.mk (zo (by repeat with_reducible first | exact HB.out | apply zd | apply za | apply ze | refine zk ?_ GE263.out | refine zk ?_ GE266.out) hb); clear HO_6; clear BK263; clear BK266; clear HB; have HO_6 := n0_; have BK263 := n1_; have BK266 := n2_; have HB := n3_; clear n0_ n1_ n2_ n3_; (try clear hb)) | ((with_reducible refine zda (N := 9) rfl ?_); refine zaa ?hg (N := 9) ?hd (cs := #[.bool false, .int .i64 0, .int .i64 0]) (t := 70) ?hr ?_; (case hd => rfl); (case hg => rfl); (case hr => first | (go_simp; done) | (go_simp; rfl)); intro gb271 hg w40 hbox hb; have n0_ := zb.mk (Kd.zga (by (with_reducible repeat (first | apply Kd.zv | apply Kd.zx | apply Kd.zz)); exact HO_6.out) hb); have n1_ := zb.mk (zr (g := gb263) (o := .cells #[.int .i64 a0_0, .int .i64 a0_1, .int .i64 a0_2, .int .i64 a0_3, .int .i64 a0_4, .slice (some ad265) l0_5.length c0_5, .int .i64 a0_6] 78 (0, 0)) (by (with_reducible repeat first | apply zi | apply zl | apply zh); exact BK263.out) hb); have n2_ := zb.mk (zr (g := gb266) (o := .cells #[.int .u8 ((zm l0_5 x21_2).f0), .int .i64 ((zm l0_5 x21_2).f1), .int .i64 ((zm l0_5 x21_2).f2), .slice A265_3 ((zm l0_5 x21_2).f3.f0).length c265_3, .slice A265_4 ((zm l0_5 x21_2).f3.f1).length c265_4, .int .i64 ((zm l0_5 x21_2).f3.f2)] 75 (0, 0)) (by (with_reducible repeat first | apply zi | apply zl | apply zh); exact BK266.out) hb); have n3_ := zb.mk (zo (by repeat with_reducible first | exact HB.out | apply zd | apply za | apply ze | refine zk ?_ GE263.out | refine zk ?_ GE266.out) hb); have n4_ := zb.mk (hbox); have n5_ := zb.mk ((by rw [hg]; exact (zn (by repeat with_reducible first | exact HB.out | apply zd | apply za | apply ze | refine zk ?_ GE263.out | refine zk ?_ GE266.out)) : w.heap.size ≤ gb271)); have n6_ := zb.mk ((by rw [hg]; exact (zn (by repeat with_reducible first | exact HB.out | apply zd | apply za | apply ze | refine zk ?_ GE263.out | refine zk ?_ GE266.out)) : w.heap.size ≤ gb271)); have n7_ := zb.mk ((by rw [hg]; exact Nat.ne_of_lt (zja (g := gb263) (o := .cells #[.int .i64 a0_0, .int .i64 a0_1, .int .i64 a0_2, .int .i64 a0_3, .int .i64 a0_4, .slice (some ad265) l0_5.length c0_5, .int .i64 a0_6] 78 (0, 0)) (by (with_reducible repeat first | apply zi | apply zl | apply zh); exact BK263.out)) : gb263 ≠ gb271)); have n8_ := zb.mk ((by rw [hg]; exact Nat.ne_of_gt (zja (g := gb263) (o := .cells #[.int .i64 a0_0, .int .i64 a0_1, .int .i64 a0_2, .int .i64 a0_3, .int .i64 a0_4, .slice (some ad265) l0_5.length c0_5, .int .i64 a0_6] 78 (0, 0)) (by (with_reducible repeat first | apply zi | apply zl | apply zh); exact BK263.out)) : gb271 ≠ gb263)); have n9_ := zb.mk ((by rw [hg]; exact Nat.ne_of_lt (zja (g := gb266) (o := .cells #[.int .u8 ((zm l0_5 x21_2).f0), .int .i64 ((zm l0_5 x21_2).f1), .int .i64 ((zm l0_5 x21_2).f2), .slice A265_3 ((zm l0_5 x21_2).f3.f0).length c265_3, .slice A265_4 ((zm l0_5 x21_2).f3.f1).length c265_4, .int .i64 ((zm l0_5 x21_2).f3.f2)] 75 (0, 0)) (by (with_reducible repeat first | apply zi | apply zl | apply zh); exact BK266.out)) : gb266 ≠ gb271)); have n10_ := zb.mk ((by rw [hg]; exact Nat.ne_of_gt (zja (g := gb266) (o := .cells #[.int .u8 ((zm l0_5 x21_2).f0), .int .i64 ((zm l0_5 x21_2).f1), .int .i64 ((zm l0_5 x21_2).f2), .slice A265_3 ((zm l0_5 x21_2).f3.f0).length c265_3, .slice A265_4 ((zm l0_5 x21_2).f3.f1).length c265_4, .int .i64 ((zm l0_5 x21_2).f3.f2)] 75 (0, 0)) (by (with_reducible repeat first | apply zi | apply zl | apply zh); exact BK266.out)) : gb271 ≠ gb266)); clear HO_6; clear BK263; clear BK266; clear HB; have HO_6 := n0_; have BK263 := n1_; have BK266 := n2_; have HB := n3_; have BK271 := n4_; have GW271 := n5_; have GE271 := n6_; have NB263_271 := n7_; have NB271_263 := n8_; have NB266_271 := n9_; have NB271_266 := n10_; clear n0_ n1_ n2_ n3_ n4_ n5_ n6_ n7_ n8_ n9_ n10_; clear hb hbox hg; have hnb41 := NB271_263.out; have hnc41 := NB263_271.out; have hnb42 := NB271_266.out; have hnc42 := NB266_271.out; have hcz43_0 : w40.cell? ⟨gb271, 0, none⟩ = some (.bool false) := (zg BK271.out 0).trans rfl; have hcz43_1 : w40.cell? ⟨gb271, 1, none⟩ = some (.int .i64 0) := (zg BK271.out 1).trans rfl; have hcz43_2 : w40.cell? ⟨gb271, 2, none⟩ = some (.int .i64 0) := (zg BK271.out 2).trans rfl; have hfz43_0 := zf BK271.out 0; have hfz43_1 := zf BK271.out 1; have hfz43_2 := zf BK271.out 2))
          go_ret2
          exact ⟨_, by first | rfl | (simp [zp, zq] <;> rfl) | (simp [*, zp, zq] <;> rfl), by first | exact Kd.R_nil _ _ _ _ _ | exact Kd.N_nil _ _ _ _ _ | exact Kd.V_nil _ _ _ _ _ | exact Kd.Q_nil _ _ _ _ _ | exact Kd.S_nil _ _ _ _ _, by repeat with_reducible first | exact HB.out | apply zd | apply za | apply ze | refine zk ?_ GE263.out | refine zk ?_ GE266.out | refine zk ?_ GE271.out⟩
        ·rw [if_neg c13] at H
         exact absurd H (by simp)
       ·rw [if_neg c12] at H
        exact absurd H (by simp)
      ·rw [if_neg c11] at H
       have c11b0 : decide (x21_2 < (l0_5.length : Int)) = false := decide_eq_false c11
       clear c11
       simp only [Option.some.injEq, Prod.mk.injEq] at H
       obtain ⟨rfl, rfl⟩ := H
       go_wp2
       go_ret2
       exact ⟨_, by first | rfl | (simp [zp, zq] <;> rfl) | (simp [*, zp, zq] <;> rfl), by (with_reducible repeat (first | apply Kd.zv | apply Kd.zx | apply Kd.zz)); exact HO_6.out, by repeat with_reducible first | exact HB.out | apply zd | apply za | apply ze | refine zk ?_ GE263.out⟩
end
end Go.Proofs.YtfondhcppjkchaaGreat.Q
