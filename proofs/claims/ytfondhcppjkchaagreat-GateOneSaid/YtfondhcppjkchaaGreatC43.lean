import Derived.Test.YtfondhcppjkchaaGreatC3
import Derived.Test.YtfondhcppjkchaaGreatC42
set_option maxHeartbeats 40000000
set_option maxRecDepth 100000
set_option linter.unusedVariables false
set_option linter.unusedSimpArgs false
namespace Go.Proofs.YtfondhcppjkchaaGreat.Q
noncomputable section
open Go.RowKit Go.Proofs.YtfondhcppjkchaaGreatW.PrintWords Go.Proofs.YtfondhcppjkchaaGreatW.PrintLast Go.Proofs.YtfondhcppjkchaaGreatW.PrintMore
attribute [local go_sem] max2_int min2_int max_two min_two max_three min_three max_four min_four
mutual
def demand_Worst.j0 : Nat → List (S61) → Int → Int → Int → Bool → Bool → Option (Int × Int × Bool × Int)
 | 0, _, _, _, _, _, _ => none
 | k + 1, x0, x1, x4, x5, x6, x24 => if x24 = true then (some (0, 0, false, 2)) else ((sortedByDue.f x0).bind fun t669 => ((demand_starts.f k x0).bind fun t672 => (demand_Worst.l0 k x1 x4 x5 x6 t669 t672 (t672.length : Int) 0)))
def demand_Worst.l0 : Nat → Int → Int → Int → Bool → List (S61) → List Int → Int → Int → Option (Int × Int × Bool × Int)
 | 0, _, _, _, _, _, _, _, _ => none
 | k + 1, x1, x4, x5, x6, x8, x29, x30, x31 => if x31 < x30 then (if 0 ≤ x31 then (if x31 < (x29.length : Int) then (demand_Worst.l1 k x1 x4 x5 x6 x8 (rd x29 x31) 0 x29 x30 x31 x8 (x8.length : Int) 0) else (none)) else (none)) else (some (x4, x5, x6, 0))
def demand_Worst.l1 : Nat → Int → Int → Int → Bool → List (S61) → Int → Int → List Int → Int → Int → List (S61) → Int → Int → Option (Int × Int × Bool × Int)
 | 0, _, _, _, _, _, _, _, _, _, _, _, _, _ => none
 | k + 1, x1, x4, x5, x6, x8, x10, x11, x29, x30, x31, x35, x36, x37 => if x37 < x36 then (if 0 ≤ x37 then (if x37 < (x35.length : Int) then (if ((zy x35 x37).f0) ≥ x10 then (demand_Worst.j3 k x1 x4 x5 x6 x8 x10 (wrap64 (x11 + ((zy x35 x37).f2))) x37 x29 x30 x31 x35 x36 x37 ((zy x35 x37).f0) ((zy x35 x37).f1) ((zy x35 x37).f2)) else (demand_Worst.j3 k x1 x4 x5 x6 x8 x10 x11 x37 x29 x30 x31 x35 x36 x37 ((zy x35 x37).f0) ((zy x35 x37).f1) ((zy x35 x37).f2))) else (none)) else (none)) else (demand_Worst.l0 k x1 x4 x5 x6 x8 x29 x30 (wrap64 (x31 + 1)))
def demand_Worst.j3 : Nat → Int → Int → Int → Bool → List (S61) → Int → Int → Int → List Int → Int → Int → List (S61) → Int → Int → Int → Int → Int → Option (Int × Int × Bool × Int)
 | 0, _, _, _, _, _, _, _, _, _, _, _, _, _, _, _, _, _ => none
 | k + 1, x1, x4, x5, x6, x8, x10, x11, x12, x29, x30, x31, x35, x36, x37, x678000, x678001, x678002 => if (wrap64 (x12 + 1)) < (x8.length : Int) then (if 0 ≤ (wrap64 (x12 + 1)) then (demand_Worst.j4 k x1 x4 x5 x6 x8 x10 x11 x29 x30 x31 x35 x36 x37 (((zy x8 (wrap64 (x12 + 1))).f1) == x678001) x678000 x678001 x678002) else (none)) else (demand_Worst.j4 k x1 x4 x5 x6 x8 x10 x11 x29 x30 x31 x35 x36 x37 false x678000 x678001 x678002)
def demand_Worst.j4 : Nat → Int → Int → Int → Bool → List (S61) → Int → Int → List Int → Int → Int → List (S61) → Int → Int → Bool → Int → Int → Int → Option (Int × Int × Bool × Int)
 | 0, _, _, _, _, _, _, _, _, _, _, _, _, _, _, _, _, _ => none
 | k + 1, x1, x4, x5, x6, x8, x10, x11, x29, x30, x31, x35, x36, x37, x50, x678000, x678001, x678002 => if x50 = true then (demand_Worst.j5 k x1 x4 x5 x6 x8 x10 x11 x29 x30 x31 x35 x36 x37 x50 x678000 x678001 x678002) else (if x678001 ≤ x10 then (demand_Worst.j5 k x1 x4 x5 x6 x8 x10 x11 x29 x30 x31 x35 x36 x37 (decide (x678001 ≤ x10)) x678000 x678001 x678002) else (demand_Worst.j5 k x1 x4 x5 x6 x8 x10 x11 x29 x30 x31 x35 x36 x37 (x11 == 0) x678000 x678001 x678002))
def demand_Worst.j5 : Nat → Int → Int → Int → Bool → List (S61) → Int → Int → List Int → Int → Int → List (S61) → Int → Int → Bool → Int → Int → Int → Option (Int × Int × Bool × Int)
 | 0, _, _, _, _, _, _, _, _, _, _, _, _, _, _, _, _, _ => none
 | k + 1, x1, x4, x5, x6, x8, x10, x11, x29, x30, x31, x35, x36, x37, x50, x678000, x678001, x678002 => if x50 = true then (demand_Worst.l1 k x1 x4 x5 x6 x8 x10 x11 x29 x30 x31 x35 x36 (wrap64 (x37 + 1))) else (if (wrap64 (x11 + x1)) > (wrap64 (x678001 - x10)) then (some (x10, x678001, true, 0)) else (demand_Worst.l1 k x1 x4 x5 x6 x8 x10 x11 x29 x30 x31 x35 x36 (wrap64 (x37 + 1))))
end
def demand_Worst.f (k : Nat) (l0 : List (S61)) (a1 : Int) : Option (Int × Int × Bool × Int) := (demand_May.f l0).bind fun t668 => (if t668 = true then (if a1 < 0 then (demand_Worst.j0 k l0 a1 0 0 false true) else (demand_Worst.j0 k l0 a1 0 0 false (decide (a1 > 1048576)))) else (demand_Worst.j0 k l0 a1 0 0 false true))
theorem demand_Worst.zma : ∀ k, (∀ y0 y1 y2 y3 y4 y5, LeO (demand_Worst.j0 k y0 y1 y2 y3 y4 y5) (demand_Worst.j0 (k + 1) y0 y1 y2 y3 y4 y5)) ∧ (∀ y0 y1 y2 y3 y4 y5 y6 y7, LeO (demand_Worst.l0 k y0 y1 y2 y3 y4 y5 y6 y7) (demand_Worst.l0 (k + 1) y0 y1 y2 y3 y4 y5 y6 y7)) ∧ (∀ y0 y1 y2 y3 y4 y5 y6 y7 y8 y9 y10 y11 y12, LeO (demand_Worst.l1 k y0 y1 y2 y3 y4 y5 y6 y7 y8 y9 y10 y11 y12) (demand_Worst.l1 (k + 1) y0 y1 y2 y3 y4 y5 y6 y7 y8 y9 y10 y11 y12)) ∧ (∀ y0 y1 y2 y3 y4 y5 y6 y7 y8 y9 y10 y11 y12 y13 y14 y15 y16, LeO (demand_Worst.j3 k y0 y1 y2 y3 y4 y5 y6 y7 y8 y9 y10 y11 y12 y13 y14 y15 y16) (demand_Worst.j3 (k + 1) y0 y1 y2 y3 y4 y5 y6 y7 y8 y9 y10 y11 y12 y13 y14 y15 y16)) ∧ (∀ y0 y1 y2 y3 y4 y5 y6 y7 y8 y9 y10 y11 y12 y13 y14 y15 y16, LeO (demand_Worst.j4 k y0 y1 y2 y3 y4 y5 y6 y7 y8 y9 y10 y11 y12 y13 y14 y15 y16) (demand_Worst.j4 (k + 1) y0 y1 y2 y3 y4 y5 y6 y7 y8 y9 y10 y11 y12 y13 y14 y15 y16)) ∧ (∀ y0 y1 y2 y3 y4 y5 y6 y7 y8 y9 y10 y11 y12 y13 y14 y15 y16, LeO (demand_Worst.j5 k y0 y1 y2 y3 y4 y5 y6 y7 y8 y9 y10 y11 y12 y13 y14 y15 y16) (demand_Worst.j5 (k + 1) y0 y1 y2 y3 y4 y5 y6 y7 y8 y9 y10 y11 y12 y13 y14 y15 y16))
 | 0 => ⟨fun _ _ _ _ _ _ r h => by simp [demand_Worst.j0] at h, fun _ _ _ _ _ _ _ _ r h => by simp [demand_Worst.l0] at h, fun _ _ _ _ _ _ _ _ _ _ _ _ _ r h => by simp [demand_Worst.l1] at h, fun _ _ _ _ _ _ _ _ _ _ _ _ _ _ _ _ _ r h => by simp [demand_Worst.j3] at h, fun _ _ _ _ _ _ _ _ _ _ _ _ _ _ _ _ _ r h => by simp [demand_Worst.j4] at h, fun _ _ _ _ _ _ _ _ _ _ _ _ _ _ _ _ _ r h => by simp [demand_Worst.j5] at h⟩
 | k + 1 => by
  obtain ⟨ih0, ih1, ih2, ih3, ih4, ih5⟩ := demand_Worst.zma k
  refine ⟨?_, ?_, ?_, ?_, ?_, ?_⟩
  ·intro y0 y1 y2 y3 y4 y5
   unfold demand_Worst.j0
   repeat' first
   | (with_reducible exact ih0 _ _ _ _ _ _)
   | (with_reducible exact ih1 _ _ _ _ _ _ _ _)
   | (with_reducible exact ih2 _ _ _ _ _ _ _ _ _ _ _ _ _)
   | (with_reducible exact ih3 _ _ _ _ _ _ _ _ _ _ _ _ _ _ _ _ _)
   | (with_reducible exact ih4 _ _ _ _ _ _ _ _ _ _ _ _ _ _ _ _ _)
   | (with_reducible exact ih5 _ _ _ _ _ _ _ _ _ _ _ _ _ _ _ _ _)
   | (with_reducible exact demand_starts.mono _ _)
   | (with_reducible exact LeO.refl _)
   | (with_reducible exact LeO.none _)
   | (with_reducible refine LeO.ite ?_ ?_)
   | (with_reducible refine LeO.bind ?_ (fun _ => ?_))
   | exact ih0 _ _ _ _ _ _
   | exact ih1 _ _ _ _ _ _ _ _
   | exact ih2 _ _ _ _ _ _ _ _ _ _ _ _ _
   | exact ih3 _ _ _ _ _ _ _ _ _ _ _ _ _ _ _ _ _
   | exact ih4 _ _ _ _ _ _ _ _ _ _ _ _ _ _ _ _ _
   | exact ih5 _ _ _ _ _ _ _ _ _ _ _ _ _ _ _ _ _
   | exact demand_starts.mono _ _
   | exact LeO.none _
   | refine LeO.ite ?_ ?_
   | refine LeO.bind ?_ (fun _ => ?_)
  ·intro y0 y1 y2 y3 y4 y5 y6 y7
   unfold demand_Worst.l0
   repeat' first
   | (with_reducible exact ih0 _ _ _ _ _ _)
   | (with_reducible exact ih1 _ _ _ _ _ _ _ _)
   | (with_reducible exact ih2 _ _ _ _ _ _ _ _ _ _ _ _ _)
   | (with_reducible exact ih3 _ _ _ _ _ _ _ _ _ _ _ _ _ _ _ _ _)
   | (with_reducible exact ih4 _ _ _ _ _ _ _ _ _ _ _ _ _ _ _ _ _)
   | (with_reducible exact ih5 _ _ _ _ _ _ _ _ _ _ _ _ _ _ _ _ _)
   | (with_reducible exact demand_starts.mono _ _)
   | (with_reducible exact LeO.refl _)
   | (with_reducible exact LeO.none _)
   | (with_reducible refine LeO.ite ?_ ?_)
   | (with_reducible refine LeO.bind ?_ (fun _ => ?_))
   | exact ih0 _ _ _ _ _ _
   | exact ih1 _ _ _ _ _ _ _ _
   | exact ih2 _ _ _ _ _ _ _ _ _ _ _ _ _
   | exact ih3 _ _ _ _ _ _ _ _ _ _ _ _ _ _ _ _ _
   | exact ih4 _ _ _ _ _ _ _ _ _ _ _ _ _ _ _ _ _
   | exact ih5 _ _ _ _ _ _ _ _ _ _ _ _ _ _ _ _ _
   | exact demand_starts.mono _ _
   | exact LeO.none _
   | refine LeO.ite ?_ ?_
   | refine LeO.bind ?_ (fun _ => ?_)
  ·intro y0 y1 y2 y3 y4 y5 y6 y7 y8 y9 y10 y11 y12
   unfold demand_Worst.l1
   repeat' first
   | (with_reducible exact ih0 _ _ _ _ _ _)
   | (with_reducible exact ih1 _ _ _ _ _ _ _ _)
   | (with_reducible exact ih2 _ _ _ _ _ _ _ _ _ _ _ _ _)
   | (with_reducible exact ih3 _ _ _ _ _ _ _ _ _ _ _ _ _ _ _ _ _)
   | (with_reducible exact ih4 _ _ _ _ _ _ _ _ _ _ _ _ _ _ _ _ _)
   | (with_reducible exact ih5 _ _ _ _ _ _ _ _ _ _ _ _ _ _ _ _ _)
   | (with_reducible exact demand_starts.mono _ _)
   | (with_reducible exact LeO.refl _)
   | (with_reducible exact LeO.none _)
   | (with_reducible refine LeO.ite ?_ ?_)
   | (with_reducible refine LeO.bind ?_ (fun _ => ?_))
   | exact ih0 _ _ _ _ _ _
   | exact ih1 _ _ _ _ _ _ _ _
   | exact ih2 _ _ _ _ _ _ _ _ _ _ _ _ _
   | exact ih3 _ _ _ _ _ _ _ _ _ _ _ _ _ _ _ _ _
   | exact ih4 _ _ _ _ _ _ _ _ _ _ _ _ _ _ _ _ _
   | exact ih5 _ _ _ _ _ _ _ _ _ _ _ _ _ _ _ _ _
   | exact demand_starts.mono _ _
   | exact LeO.none _
   | refine LeO.ite ?_ ?_
   | refine LeO.bind ?_ (fun _ => ?_)
  ·intro y0 y1 y2 y3 y4 y5 y6 y7 y8 y9 y10 y11 y12 y13 y14 y15 y16
   unfold demand_Worst.j3
   repeat' first
   | (with_reducible exact ih0 _ _ _ _ _ _)
   | (with_reducible exact ih1 _ _ _ _ _ _ _ _)
   | (with_reducible exact ih2 _ _ _ _ _ _ _ _ _ _ _ _ _)
   | (with_reducible exact ih3 _ _ _ _ _ _ _ _ _ _ _ _ _ _ _ _ _)
   | (with_reducible exact ih4 _ _ _ _ _ _ _ _ _ _ _ _ _ _ _ _ _)
   | (with_reducible exact ih5 _ _ _ _ _ _ _ _ _ _ _ _ _ _ _ _ _)
   | (with_reducible exact demand_starts.mono _ _)
   | (with_reducible exact LeO.refl _)
   | (with_reducible exact LeO.none _)
   | (with_reducible refine LeO.ite ?_ ?_)
   | (with_reducible refine LeO.bind ?_ (fun _ => ?_))
   | exact ih0 _ _ _ _ _ _
   | exact ih1 _ _ _ _ _ _ _ _
   | exact ih2 _ _ _ _ _ _ _ _ _ _ _ _ _
   | exact ih3 _ _ _ _ _ _ _ _ _ _ _ _ _ _ _ _ _
   | exact ih4 _ _ _ _ _ _ _ _ _ _ _ _ _ _ _ _ _
   | exact ih5 _ _ _ _ _ _ _ _ _ _ _ _ _ _ _ _ _
   | exact demand_starts.mono _ _
   | exact LeO.none _
   | refine LeO.ite ?_ ?_
   | refine LeO.bind ?_ (fun _ => ?_)
  ·intro y0 y1 y2 y3 y4 y5 y6 y7 y8 y9 y10 y11 y12 y13 y14 y15 y16
   unfold demand_Worst.j4
   repeat' first
   | (with_reducible exact ih0 _ _ _ _ _ _)
   | (with_reducible exact ih1 _ _ _ _ _ _ _ _)
   | (with_reducible exact ih2 _ _ _ _ _ _ _ _ _ _ _ _ _)
   | (with_reducible exact ih3 _ _ _ _ _ _ _ _ _ _ _ _ _ _ _ _ _)
   | (with_reducible exact ih4 _ _ _ _ _ _ _ _ _ _ _ _ _ _ _ _ _)
   | (with_reducible exact ih5 _ _ _ _ _ _ _ _ _ _ _ _ _ _ _ _ _)
   | (with_reducible exact demand_starts.mono _ _)
   | (with_reducible exact LeO.refl _)
   | (with_reducible exact LeO.none _)
   | (with_reducible refine LeO.ite ?_ ?_)
   | (with_reducible refine LeO.bind ?_ (fun _ => ?_))
   | exact ih0 _ _ _ _ _ _
   | exact ih1 _ _ _ _ _ _ _ _
   | exact ih2 _ _ _ _ _ _ _ _ _ _ _ _ _
   | exact ih3 _ _ _ _ _ _ _ _ _ _ _ _ _ _ _ _ _
   | exact ih4 _ _ _ _ _ _ _ _ _ _ _ _ _ _ _ _ _
   | exact ih5 _ _ _ _ _ _ _ _ _ _ _ _ _ _ _ _ _
   | exact demand_starts.mono _ _
   | exact LeO.none _
   | refine LeO.ite ?_ ?_
   | refine LeO.bind ?_ (fun _ => ?_)
  ·intro y0 y1 y2 y3 y4 y5 y6 y7 y8 y9 y10 y11 y12 y13 y14 y15 y16
   unfold demand_Worst.j5
   repeat' first
   | (with_reducible exact ih0 _ _ _ _ _ _)
   | (with_reducible exact ih1 _ _ _ _ _ _ _ _)
   | (with_reducible exact ih2 _ _ _ _ _ _ _ _ _ _ _ _ _)
   | (with_reducible exact ih3 _ _ _ _ _ _ _ _ _ _ _ _ _ _ _ _ _)
   | (with_reducible exact ih4 _ _ _ _ _ _ _ _ _ _ _ _ _ _ _ _ _)
   | (with_reducible exact ih5 _ _ _ _ _ _ _ _ _ _ _ _ _ _ _ _ _)
   | (with_reducible exact demand_starts.mono _ _)
   | (with_reducible exact LeO.refl _)
   | (with_reducible exact LeO.none _)
   | (with_reducible refine LeO.ite ?_ ?_)
   | (with_reducible refine LeO.bind ?_ (fun _ => ?_))
   | exact ih0 _ _ _ _ _ _
   | exact ih1 _ _ _ _ _ _ _ _
   | exact ih2 _ _ _ _ _ _ _ _ _ _ _ _ _
   | exact ih3 _ _ _ _ _ _ _ _ _ _ _ _ _ _ _ _ _
   | exact ih4 _ _ _ _ _ _ _ _ _ _ _ _ _ _ _ _ _
   | exact ih5 _ _ _ _ _ _ _ _ _ _ _ _ _ _ _ _ _
   | exact demand_starts.mono _ _
   | exact LeO.none _
   | refine LeO.ite ?_ ?_
   | refine LeO.bind ?_ (fun _ => ?_)
theorem demand_Worst.mono : ∀ a0 a1 k, LeO (demand_Worst.f k a0 a1) (demand_Worst.f (k + 1) a0 a1) := by
 intro a0 a1 k
 obtain ⟨ih0, ih1, ih2, ih3, ih4, ih5⟩ := demand_Worst.zma k
 unfold demand_Worst.f
 repeat' first
   | (with_reducible exact ih0 _ _ _ _ _ _)
   | (with_reducible exact ih1 _ _ _ _ _ _ _ _)
   | (with_reducible exact ih2 _ _ _ _ _ _ _ _ _ _ _ _ _)
   | (with_reducible exact ih3 _ _ _ _ _ _ _ _ _ _ _ _ _ _ _ _ _)
   | (with_reducible exact ih4 _ _ _ _ _ _ _ _ _ _ _ _ _ _ _ _ _)
   | (with_reducible exact ih5 _ _ _ _ _ _ _ _ _ _ _ _ _ _ _ _ _)
   | (with_reducible exact demand_starts.mono _ _)
   | (with_reducible exact LeO.refl _)
   | (with_reducible exact LeO.none _)
   | (with_reducible refine LeO.ite ?_ ?_)
   | (with_reducible refine LeO.bind ?_ (fun _ => ?_))
   | exact ih0 _ _ _ _ _ _
   | exact ih1 _ _ _ _ _ _ _ _
   | exact ih2 _ _ _ _ _ _ _ _ _ _ _ _ _
   | exact ih3 _ _ _ _ _ _ _ _ _ _ _ _ _ _ _ _ _
   | exact ih4 _ _ _ _ _ _ _ _ _ _ _ _ _ _ _ _ _
   | exact ih5 _ _ _ _ _ _ _ _ _ _ _ _ _ _ _ _ _
   | exact demand_starts.mono _ _
   | exact LeO.none _
   | refine LeO.ite ?_ ?_
   | refine LeO.bind ?_ (fun _ => ?_)
theorem demand_Worst.calls (k : Nat) (A0 : Option Addr) (c0 : Nat) (l0 : List (S61)) (a1 : Int) (r1 : Int) (r2 : Int) (r3 : Bool) (r4 : Int) (w : World) (hr0 : Kd.C k61 w A0 l0.length l0) (hc0 : l0.length ≤ c0) (h : demand_Worst.f k l0 a1 = some (r1, r2, r3, r4)) :
  Calls Tryz.prog 38 #[.slice A0 l0.length c0, .int .i64 a1] w fun e w' => e = .returned (.tuple #[.int .i64 r1, .int .i64 r2, .bool r3, .int .i64 r4]) ∧ Below w.heap.size w w' := by
 have hu61 := Tryz.underlying61
 have HR0 := zb.mk hr0
 have HC0 := zb.mk hc0
 clear hr0 hc0
 have HB := zb.mk (Below.refl w.heap.size w)
 have H : ((demand_May.f l0).bind fun t668 => (if t668 = true then (if a1 < 0 then (demand_Worst.j0 k l0 a1 0 0 false true) else (demand_Worst.j0 k l0 a1 0 0 false (decide (a1 > 1048576)))) else (demand_Worst.j0 k l0 a1 0 0 false true))) = some (r1, r2, r3, r4) := h
 clear h
 have HC3 := zb.mk H
 clear H
 go_enter Tryz.func38, Tryz.ntmps38
 go_wp2_with (fail)
 go_step3
 go_upto_region 1 with (fail)
 repeat (go_quiet (fail); go_upto_region 1 with (fail))
 go_cut [24] (fun v24 wc => ∃ (kq : Nat) (x24_2 : Bool), v24 = .bool x24_2 ∧ zb (demand_Worst.j0 kq l0 a1 0 0 false x24_2 = some (r1, r2, r3, r4)) ∧ zb (kq ≤ k) ∧ zb (Below w.heap.size w wc))
 case first =>
  have H := HC3.out
  clear HC3
  replace H := Option.bind_eq_some_iff.mp H
  obtain ⟨t668, A40, H⟩ := H
  replace H : (if t668 = true then (if a1 < 0 then (demand_Worst.j0 k l0 a1 0 0 false true) else (demand_Worst.j0 k l0 a1 0 0 false (decide (a1 > 1048576)))) else (demand_Worst.j0 k l0 a1 0 0 false true)) = some (r1, r2, r3, r4) := H
  have A4 := zb.mk A40
  clear A40
  refine dite (t668 = true) (fun c5 => ?pp1) (fun c5 => ?nn1)
  case' nn1 =>
   replace c5 := Bool.eq_false_iff.mpr c5
   subst c5
   have H1 : (demand_Worst.j0 k l0 a1 0 0 false true) = some (r1, r2, r3, r4) := by rw [if_neg (show ¬ (false = true) by decide)] at H; exact H
   clear H
   have H := H1
   clear H1
   have H' := zb.mk H
   clear H
  case' pp1 =>
   subst c5
   have H1 : (if a1 < 0 then (demand_Worst.j0 k l0 a1 0 0 false true) else (demand_Worst.j0 k l0 a1 0 0 false (decide (a1 > 1048576)))) = some (r1, r2, r3, r4) := by rw [if_pos rfl] at H; exact H
   clear H
   have H := H1
   clear H1
   refine dite (a1 < 0) (fun c6 => ?pp2) (fun c6 => ?nn2)
   case' nn2 =>
    rw [if_neg c6] at H
    have c6b0 : decide (a1 < 0) = false := decide_eq_false c6
    clear c6
    (first | rw [c6b0] | (simp only [i64_w, i32_w]; rw [c6b0]) | skip)
    have H' := zb.mk H
    clear H
   case' pp2 =>
    rw [if_pos c6] at H
    have c6b0 : decide (a1 < 0) = true := decide_eq_true c6
    clear c6
    (first | rw [c6b0] | (simp only [i64_w, i32_w]; rw [c6b0]) | skip)
    have H' := zb.mk H
    clear H
  all_goals
   as_aux_lemma =>
    go_wp2_with (first | (go_at_call 67; (with_reducible refine (demand_May.calls _ _ l0 _ _ ?side1 ?side2 A4.out).mono ?_); (case side1 => repeat (first | exact (Kd.zu HR0.out HB.out) | (with_reducible refine Kd.zea ?_ _) | (with_reducible refine Kd.zfa ?_ _) | (with_reducible refine Kd.zia ?_))); (case side2 => exact HC0.out); rintro e w9 ⟨rfl, hb⟩; have n0_ := zb.mk (zo (by repeat with_reducible first | exact HB.out | apply zd | apply za | apply ze) hb); clear HB; have HB := n0_; clear n0_; (try clear hb); (try clear hk)))
    repeat (go_quiet (first | (go_at_call 67; (with_reducible refine (demand_May.calls _ _ l0 _ _ ?side1 ?side2 A4.out).mono ?_); (case side1 => repeat (first | exact (Kd.zu HR0.out HB.out) | (with_reducible refine Kd.zea ?_ _) | (with_reducible refine Kd.zfa ?_ _) | (with_reducible refine Kd.zia ?_))); (case side2 => exact HC0.out); rintro e w9 ⟨rfl, hb⟩; have n0_ := zb.mk (zo (by repeat with_reducible first | exact HB.out | apply zd | apply za | apply ze) hb); clear HB; have HB := n0_; clear n0_; (try clear hb); (try clear hk))); try go_wp2_with (first | (go_at_call 67; (with_reducible refine (demand_May.calls _ _ l0 _ _ ?side1 ?side2 A4.out).mono ?_); (case side1 => repeat (first | exact (Kd.zu HR0.out HB.out) | (with_reducible refine Kd.zea ?_ _) | (with_reducible refine Kd.zfa ?_ _) | (with_reducible refine Kd.zia ?_))); (case side2 => exact HC0.out); rintro e w9 ⟨rfl, hb⟩; have n0_ := zb.mk (zo (by repeat with_reducible first | exact HB.out | apply zd | apply za | apply ze) hb); clear HB; have HB := n0_; clear n0_; (try clear hb); (try clear hk))))
    go_meet
    case rel => exact ⟨_, _, (by first | rfl | (simp; done) | (simp [*]; done)), H', ⟨by first | omega | exact Nat.le_refl _⟩, ⟨by repeat with_reducible first | exact HB.out | apply zd | apply za | apply ze⟩⟩
 case rest =>
  clear HC3
  try clear p2
  try clear c3
  try clear c5
  try clear c6
  try clear c6b0
  obtain ⟨kq, x24_2, rfl, HA, HJ2, HB⟩ := hcut
  cases kq with
  | zero => exact absurd HA.out (by simp [demand_Worst.j0])
  | succ kj2 =>
   have H := HA.out
   clear HA
   simp only [demand_Worst.j0] at H
   by_cases c10 : x24_2 = true
   ·subst c10
    have H1 : (some (0, 0, false, 2)) = some (r1, r2, r3, r4) := by rw [if_pos rfl] at H; exact H
    clear H
    have H := H1
    clear H1
    simp only [Option.some.injEq, Prod.mk.injEq] at H
    obtain ⟨rfl, rfl, rfl, rfl⟩ := H
    go_wp2
    repeat (go_quiet (fail); try go_wp2)
    try rw [Exit.noGoto_ret]
    refine bodyPost_ret (results_list (rs := [.tmp 4, .tmp 5, .tmp 6, .tmp 7]) rfl (by simp) (.tmp (.tmp (.tmp (.tmp .nil))))) rfl ?_
    exact ⟨by first | rfl | (simp [zp, zq] <;> rfl) | (simp [*, zp, zq] <;> rfl), by repeat with_reducible first | exact HB.out | apply zd | apply za | apply ze⟩
   ·replace c10 := Bool.eq_false_iff.mpr c10
    subst c10
    have H1 : ((sortedByDue.f l0).bind fun t669 => ((demand_starts.f kj2 l0).bind fun t672 => (demand_Worst.l0 kj2 a1 0 0 false t669 t672 (t672.length : Int) 0))) = some (r1, r2, r3, r4) := by rw [if_neg (show ¬ (false = true) by decide)] at H; exact H
    clear H
    have H := H1
    clear H1
    replace H := Option.bind_eq_some_iff.mp H
    obtain ⟨t669, A110, H⟩ := H
    replace H : ((demand_starts.f kj2 l0).bind fun t672 => (demand_Worst.l0 kj2 a1 0 0 false t669 t672 (t672.length : Int) 0)) = some (r1, r2, r3, r4) := H
    have A11 := zb.mk A110
    clear A110
    replace H := Option.bind_eq_some_iff.mp H
    obtain ⟨t672, A120, H⟩ := H
    replace H : (demand_Worst.l0 kj2 a1 0 0 false t669 t672 (t672.length : Int) 0) = some (r1, r2, r3, r4) := H
    have A12 := zb.mk A120
    clear A120
    have H' := zb.mk H
    clear H
    go_wp2_with (first | (go_at_call 69; refine (slices_Values.calls A0 l0.length c0 _).mono ?_; rintro e wv ⟨rfl, rfl⟩) | (go_at_call 68; (with_reducible refine (sortedByDue.calls _ _ l0 t669 _ ?side1 ?side2 A11.out).mono ?_); (case side1 => repeat (first | exact (Kd.zu HR0.out HB.out) | (with_reducible refine Kd.zea ?_ _) | (with_reducible refine Kd.zfa ?_ _) | (with_reducible refine Kd.zia ?_))); (case side2 => exact HC0.out); rintro e w13 ⟨v670, rfl, ho0, hb⟩; have n0_ := zb.mk (Kd.zxa ho0 (zn (by repeat with_reducible first | exact HB.out | apply zd | apply za | apply ze))); have n1_ := zb.mk (zo (by repeat with_reducible first | exact HB.out | apply zd | apply za | apply ze) hb); clear HB; have HO671 := n0_; have HB := n1_; clear n0_ n1_; (try clear hb); (try clear hk); (try clear ho0)))
    go_step3
    go_wp2_with (first | (go_at_call 71; (with_reducible refine (demand_starts.calls kj2 _ _ l0 t672 _ ?side1 ?side2 A12.out).mono ?_); (case side1 => repeat (first | exact (Kd.zu HR0.out HB.out) | (with_reducible refine Kd.zea ?_ _) | (with_reducible refine Kd.zfa ?_ _) | (with_reducible refine Kd.zia ?_))); (case side2 => exact HC0.out); rintro e w14 ⟨v673, rfl, ho0, hb⟩; have n0_ := zb.mk (Kd.zga (by (with_reducible repeat (first | apply Kd.zv | apply Kd.zx | apply Kd.zz)); exact HO671.out) hb); have n1_ := zb.mk (Kd.zxa ho0 (zn (by repeat with_reducible first | exact HB.out | apply zd | apply za | apply ze))); have n2_ := zb.mk (zo (by repeat with_reducible first | exact HB.out | apply zd | apply za | apply ze) hb); clear HO671; clear HB; have HO671 := n0_; have HO674 := n1_; have HB := n2_; clear n0_ n1_ n2_; (try clear hb); (try clear hk); (try clear ho0); obtain ⟨Ao15, co15, eo15⟩ := Kd.zoa HO674.out; subst eo15))
    go_loopg [4, 5, 6, 31] kj2 (fun kq v4 v5 v6 v31 w' => ∃ (x4_2 : Int) (x5_2 : Int) (x6_2 : Bool) (x31_2 : Int), v4 = .int .i64 x4_2 ∧ v5 = .int .i64 x5_2 ∧ v6 = .bool x6_2 ∧ v31 = .int .i64 x31_2 ∧ zb (demand_Worst.l0 kq a1 x4_2 x5_2 x6_2 t669 t672 (t672.length : Int) x31_2 = some (r1, r2, r3, r4)) ∧ zb (kq ≤ kj2) ∧ zb (Kd.R k61 61 w' w.heap.size (fun _ => True) v670 t669) ∧ zb (Kd.R (Kd.int .i64) 2 w' w.heap.size (fun _ => True) (.slice Ao15 t672.length co15) t672) ∧ zb (Below w.heap.size w w'))
    case atStart => exact ⟨(0), (0), (false), (0), (by first | rfl | (simp; done) | (simp [*]; done)), (by first | rfl | (simp; done) | (simp [*]; done)), (by first | rfl | (simp; done) | (simp [*]; done)), (by first | rfl | (simp; done) | (simp [*]; done)), H', ⟨Nat.le_refl _⟩, ⟨by (with_reducible repeat (first | apply Kd.zv | apply Kd.zx | apply Kd.zz)); exact HO671.out⟩, ⟨by (with_reducible repeat (first | apply Kd.zv | apply Kd.zx | apply Kd.zz)); exact HO674.out⟩, ⟨by repeat with_reducible first | exact HB.out | apply zd | apply za | apply ze⟩⟩
    case round =>
     clear H'
     try clear c1
     try clear p2
     try clear c3
     try clear c5
     try clear c6
     try clear c6b0
     try clear c10
     try clear p2
     obtain ⟨x4_2, x5_2, x6_2, x31_2, rfl, rfl, rfl, rfl, HA, HK2, HO_8, HO_29, HB⟩ := hrel
     cases gk with
     | zero => exact absurd HA.out (by simp [demand_Worst.l0])
     | succ k2 =>
      have H := HA.out
      clear HA
      simp only [demand_Worst.l0] at H
      by_cases c16 : x31_2 < (t672.length : Int)
      ·rw [if_pos c16] at H
       have c16b0 : decide (x31_2 < (t672.length : Int)) = true := decide_eq_true c16
       clear c16
       by_cases c17 : 0 ≤ x31_2
       ·rw [if_pos c17] at H
        have c17b0 : decide (0 ≤ x31_2) = true := decide_eq_true c17
        clear c17
        by_cases c18 : x31_2 < (t672.length : Int)
        ·rw [if_pos c18] at H
         have c18b0 : decide (x31_2 < (t672.length : Int)) = true := decide_eq_true c18
         clear c18
         have H' := zb.mk H
         clear H
         have p675 : 0 ≤ (x31_2 : Int) := of_decide_eq_true (by first | (with_reducible assumption) | assumption)
         have q675 : x31_2 < (t672.length : Int) := of_decide_eq_true (by first | (with_reducible assumption) | assumption)
         obtain ⟨ad675, e675, hx675_0⟩ := Kd.zya (Kd.R_reads' HO_29.out).2.2 x31_2 p675 q675
         cases e675
         replace p675 := eq_true p675
         replace q675 := eq_true q675
         obtain ⟨Ao19, co19, eo19⟩ := Kd.zoa HO_8.out
         subst eo19
         go_wp2
         repeat (go_quiet (fail); try go_wp2)
         go_loopg [4, 5, 6, 11, 37] k2 (fun kq v4 v5 v6 v11 v37 w' => ∃ (x4_3 : Int) (x5_3 : Int) (x6_3 : Bool) (x11_3 : Int) (x37_3 : Int), v4 = .int .i64 x4_3 ∧ v5 = .int .i64 x5_3 ∧ v6 = .bool x6_3 ∧ v11 = .int .i64 x11_3 ∧ v37 = .int .i64 x37_3 ∧ zb (demand_Worst.l1 kq a1 x4_3 x5_3 x6_3 t669 (rd t672 x31_2) x11_3 t672 (t672.length : Int) x31_2 t669 (t669.length : Int) x37_3 = some (r1, r2, r3, r4)) ∧ zb (kq ≤ k2) ∧ zb (Kd.R k61 61 w' w.heap.size (fun _ => True) (.slice Ao19 t669.length co19) t669) ∧ zb (Kd.R (Kd.int .i64) 2 w' w.heap.size (fun _ => True) (.slice (some ad675) t672.length co15) t672) ∧ zb (Kd.R k61 61 w' w.heap.size (fun _ => True) (.slice Ao19 t669.length co19) t669) ∧ zb (Below w.heap.size w w'))
         case atStart => exact ⟨(x4_2), (x5_2), (x6_2), (0), (0), (by first | rfl | (simp; done) | (simp [*]; done)), (by first | rfl | (simp; done) | (simp [*]; done)), (by first | rfl | (simp; done) | (simp [*]; done)), (by first | rfl | (simp; done) | (simp [*]; done)), (by first | rfl | (simp; done) | (simp [*]; done)), H', ⟨Nat.le_refl _⟩, ⟨by (with_reducible repeat (first | apply Kd.zv | apply Kd.zx | apply Kd.zz)); exact HO_8.out⟩, ⟨by (with_reducible repeat (first | apply Kd.zv | apply Kd.zx | apply Kd.zz)); exact HO_29.out⟩, ⟨by (with_reducible repeat (first | apply Kd.zv | apply Kd.zx | apply Kd.zz)); exact HO_8.out⟩, ⟨by repeat with_reducible first | exact HB.out | apply zd | apply za | apply ze⟩⟩
         case round =>
          clear H'
          try clear c1
          try clear p2
          try clear c3
          try clear c5
          try clear c6
          try clear c6b0
          try clear p6
          try clear q6
          try clear hx6
          try clear c10
          try clear c16
          try clear c16b0
          try clear c17
          try clear c17b0
          try clear c18
          try clear c18b0
          try clear hx675_0
          try clear p2
          try clear p675
          try clear q675
          obtain ⟨x4_3, x5_3, x6_3, x11_3, x37_3, rfl, rfl, rfl, rfl, rfl, HA, HK3, HO_8, HO_29, HO_35, HB⟩ := hrel
          cases gk with
          | zero => exact absurd HA.out (by simp [demand_Worst.l1])
          | succ k3 =>
           have H := HA.out
           clear HA
           simp only [demand_Worst.l1] at H
           by_cases c20 : x37_3 < (t669.length : Int)
           ·rw [if_pos c20] at H
            have c20b0 : decide (x37_3 < (t669.length : Int)) = true := decide_eq_true c20
            clear c20
            by_cases c21 : 0 ≤ x37_3
            ·rw [if_pos c21] at H
             have c21b0 : decide (0 ≤ x37_3) = true := decide_eq_true c21
             clear c21
             by_cases c22 : x37_3 < (t669.length : Int)
             ·rw [if_pos c22] at H
              have c22b0 : decide (x37_3 < (t669.length : Int)) = true := decide_eq_true c22
              clear c22
              have HC23 := zb.mk H
              clear H
              have p676 : 0 ≤ (x37_3 : Int) := of_decide_eq_true (by first | (with_reducible assumption) | assumption)
              have q676 : x37_3 < (t669.length : Int) := of_decide_eq_true (by first | (with_reducible assumption) | assumption)
              obtain ⟨ad676, e676, hx676_0, hx676_1, hx676_2⟩ := at_T61 (Kd.R_reads' HO_35.out).2.2 x37_3 p676 q676
              cases e676
              replace p676 := eq_true p676
              replace q676 := eq_true q676
              go_upto_if 45 with (first | ((with_reducible refine zda (N := 13) rfl ?_); refine zaa ?hg (N := 13) ?hd (cs := #[.int .i64 0, .int .i64 0, .int .i64 0]) (t := 61) ?hr ?_; (case hd => rfl); (case hg => rfl); (case hr => first | (go_simp; done) | (go_simp; rfl)); intro gb677 hg w24 hbox hb; have n0_ := zb.mk (Kd.zga (Kd.znb (by (with_reducible repeat (first | apply Kd.zv | apply Kd.zx | apply Kd.zz)); exact HO_8.out) gb677 (Nat.le_of_eq hg.symm)) hb); have n1_ := zb.mk (Kd.zga (by (with_reducible repeat (first | apply Kd.zv | apply Kd.zx | apply Kd.zz)); exact HO_29.out) hb); have n2_ := zb.mk (Kd.zga (Kd.znb (by (with_reducible repeat (first | apply Kd.zv | apply Kd.zx | apply Kd.zz)); exact HO_35.out) gb677 (Nat.le_of_eq hg.symm)) hb); have n3_ := zb.mk (zo (by repeat with_reducible first | exact HB.out | apply zd | apply za | apply ze) hb); have n4_ := zb.mk (hbox); have n5_ := zb.mk ((by rw [hg]; exact (zn (by repeat with_reducible first | exact HB.out | apply zd | apply za | apply ze)) : w.heap.size ≤ gb677)); have n6_ := zb.mk ((by rw [hg]; exact (zn (by repeat with_reducible first | exact HB.out | apply zd | apply za | apply ze)) : w.heap.size ≤ gb677)); clear HO_8; clear HO_29; clear HO_35; clear HB; have HO_8 := n0_; have HO_29 := n1_; have HO_35 := n2_; have HB := n3_; have BK677 := n4_; have GW677 := n5_; have GE677 := n6_; clear n0_ n1_ n2_ n3_ n4_ n5_ n6_; clear hb hbox hg; have hcz25_0 : w24.cell? ⟨gb677, 0, none⟩ = some (.int .i64 0) := (zg BK677.out 0).trans rfl; have hcz25_1 : w24.cell? ⟨gb677, 1, none⟩ = some (.int .i64 0) := (zg BK677.out 1).trans rfl; have hcz25_2 : w24.cell? ⟨gb677, 2, none⟩ = some (.int .i64 0) := (zg BK677.out 2).trans rfl; have hfz25_0 := zf BK677.out 0; have hfz25_1 := zf BK677.out 1; have hfz25_2 := zf BK677.out 2))
              repeat (go_quiet (first | ((with_reducible refine zda (N := 13) rfl ?_); refine zaa ?hg (N := 13) ?hd (cs := #[.int .i64 0, .int .i64 0, .int .i64 0]) (t := 61) ?hr ?_; (case hd => rfl); (case hg => rfl); (case hr => first | (go_simp; done) | (go_simp; rfl)); intro gb677 hg w24 hbox hb; have n0_ := zb.mk (Kd.zga (Kd.znb (by (with_reducible repeat (first | apply Kd.zv | apply Kd.zx | apply Kd.zz)); exact HO_8.out) gb677 (Nat.le_of_eq hg.symm)) hb); have n1_ := zb.mk (Kd.zga (by (with_reducible repeat (first | apply Kd.zv | apply Kd.zx | apply Kd.zz)); exact HO_29.out) hb); have n2_ := zb.mk (Kd.zga (Kd.znb (by (with_reducible repeat (first | apply Kd.zv | apply Kd.zx | apply Kd.zz)); exact HO_35.out) gb677 (Nat.le_of_eq hg.symm)) hb); have n3_ := zb.mk (zo (by repeat with_reducible first | exact HB.out | apply zd | apply za | apply ze) hb); have n4_ := zb.mk (hbox); have n5_ := zb.mk ((by rw [hg]; exact (zn (by repeat with_reducible first | exact HB.out | apply zd | apply za | apply ze)) : w.heap.size ≤ gb677)); have n6_ := zb.mk ((by rw [hg]; exact (zn (by repeat with_reducible first | exact HB.out | apply zd | apply za | apply ze)) : w.heap.size ≤ gb677)); clear HO_8; clear HO_29; clear HO_35; clear HB; have HO_8 := n0_; have HO_29 := n1_; have HO_35 := n2_; have HB := n3_; have BK677 := n4_; have GW677 := n5_; have GE677 := n6_; clear n0_ n1_ n2_ n3_ n4_ n5_ n6_; clear hb hbox hg; have hcz25_0 : w24.cell? ⟨gb677, 0, none⟩ = some (.int .i64 0) := (zg BK677.out 0).trans rfl; have hcz25_1 : w24.cell? ⟨gb677, 1, none⟩ = some (.int .i64 0) := (zg BK677.out 1).trans rfl; have hcz25_2 : w24.cell? ⟨gb677, 2, none⟩ = some (.int .i64 0) := (zg BK677.out 2).trans rfl; have hfz25_0 := zf BK677.out 0; have hfz25_1 := zf BK677.out 1; have hfz25_2 := zf BK677.out 2)); go_upto_if 45 with (first | ((with_reducible refine zda (N := 13) rfl ?_); refine zaa ?hg (N := 13) ?hd (cs := #[.int .i64 0, .int .i64 0, .int .i64 0]) (t := 61) ?hr ?_; (case hd => rfl); (case hg => rfl); (case hr => first | (go_simp; done) | (go_simp; rfl)); intro gb677 hg w24 hbox hb; have n0_ := zb.mk (Kd.zga (Kd.znb (by (with_reducible repeat (first | apply Kd.zv | apply Kd.zx | apply Kd.zz)); exact HO_8.out) gb677 (Nat.le_of_eq hg.symm)) hb); have n1_ := zb.mk (Kd.zga (by (with_reducible repeat (first | apply Kd.zv | apply Kd.zx | apply Kd.zz)); exact HO_29.out) hb); have n2_ := zb.mk (Kd.zga (Kd.znb (by (with_reducible repeat (first | apply Kd.zv | apply Kd.zx | apply Kd.zz)); exact HO_35.out) gb677 (Nat.le_of_eq hg.symm)) hb); have n3_ := zb.mk (zo (by repeat with_reducible first | exact HB.out | apply zd | apply za | apply ze) hb); have n4_ := zb.mk (hbox); have n5_ := zb.mk ((by rw [hg]; exact (zn (by repeat with_reducible first | exact HB.out | apply zd | apply za | apply ze)) : w.heap.size ≤ gb677)); have n6_ := zb.mk ((by rw [hg]; exact (zn (by repeat with_reducible first | exact HB.out | apply zd | apply za | apply ze)) : w.heap.size ≤ gb677)); clear HO_8; clear HO_29; clear HO_35; clear HB; have HO_8 := n0_; have HO_29 := n1_; have HO_35 := n2_; have HB := n3_; have BK677 := n4_; have GW677 := n5_; have GE677 := n6_; clear n0_ n1_ n2_ n3_ n4_ n5_ n6_; clear hb hbox hg; have hcz25_0 : w24.cell? ⟨gb677, 0, none⟩ = some (.int .i64 0) := (zg BK677.out 0).trans rfl; have hcz25_1 : w24.cell? ⟨gb677, 1, none⟩ = some (.int .i64 0) := (zg BK677.out 1).trans rfl; have hcz25_2 : w24.cell? ⟨gb677, 2, none⟩ = some (.int .i64 0) := (zg BK677.out 2).trans rfl; have hfz25_0 := zf BK677.out 0; have hfz25_1 := zf BK677.out 1; have hfz25_2 := zf BK677.out 2)))
              (try simp only [Act.put, List.setIfInBounds_toArray, List.set_cons_zero, List.set_cons_succ])
              go_cut [11] (fun v11 wc => ∃ (kq : Nat) (x11_22 : Int), v11 = .int .i64 x11_22 ∧ zb (demand_Worst.j3 kq a1 x4_3 x5_3 x6_3 t669 (rd t672 x31_2) x11_22 x37_3 t672 (t672.length : Int) x31_2 t669 (t669.length : Int) x37_3 ((zy t669 x37_3).f0) ((zy t669 x37_3).f1) ((zy t669 x37_3).f2) = some (r1, r2, r3, r4)) ∧ zb (kq ≤ k3) ∧ zb (Kd.R k61 61 wc w.heap.size (fun k_ => k_ ≠ gb677) (.slice (some ad676) t669.length co19) t669) ∧ zb (Kd.R (Kd.int .i64) 2 wc w.heap.size (fun _ => True) (.slice (some ad675) t672.length co15) t672) ∧ zb (Kd.R k61 61 wc w.heap.size (fun k_ => k_ ≠ gb677) (.slice (some ad676) t669.length co19) t669) ∧ zb (wc.heap[gb677]? = some (.cells #[.int .i64 ((zy t669 x37_3).f0), .int .i64 ((zy t669 x37_3).f1), .int .i64 ((zy t669 x37_3).f2)] 61 (0, 0))) ∧ zb (Below w.heap.size w wc))
              case first =>
               have H := HC23.out
               clear HC23
               by_cases c26 : ((zy t669 x37_3).f0) ≥ (rd t672 x31_2)
               ·rw [if_pos c26] at H
                have c26b0 : decide ((rd t672 x31_2) ≤ ((zy t669 x37_3).f0)) = true := decide_eq_true c26
                clear c26
                (first | rw [c26b0] | (simp only [i64_w, i32_w]; rw [c26b0]) | skip)
                have H' := zb.mk H
                clear H
                have hcz27_0 : w24.cell? ⟨gb677, 0, none⟩ = some (.int .i64 0) := (zg BK677.out 0).trans rfl
                have hcz27_1 : w24.cell? ⟨gb677, 1, none⟩ = some (.int .i64 0) := (zg BK677.out 1).trans rfl
                have hcz27_2 : w24.cell? ⟨gb677, 2, none⟩ = some (.int .i64 0) := (zg BK677.out 2).trans rfl
                have hfz27_0 := zf BK677.out 0
                have hfz27_1 := zf BK677.out 1
                have hfz27_2 := zf BK677.out 2
                go_wp2
                repeat (go_quiet (fail); try go_wp2)
                go_meet
                case rel => exact ⟨_, (wrap64 (x11_3 + ((zy t669 x37_3).f2))), (by first | rfl | (simp; done) | (simp [*]; done)), H', ⟨by have := HJ2.out; have := HK2.out; have := HK3.out; first | omega | exact Nat.le_refl _⟩, ⟨by (with_reducible repeat (first | apply Kd.zv | apply Kd.zx | apply Kd.zz)); exact Kd.zra (Kd.R_far (p := ⟨gb677, 2, none⟩) (Kd.R_far (p := ⟨gb677, 1, none⟩) (Kd.R_far (p := ⟨gb677, 0, none⟩) (Kd.zra HO_8.out (fun k_ hk => (⟨hk, hk.2⟩ : _ ∧ k_ ≠ gb677))) (fun _ hk => hk.2) (.int .i64 ((zy t669 x37_3).f0))) (fun _ hk => hk.2) (.int .i64 ((zy t669 x37_3).f1))) (fun _ hk => hk.2) (.int .i64 ((zy t669 x37_3).f2))) (fun _ hk => hk.1.2)⟩, ⟨by (with_reducible repeat (first | apply Kd.zv | apply Kd.zx | apply Kd.zz)); exact Kd.zra (Kd.R_far (p := ⟨gb677, 2, none⟩) (Kd.R_far (p := ⟨gb677, 1, none⟩) (Kd.R_far (p := ⟨gb677, 0, none⟩) (Kd.zkb HO_29.out BK677.out (by decide)) (fun _ hk => hk.2) (.int .i64 ((zy t669 x37_3).f0))) (fun _ hk => hk.2) (.int .i64 ((zy t669 x37_3).f1))) (fun _ hk => hk.2) (.int .i64 ((zy t669 x37_3).f2))) (fun _ hk => trivial)⟩, ⟨by (with_reducible repeat (first | apply Kd.zv | apply Kd.zx | apply Kd.zz)); exact Kd.zra (Kd.R_far (p := ⟨gb677, 2, none⟩) (Kd.R_far (p := ⟨gb677, 1, none⟩) (Kd.R_far (p := ⟨gb677, 0, none⟩) (Kd.zra HO_35.out (fun k_ hk => (⟨hk, hk.2⟩ : _ ∧ k_ ≠ gb677))) (fun _ hk => hk.2) (.int .i64 ((zy t669 x37_3).f0))) (fun _ hk => hk.2) (.int .i64 ((zy t669 x37_3).f1))) (fun _ hk => hk.2) (.int .i64 ((zy t669 x37_3).f2))) (fun _ hk => hk.1.2)⟩, ⟨by (with_reducible repeat first | apply zi | apply zl | apply zh); refine zba (cs := #[.int .i64 ((zy t669 x37_3).f0), .int .i64 ((zy t669 x37_3).f1), .int .i64 0]) ?_ 2 _ rfl; (with_reducible repeat first | apply zi | apply zl | apply zh); refine zba (cs := #[.int .i64 ((zy t669 x37_3).f0), .int .i64 0, .int .i64 0]) ?_ 1 _ rfl; (with_reducible repeat first | apply zi | apply zl | apply zh); refine zba (cs := #[.int .i64 0, .int .i64 0, .int .i64 0]) ?_ 0 _ rfl; (with_reducible repeat first | apply zi | apply zl | apply zh); exact BK677.out⟩, ⟨by repeat with_reducible first | exact HB.out | apply zd | apply za | apply ze | refine zk ?_ GE677.out⟩⟩
               ·rw [if_neg c26] at H
                have c26b0 : decide ((rd t672 x31_2) ≤ ((zy t669 x37_3).f0)) = false := decide_eq_false c26
                clear c26
                (first | rw [c26b0] | (simp only [i64_w, i32_w]; rw [c26b0]) | skip)
                have H' := zb.mk H
                clear H
                go_wp2
                repeat (go_quiet (fail); try go_wp2)
                go_meet
                case rel => exact ⟨_, (x11_3), (by first | rfl | (simp; done) | (simp [*]; done)), H', ⟨by have := HJ2.out; have := HK2.out; have := HK3.out; first | omega | exact Nat.le_refl _⟩, ⟨by (with_reducible repeat (first | apply Kd.zv | apply Kd.zx | apply Kd.zz)); exact Kd.zra (Kd.R_far (p := ⟨gb677, 2, none⟩) (Kd.R_far (p := ⟨gb677, 1, none⟩) (Kd.R_far (p := ⟨gb677, 0, none⟩) (Kd.zra HO_8.out (fun k_ hk => (⟨hk, hk.2⟩ : _ ∧ k_ ≠ gb677))) (fun _ hk => hk.2) (.int .i64 ((zy t669 x37_3).f0))) (fun _ hk => hk.2) (.int .i64 ((zy t669 x37_3).f1))) (fun _ hk => hk.2) (.int .i64 ((zy t669 x37_3).f2))) (fun _ hk => hk.1.2)⟩, ⟨by (with_reducible repeat (first | apply Kd.zv | apply Kd.zx | apply Kd.zz)); exact Kd.zra (Kd.R_far (p := ⟨gb677, 2, none⟩) (Kd.R_far (p := ⟨gb677, 1, none⟩) (Kd.R_far (p := ⟨gb677, 0, none⟩) (Kd.zkb HO_29.out BK677.out (by decide)) (fun _ hk => hk.2) (.int .i64 ((zy t669 x37_3).f0))) (fun _ hk => hk.2) (.int .i64 ((zy t669 x37_3).f1))) (fun _ hk => hk.2) (.int .i64 ((zy t669 x37_3).f2))) (fun _ hk => trivial)⟩, ⟨by (with_reducible repeat (first | apply Kd.zv | apply Kd.zx | apply Kd.zz)); exact Kd.zra (Kd.R_far (p := ⟨gb677, 2, none⟩) (Kd.R_far (p := ⟨gb677, 1, none⟩) (Kd.R_far (p := ⟨gb677, 0, none⟩) (Kd.zra HO_35.out (fun k_ hk => (⟨hk, hk.2⟩ : _ ∧ k_ ≠ gb677))) (fun _ hk => hk.2) (.int .i64 ((zy t669 x37_3).f0))) (fun _ hk => hk.2) (.int .i64 ((zy t669 x37_3).f1))) (fun _ hk => hk.2) (.int .i64 ((zy t669 x37_3).f2))) (fun _ hk => hk.1.2)⟩, ⟨by (with_reducible repeat first | apply zi | apply zl | apply zh); refine zba (cs := #[.int .i64 ((zy t669 x37_3).f0), .int .i64 ((zy t669 x37_3).f1), .int .i64 0]) ?_ 2 _ rfl; (with_reducible repeat first | apply zi | apply zl | apply zh); refine zba (cs := #[.int .i64 ((zy t669 x37_3).f0), .int .i64 0, .int .i64 0]) ?_ 1 _ rfl; (with_reducible repeat first | apply zi | apply zl | apply zh); refine zba (cs := #[.int .i64 0, .int .i64 0, .int .i64 0]) ?_ 0 _ rfl; (with_reducible repeat first | apply zi | apply zl | apply zh); exact BK677.out⟩, ⟨by repeat with_reducible first | exact HB.out | apply zd | apply za | apply ze | refine zk ?_ GE677.out⟩⟩
              case rest =>
               clear HC23
               try clear c1
               try clear c2
               try clear p2
               try clear c3
               try clear c5
               try clear c6
               try clear c6b0
               try clear p6
               try clear q6
               try clear hx6
               try clear c10
               try clear c16
               try clear c16b0
               try clear c17
               try clear c17b0
               try clear c18
               try clear c18b0
               try clear c20
               try clear c20b0
               try clear c21
               try clear c21b0
               try clear c22
               try clear c22b0
               try clear c26
               try clear c26b0
               try clear hcz25_0
               try clear hcz25_1
               try clear hcz25_2
               try clear hcz27_0
               try clear hcz27_1
               try clear hcz27_2
               try clear hfz25_0
               try clear hfz25_1
               try clear hfz25_2
               try clear hfz27_0
               try clear hfz27_1
               try clear hfz27_2
               try clear hx675_0
               try clear hx676_0
               try clear hx676_1
               try clear hx676_2
               try clear p2
               try clear p6
               try clear p675
               try clear p676
               try clear q6
               try clear q675
               try clear q676
               obtain ⟨kq, x11_22, rfl, HA, HJ22, HO_8, HO_29, HO_35, BK677, HB⟩ := hcut
               cases kq with
               | zero => exact absurd HA.out (by simp [demand_Worst.j3])
               | succ kj22 =>
                have H := HA.out
                clear HA
                simp only [demand_Worst.j3] at H
                have HC28 := zb.mk H
                clear H
                go_upto_region 13 with (fail)
                repeat (go_quiet (fail); go_upto_region 13 with (fail))
                go_cut [50] (fun v50 wc => ∃ (kq : Nat) (x50_27 : Bool), v50 = .bool x50_27 ∧ zb (demand_Worst.j4 kq a1 x4_3 x5_3 x6_3 t669 (rd t672 x31_2) x11_22 t672 (t672.length : Int) x31_2 t669 (t669.length : Int) x37_3 x50_27 ((zy t669 x37_3).f0) ((zy t669 x37_3).f1) ((zy t669 x37_3).f2) = some (r1, r2, r3, r4)) ∧ zb (kq ≤ kj22) ∧ zb (Kd.R k61 61 wc w.heap.size (fun k_ => k_ ≠ gb677) (.slice (some ad676) t669.length co19) t669) ∧ zb (Kd.R (Kd.int .i64) 2 wc w.heap.size (fun _ => True) (.slice (some ad675) t672.length co15) t672) ∧ zb (Kd.R k61 61 wc w.heap.size (fun k_ => k_ ≠ gb677) (.slice (some ad676) t669.length co19) t669) ∧ zb (wc.heap[gb677]? = some (.cells #[.int .i64 ((zy t669 x37_3).f0), .int .i64 ((zy t669 x37_3).f1), .int .i64 ((zy t669 x37_3).f2)] 61 (0, 0))) ∧ zb (Below w.heap.size w wc))
                case first =>
                 have H := HC28.out
                 clear HC28
                 by_cases c29 : (wrap64 (x37_3 + 1)) < (t669.length : Int)
                 ·rw [if_pos c29] at H
                  have c29b0 : decide ((wrap64 (x37_3 + 1)) < (t669.length : Int)) = true := decide_eq_true c29
                  clear c29
                  (first | rw [c29b0] | (simp only [i64_w, i32_w]; rw [c29b0]) | skip)
                  obtain ⟨ji30, hji30⟩ : ∃ j_ : Int, (wrap64 (x37_3 + 1)) = j_ := ⟨_, rfl⟩
                  replace H : (if 0 ≤ (ji30) then (demand_Worst.j4 kj22 a1 x4_3 x5_3 x6_3 t669 (rd t672 x31_2) x11_22 t672 (t672.length : Int) x31_2 t669 (t669.length : Int) x37_3 (((zy t669 (ji30)).f1) == ((zy t669 x37_3).f1)) ((zy t669 x37_3).f0) ((zy t669 x37_3).f1) ((zy t669 x37_3).f2)) else (none)) = some (r1, r2, r3, r4) := by first | (rw [hji30] at H; exact H) | (simp only [hji30] at H ⊢; exact H)
                  (try rw [hji30] at c29b0)
                  have hji30w : (IntKind.i64.wrap (x37_3 + 1)) = ji30 := (i64_w _).trans hji30
                  by_cases c31 : 0 ≤ (ji30)
                  ·rw [if_pos c31] at H
                   have c31b0 : decide (0 ≤ (ji30)) = true := decide_eq_true c31
                   clear c31
                   have H' := zb.mk H
                   clear H
                   have p678 : 0 ≤ ((ji30) : Int) := of_decide_eq_true (by first | (with_reducible assumption) | assumption)
                   have q678 : (ji30) < (t669.length : Int) := of_decide_eq_true (by first | (with_reducible assumption) | assumption)
                   obtain ⟨ad678, e678, hx678_0, hx678_1, hx678_2⟩ := at_T61 (Kd.R_reads' HO_8.out).2.2 (ji30) p678 q678
                   obtain rfl : ad676 = ad678 := (by injection e678)
                   replace p678 := eq_true p678
                   replace q678 := eq_true q678
                   have hcz32_0 : wc.cell? ⟨gb677, 0, none⟩ = some (.int .i64 ((zy t669 x37_3).f0)) := (zg BK677.out 0).trans rfl
                   have hcz32_1 : wc.cell? ⟨gb677, 1, none⟩ = some (.int .i64 ((zy t669 x37_3).f1)) := (zg BK677.out 1).trans rfl
                   have hcz32_2 : wc.cell? ⟨gb677, 2, none⟩ = some (.int .i64 ((zy t669 x37_3).f2)) := (zg BK677.out 2).trans rfl
                   have hfz32_0 := zf BK677.out 0
                   have hfz32_1 := zf BK677.out 1
                   have hfz32_2 := zf BK677.out 2
                   go_wp2
                   repeat (go_quiet (fail); try go_wp2)
                   go_meet
                   case rel => exact ⟨_, ((((zy t669 (ji30)).f1) == ((zy t669 x37_3).f1))), (by first | rfl | (simp; done) | (simp only [← hji30] <;> (first | rfl | simp)) | (simp [*]; done)), H', ⟨by have := HJ2.out; have := HK2.out; have := HK3.out; have := HJ22.out; first | omega | exact Nat.le_refl _⟩, ⟨by (with_reducible repeat (first | apply Kd.zv | apply Kd.zx | apply Kd.zz)); exact HO_8.out⟩, ⟨by (with_reducible repeat (first | apply Kd.zv | apply Kd.zx | apply Kd.zz)); exact HO_29.out⟩, ⟨by (with_reducible repeat (first | apply Kd.zv | apply Kd.zx | apply Kd.zz)); exact HO_35.out⟩, ⟨by (with_reducible repeat first | apply zi | apply zl | apply zh); exact BK677.out⟩, ⟨by repeat with_reducible first | exact HB.out | apply zd | apply za | apply ze | refine zk ?_ GE677.out⟩⟩
                  ·rw [if_neg c31] at H
                   exact absurd H (by simp)
                 ·rw [if_neg c29] at H
                  have c29b0 : decide ((wrap64 (x37_3 + 1)) < (t669.length : Int)) = false := decide_eq_false c29
                  clear c29
                  (first | rw [c29b0] | (simp only [i64_w, i32_w]; rw [c29b0]) | skip)
                  have H' := zb.mk H
                  clear H
                  go_wp2
                  repeat (go_quiet (fail); try go_wp2)
                  go_meet
                  case rel => exact ⟨_, (false), (by first | rfl | (simp; done) | (simp [*]; done)), H', ⟨by have := HJ2.out; have := HK2.out; have := HK3.out; have := HJ22.out; first | omega | exact Nat.le_refl _⟩, ⟨by (with_reducible repeat (first | apply Kd.zv | apply Kd.zx | apply Kd.zz)); exact HO_8.out⟩, ⟨by (with_reducible repeat (first | apply Kd.zv | apply Kd.zx | apply Kd.zz)); exact HO_29.out⟩, ⟨by (with_reducible repeat (first | apply Kd.zv | apply Kd.zx | apply Kd.zz)); exact HO_35.out⟩, ⟨by (with_reducible repeat first | apply zi | apply zl | apply zh); exact BK677.out⟩, ⟨by repeat with_reducible first | exact HB.out | apply zd | apply za | apply ze | refine zk ?_ GE677.out⟩⟩
                case rest =>
                 clear HC28
                 try clear c1
                 try clear c2
                 try clear p2
                 try clear c3
                 try clear c5
                 try clear c6
                 try clear c6b0
                 try clear p6
                 try clear q6
                 try clear hx6
                 try clear c10
                 try clear c16
                 try clear c16b0
                 try clear c17
                 try clear c17b0
                 try clear c18
                 try clear c18b0
                 try clear c20
                 try clear c20b0
                 try clear c21
                 try clear c21b0
                 try clear c22
                 try clear c22b0
                 try clear c26
                 try clear c26b0
                 try clear c29
                 try clear c29b0
                 try clear c31
                 try clear c31b0
                 try clear hcz25_0
                 try clear hcz25_1
                 try clear hcz25_2
                 try clear hcz27_0
                 try clear hcz27_1
                 try clear hcz27_2
                 try clear hcz32_0
                 try clear hcz32_1
                 try clear hcz32_2
                 try clear hfz25_0
                 try clear hfz25_1
                 try clear hfz25_2
                 try clear hfz27_0
                 try clear hfz27_1
                 try clear hfz27_2
                 try clear hfz32_0
                 try clear hfz32_1
                 try clear hfz32_2
                 try clear hx675_0
                 try clear hx676_0
                 try clear hx676_1
                 try clear hx676_2
                 try clear hx678_0
                 try clear hx678_1
                 try clear hx678_2
                 try clear p2
                 try clear p6
                 try clear p675
                 try clear p676
                 try clear p678
                 try clear q6
                 try clear q675
                 try clear q676
                 try clear q678
                 obtain ⟨kq, x50_27, rfl, HA, HJ27, HO_8, HO_29, HO_35, BK677, HB⟩ := hcut
                 cases kq with
                 | zero => exact absurd HA.out (by simp [demand_Worst.j4])
                 | succ kj27 =>
                  have H := HA.out
                  clear HA
                  simp only [demand_Worst.j4] at H
                  have HC33 := zb.mk H
                  clear H
                  go_upto_if 50 with (fail)
                  repeat (go_quiet (fail); go_upto_if 50 with (fail))
                  go_cut [50] (fun v50 wc => ∃ (kq : Nat) (x50_32 : Bool), v50 = .bool x50_32 ∧ zb (demand_Worst.j5 kq a1 x4_3 x5_3 x6_3 t669 (rd t672 x31_2) x11_22 t672 (t672.length : Int) x31_2 t669 (t669.length : Int) x37_3 x50_32 ((zy t669 x37_3).f0) ((zy t669 x37_3).f1) ((zy t669 x37_3).f2) = some (r1, r2, r3, r4)) ∧ zb (kq ≤ kj27) ∧ zb (Kd.R k61 61 wc w.heap.size (fun k_ => k_ ≠ gb677) (.slice (some ad676) t669.length co19) t669) ∧ zb (Kd.R (Kd.int .i64) 2 wc w.heap.size (fun _ => True) (.slice (some ad675) t672.length co15) t672) ∧ zb (Kd.R k61 61 wc w.heap.size (fun k_ => k_ ≠ gb677) (.slice (some ad676) t669.length co19) t669) ∧ zb (wc.heap[gb677]? = some (.cells #[.int .i64 ((zy t669 x37_3).f0), .int .i64 ((zy t669 x37_3).f1), .int .i64 ((zy t669 x37_3).f2)] 61 (0, 0))) ∧ zb (Below w.heap.size w wc))
                  case first =>
                   have H := HC33.out
                   clear HC33
                   by_cases c34 : x50_27 = true
                   ·subst c34
                    have H1 : (demand_Worst.j5 kj27 a1 x4_3 x5_3 x6_3 t669 (rd t672 x31_2) x11_22 t672 (t672.length : Int) x31_2 t669 (t669.length : Int) x37_3 true ((zy t669 x37_3).f0) ((zy t669 x37_3).f1) ((zy t669 x37_3).f2)) = some (r1, r2, r3, r4) := by rw [if_pos rfl] at H; exact H
                    clear H
                    have H := H1
                    clear H1
                    have H' := zb.mk H
                    clear H
                    go_wp2
                    repeat (go_quiet (fail); try go_wp2)
                    go_meet
                    case rel => exact ⟨_, (true), (by first | rfl | (simp; done) | (simp [*]; done)), H', ⟨by have := HJ2.out; have := HK2.out; have := HK3.out; have := HJ22.out; have := HJ27.out; first | omega | exact Nat.le_refl _⟩, ⟨by (with_reducible repeat (first | apply Kd.zv | apply Kd.zx | apply Kd.zz)); exact HO_8.out⟩, ⟨by (with_reducible repeat (first | apply Kd.zv | apply Kd.zx | apply Kd.zz)); exact HO_29.out⟩, ⟨by (with_reducible repeat (first | apply Kd.zv | apply Kd.zx | apply Kd.zz)); exact HO_35.out⟩, ⟨by (with_reducible repeat first | apply zi | apply zl | apply zh); exact BK677.out⟩, ⟨by repeat with_reducible first | exact HB.out | apply zd | apply za | apply ze | refine zk ?_ GE677.out⟩⟩
                   ·replace c34 := Bool.eq_false_iff.mpr c34
                    subst c34
                    have H1 : (if ((zy t669 x37_3).f1) ≤ (rd t672 x31_2) then (demand_Worst.j5 kj27 a1 x4_3 x5_3 x6_3 t669 (rd t672 x31_2) x11_22 t672 (t672.length : Int) x31_2 t669 (t669.length : Int) x37_3 (decide (((zy t669 x37_3).f1) ≤ (rd t672 x31_2))) ((zy t669 x37_3).f0) ((zy t669 x37_3).f1) ((zy t669 x37_3).f2)) else (demand_Worst.j5 kj27 a1 x4_3 x5_3 x6_3 t669 (rd t672 x31_2) x11_22 t672 (t672.length : Int) x31_2 t669 (t669.length : Int) x37_3 (x11_22 == 0) ((zy t669 x37_3).f0) ((zy t669 x37_3).f1) ((zy t669 x37_3).f2))) = some (r1, r2, r3, r4) := by rw [if_neg (show ¬ (false = true) by decide)] at H; exact H
                    clear H
                    have H := H1
                    clear H1
                    by_cases c35 : ((zy t669 x37_3).f1) ≤ (rd t672 x31_2)
                    ·rw [if_pos c35] at H
                     have c35b0 : decide (((zy t669 x37_3).f1) ≤ (rd t672 x31_2)) = true := decide_eq_true c35
                     clear c35
                     (first | rw [c35b0] | (simp only [i64_w, i32_w]; rw [c35b0]) | skip)
                     have H' := zb.mk H
                     clear H
                     have hcz36_0 : wc.cell? ⟨gb677, 0, none⟩ = some (.int .i64 ((zy t669 x37_3).f0)) := (zg BK677.out 0).trans rfl
                     have hcz36_1 : wc.cell? ⟨gb677, 1, none⟩ = some (.int .i64 ((zy t669 x37_3).f1)) := (zg BK677.out 1).trans rfl
                     have hcz36_2 : wc.cell? ⟨gb677, 2, none⟩ = some (.int .i64 ((zy t669 x37_3).f2)) := (zg BK677.out 2).trans rfl
                     have hfz36_0 := zf BK677.out 0
                     have hfz36_1 := zf BK677.out 1
                     have hfz36_2 := zf BK677.out 2
                     go_wp2
                     repeat (go_quiet (fail); try go_wp2)
                     go_meet
                     case rel => exact ⟨_, (decide (((zy t669 x37_3).f1) ≤ (rd t672 x31_2))), (by first | rfl | (simp; done) | (simp [*]; done)), H', ⟨by have := HJ2.out; have := HK2.out; have := HK3.out; have := HJ22.out; have := HJ27.out; first | omega | exact Nat.le_refl _⟩, ⟨by (with_reducible repeat (first | apply Kd.zv | apply Kd.zx | apply Kd.zz)); exact HO_8.out⟩, ⟨by (with_reducible repeat (first | apply Kd.zv | apply Kd.zx | apply Kd.zz)); exact HO_29.out⟩, ⟨by (with_reducible repeat (first | apply Kd.zv | apply Kd.zx | apply Kd.zz)); exact HO_35.out⟩, ⟨by (with_reducible repeat first | apply zi | apply zl | apply zh); exact BK677.out⟩, ⟨by repeat with_reducible first | exact HB.out | apply zd | apply za | apply ze | refine zk ?_ GE677.out⟩⟩
                    ·rw [if_neg c35] at H
                     have c35b0 : decide (((zy t669 x37_3).f1) ≤ (rd t672 x31_2)) = false := decide_eq_false c35
                     clear c35
                     (first | rw [c35b0] | (simp only [i64_w, i32_w]; rw [c35b0]) | skip)
                     have H' := zb.mk H
                     clear H
                     have hcz37_0 : wc.cell? ⟨gb677, 0, none⟩ = some (.int .i64 ((zy t669 x37_3).f0)) := (zg BK677.out 0).trans rfl
                     have hcz37_1 : wc.cell? ⟨gb677, 1, none⟩ = some (.int .i64 ((zy t669 x37_3).f1)) := (zg BK677.out 1).trans rfl
                     have hcz37_2 : wc.cell? ⟨gb677, 2, none⟩ = some (.int .i64 ((zy t669 x37_3).f2)) := (zg BK677.out 2).trans rfl
                     have hfz37_0 := zf BK677.out 0
                     have hfz37_1 := zf BK677.out 1
                     have hfz37_2 := zf BK677.out 2
                     go_wp2
                     repeat (go_quiet (fail); try go_wp2)
                     go_meet
                     case rel => exact ⟨_, ((x11_22 == 0)), (by first | rfl | (simp; done) | (simp [*]; done)), H', ⟨by have := HJ2.out; have := HK2.out; have := HK3.out; have := HJ22.out; have := HJ27.out; first | omega | exact Nat.le_refl _⟩, ⟨by (with_reducible repeat (first | apply Kd.zv | apply Kd.zx | apply Kd.zz)); exact HO_8.out⟩, ⟨by (with_reducible repeat (first | apply Kd.zv | apply Kd.zx | apply Kd.zz)); exact HO_29.out⟩, ⟨by (with_reducible repeat (first | apply Kd.zv | apply Kd.zx | apply Kd.zz)); exact HO_35.out⟩, ⟨by (with_reducible repeat first | apply zi | apply zl | apply zh); exact BK677.out⟩, ⟨by repeat with_reducible first | exact HB.out | apply zd | apply za | apply ze | refine zk ?_ GE677.out⟩⟩
                  case rest =>
                   clear HC33
                   try clear c1
                   try clear c2
                   try clear p2
                   try clear c3
                   try clear c5
                   try clear c6
                   try clear c6b0
                   try clear p6
                   try clear q6
                   try clear hx6
                   try clear c10
                   try clear c16
                   try clear c16b0
                   try clear c17
                   try clear c17b0
                   try clear c18
                   try clear c18b0
                   try clear c20
                   try clear c20b0
                   try clear c21
                   try clear c21b0
                   try clear c22
                   try clear c22b0
                   try clear c26
                   try clear c26b0
                   try clear c29
                   try clear c29b0
                   try clear c31
                   try clear c31b0
                   try clear c34
                   try clear c35
                   try clear c35b0
                   try clear hcz25_0
                   try clear hcz25_1
                   try clear hcz25_2
                   try clear hcz27_0
                   try clear hcz27_1
                   try clear hcz27_2
                   try clear hcz32_0
                   try clear hcz32_1
                   try clear hcz32_2
                   try clear hcz36_0
                   try clear hcz36_1
                   try clear hcz36_2
                   try clear hcz37_0
                   try clear hcz37_1
                   try clear hcz37_2
                   try clear hfz25_0
                   try clear hfz25_1
                   try clear hfz25_2
                   try clear hfz27_0
                   try clear hfz27_1
                   try clear hfz27_2
                   try clear hfz32_0
                   try clear hfz32_1
                   try clear hfz32_2
                   try clear hfz36_0
                   try clear hfz36_1
                   try clear hfz36_2
                   try clear hfz37_0
                   try clear hfz37_1
                   try clear hfz37_2
                   try clear hx675_0
                   try clear hx676_0
                   try clear hx676_1
                   try clear hx676_2
                   try clear hx678_0
                   try clear hx678_1
                   try clear hx678_2
                   try clear p2
                   try clear p6
                   try clear p675
                   try clear p676
                   try clear p678
                   try clear q6
                   try clear q675
                   try clear q676
                   try clear q678
                   obtain ⟨kq, x50_32, rfl, HA, HJ32, HO_8, HO_29, HO_35, BK677, HB⟩ := hcut
                   cases kq with
                   | zero => exact absurd HA.out (by simp [demand_Worst.j5])
                   | succ kj32 =>
                    have H := HA.out
                    clear HA
                    simp only [demand_Worst.j5] at H
                    refine dite (x50_32 = true) (fun c38 => ?pp10) (fun c38 => ?nn10)
                    case' nn10 =>
                     replace c38 := Bool.eq_false_iff.mpr c38
                     subst c38
                     have H1 : (if (wrap64 (x11_22 + a1)) > (wrap64 (((zy t669 x37_3).f1) - (rd t672 x31_2))) then (some ((rd t672 x31_2), ((zy t669 x37_3).f1), true, 0)) else (demand_Worst.l1 kj32 a1 x4_3 x5_3 x6_3 t669 (rd t672 x31_2) x11_22 t672 (t672.length : Int) x31_2 t669 (t669.length : Int) (wrap64 (x37_3 + 1)))) = some (r1, r2, r3, r4) := by rw [if_neg (show ¬ (false = true) by decide)] at H; exact H
                     clear H
                     have H := H1
                     clear H1
                     refine dite ((wrap64 (x11_22 + a1)) > (wrap64 (((zy t669 x37_3).f1) - (rd t672 x31_2)))) (fun c39 => ?pp11) (fun c39 => ?nn11)
                     case' nn11 =>
                      rw [if_neg c39] at H
                      have c39b0 : decide ((wrap64 (((zy t669 x37_3).f1) - (rd t672 x31_2))) < (wrap64 (x11_22 + a1))) = false := decide_eq_false c39
                      clear c39
                      have H' := zb.mk H
                      clear H
                      have hcz41_0 : wc.cell? ⟨gb677, 0, none⟩ = some (.int .i64 ((zy t669 x37_3).f0)) := (zg BK677.out 0).trans rfl
                      have hcz41_1 : wc.cell? ⟨gb677, 1, none⟩ = some (.int .i64 ((zy t669 x37_3).f1)) := (zg BK677.out 1).trans rfl
                      have hcz41_2 : wc.cell? ⟨gb677, 2, none⟩ = some (.int .i64 ((zy t669 x37_3).f2)) := (zg BK677.out 2).trans rfl
                      have hfz41_0 := zf BK677.out 0
                      have hfz41_1 := zf BK677.out 1
                      have hfz41_2 := zf BK677.out 2
                     case' pp11 =>
                      rw [if_pos c39] at H
                      have c39b0 : decide ((wrap64 (((zy t669 x37_3).f1) - (rd t672 x31_2))) < (wrap64 (x11_22 + a1))) = true := decide_eq_true c39
                      clear c39
                      simp only [Option.some.injEq, Prod.mk.injEq] at H
                      obtain ⟨rfl, rfl, rfl, rfl⟩ := H
                      have hcz40_0 : wc.cell? ⟨gb677, 0, none⟩ = some (.int .i64 ((zy t669 x37_3).f0)) := (zg BK677.out 0).trans rfl
                      have hcz40_1 : wc.cell? ⟨gb677, 1, none⟩ = some (.int .i64 ((zy t669 x37_3).f1)) := (zg BK677.out 1).trans rfl
                      have hcz40_2 : wc.cell? ⟨gb677, 2, none⟩ = some (.int .i64 ((zy t669 x37_3).f2)) := (zg BK677.out 2).trans rfl
                      have hfz40_0 := zf BK677.out 0
                      have hfz40_1 := zf BK677.out 1
                      have hfz40_2 := zf BK677.out 2
                    case' pp10 =>
                     subst c38
                     have H1 : (demand_Worst.l1 kj32 a1 x4_3 x5_3 x6_3 t669 (rd t672 x31_2) x11_22 t672 (t672.length : Int) x31_2 t669 (t669.length : Int) (wrap64 (x37_3 + 1))) = some (r1, r2, r3, r4) := by rw [if_pos rfl] at H; exact H
                     clear H
                     have H := H1
                     clear H1
                     have H' := zb.mk H
                     clear H
                    all_goals
                     as_aux_lemma =>
                      go_wp2
                      repeat (go_quiet (fail); try go_wp2)
                      first
                      | (go_roundg kj32; (case measure => have := HJ2.out; have := HK2.out; have := HK3.out; have := HJ22.out; have := HJ27.out; have := HJ32.out; omega); (case rel => exact ⟨(x4_3), (x5_3), (x6_3), (x11_22), (wrap64 (x37_3 + 1)), (by first | rfl | (simp; done) | (simp [*]; done)), (by first | rfl | (simp; done) | (simp [*]; done)), (by first | rfl | (simp; done) | (simp [*]; done)), (by first | rfl | (simp; done) | (simp [*]; done)), (by first | rfl | (simp; done) | (simp [*]; done)), H', ⟨by have := HJ2.out; have := HK2.out; have := HK3.out; have := HJ22.out; have := HJ27.out; have := HJ32.out; omega⟩, ⟨by (with_reducible repeat (first | apply Kd.zv | apply Kd.zx | apply Kd.zz)); exact Kd.zra HO_8.out (fun _ hk => trivial)⟩, ⟨by (with_reducible repeat (first | apply Kd.zv | apply Kd.zx | apply Kd.zz)); exact HO_29.out⟩, ⟨by (with_reducible repeat (first | apply Kd.zv | apply Kd.zx | apply Kd.zz)); exact Kd.zra HO_35.out (fun _ hk => trivial)⟩, ⟨by repeat with_reducible first | exact HB.out | apply zd | apply za | apply ze | refine zk ?_ GE677.out⟩⟩))
                      | (try rw [Exit.noGoto_ret]; refine bodyPost_ret (results_list (rs := [.tmp 4, .tmp 5, .tmp 6, .tmp 7]) rfl (by simp) (.tmp (.tmp (.tmp (.tmp .nil))))) rfl ?_; exact ⟨by first | rfl | (simp [zp, zq] <;> rfl) | (simp [*, zp, zq] <;> rfl), by repeat with_reducible first | exact HB.out | apply zd | apply za | apply ze | refine zk ?_ GE677.out⟩)
             ·rw [if_neg c22] at H
              exact absurd H (by simp)
            ·rw [if_neg c21] at H
             exact absurd H (by simp)
           ·rw [if_neg c20] at H
            have c20b0 : decide (x37_3 < (t669.length : Int)) = false := decide_eq_false c20
            clear c20
            have H' := zb.mk H
            clear H
            go_wp2
            repeat (go_quiet (fail); try go_wp2)
            go_roundg k3
            case measure => have := HJ2.out; have := HK2.out; have := HK3.out; omega
            case rel => exact ⟨(x4_3), (x5_3), (x6_3), (wrap64 (x31_2 + 1)), (by first | rfl | (simp; done) | (simp [*]; done)), (by first | rfl | (simp; done) | (simp [*]; done)), (by first | rfl | (simp; done) | (simp [*]; done)), (by first | rfl | (simp; done) | (simp [*]; done)), H', ⟨by have := HJ2.out; have := HK2.out; have := HK3.out; omega⟩, ⟨by (with_reducible repeat (first | apply Kd.zv | apply Kd.zx | apply Kd.zz)); exact HO_8.out⟩, ⟨by (with_reducible repeat (first | apply Kd.zv | apply Kd.zx | apply Kd.zz)); exact HO_29.out⟩, ⟨by repeat with_reducible first | exact HB.out | apply zd | apply za | apply ze⟩⟩
        ·rw [if_neg c18] at H
         exact absurd H (by simp)
       ·rw [if_neg c17] at H
        exact absurd H (by simp)
      ·rw [if_neg c16] at H
       have c16b0 : decide (x31_2 < (t672.length : Int)) = false := decide_eq_false c16
       clear c16
       simp only [Option.some.injEq, Prod.mk.injEq] at H
       obtain ⟨rfl, rfl, rfl, rfl⟩ := H
       go_wp2
       repeat (go_quiet (fail); try go_wp2)
       try rw [Exit.noGoto_ret]
       refine bodyPost_ret (results_list (rs := [.tmp 4, .tmp 5, .tmp 6, .tmp 7]) rfl (by simp) (.tmp (.tmp (.tmp (.tmp .nil))))) rfl ?_
       exact ⟨by first | rfl | (simp [zp, zq] <;> rfl) | (simp [*, zp, zq] <;> rfl), by repeat with_reducible first | exact HB.out | apply zd | apply za | apply ze⟩
end
end Go.Proofs.YtfondhcppjkchaaGreat.Q
