import Derived.Test.YtfondhcppjkchaaGreatC3
import Derived.Test.YtfondhcppjkchaaGreatC5
import Derived.Test.YtfondhcppjkchaaGreatC10
import Derived.Test.YtfondhcppjkchaaGreatC22
set_option maxHeartbeats 40000000
set_option maxRecDepth 100000
set_option linter.unusedVariables false
set_option linter.unusedSimpArgs false
namespace Go.Proofs.YtfondhcppjkchaaGreat.Q
noncomputable section
open Go.RowKit Go.Proofs.YtfondhcppjkchaaGreatW.PrintWords Go.Proofs.YtfondhcppjkchaaGreatW.PrintLast Go.Proofs.YtfondhcppjkchaaGreatW.PrintMore
attribute [local go_sem] max2_int min2_int max_two min_two max_three min_three max_four min_four
mutual
def unfold_Jobs.j0 : Nat → List (S78) → Int → Bool → Option ((List (S56)) × Int)
 | 0, _, _, _ => none
 | k + 1, x0, x1, x28 => if x28 = true then (some (([] : List (S56)), 2)) else (unfold_Jobs.l0 k x0 x1 0 x0 (x0.length : Int) 0)
def unfold_Jobs.l0 : Nat → List (S78) → Int → Int → List (S78) → Int → Int → Option ((List (S56)) × Int)
 | 0, _, _, _, _, _, _ => none
 | k + 1, x0, x1, x6, x29, x30, x31 => if x31 < x30 then (if 0 ≤ x31 then (if x31 < (x29.length : Int) then ((unfold_below.f ((zj x29 x31).f0.f0) ((zj x29 x31).f0.f1) x1).bind fun t279 => (if (wrap64 (x6 + t279)) > 4096 then (some (([] : List (S56)), 4)) else (unfold_Jobs.l0 k x0 x1 (wrap64 (x6 + t279)) x29 x30 (wrap64 (x31 + 1))))) else (none)) else (none)) else (unfold_Jobs.l1 k x1 ([] : List (S56)) x0 (x0.length : Int) 0)
def unfold_Jobs.l1 : Nat → Int → List (S56) → List (S78) → Int → Int → Option ((List (S56)) × Int)
 | 0, _, _, _, _, _ => none
 | k + 1, x1, x9, x44, x45, x46 => if x46 < x45 then (if 0 ≤ x46 then (if x46 < (x44.length : Int) then ((unfold_below.f ((zj x44 x46).f0.f0) ((zj x44 x46).f0.f1) x1).bind fun t283 => (unfold_Jobs.l2 k x1 x9 x46 x44 x45 x46 t283 0 ((zj x44 x46).f0.f0) ((zj x44 x46).f0.f1) ((zj x44 x46).f1) ((zj x44 x46).f2) ((zj x44 x46).f3) ((zj x44 x46).f4) ((zj x44 x46).f5))) else (none)) else (none)) else ((sortJobs.f x9).bind fun t280 => (some (t280, 0)))
def unfold_Jobs.l2 : Nat → Int → List (S56) → Int → List (S78) → Int → Int → Int → Int → Int → Int → Int → Int → Int → List (S75) → Int → Option ((List (S56)) × Int)
 | 0, _, _, _, _, _, _, _, _, _, _, _, _, _, _, _ => none
 | k + 1, x1, x9, x10, x44, x45, x46, x54, x55, x283000, x283001, x283002, x283003, x283004, x283005, x283006 => if x55 < x54 then ((unfold_date.f x283000 x283001 x55).bind fun t284 => (if x9.length < 4398046511104 then (unfold_Jobs.l2 k x1 (x9 ++ [(⟨x10, x55, t284, wrap64 (t284 + x283002)⟩ : S56)]) x10 x44 x45 x46 x54 (wrap64 (x55 + 1)) x283000 x283001 x283002 x283003 x283004 x283005 x283006) else (none))) else (unfold_Jobs.l1 k x1 x9 x44 x45 (wrap64 (x46 + 1)))
end
def unfold_Jobs.f (k : Nat) (l0 : List (S78)) (a1 : Int) : Option ((List (S56)) × Int) := if (l0.length : Int) > 160 then (unfold_Jobs.j0 k l0 a1 true) else (if a1 < 0 then (unfold_Jobs.j0 k l0 a1 true) else (if a1 > 1125899906842624 then (unfold_Jobs.j0 k l0 a1 true) else ((containsTask.f l0).bind fun t276 => (unfold_Jobs.j0 k l0 a1 t276))))
theorem unfold_Jobs.zma : ∀ k, (∀ y0 y1 y2, LeO (unfold_Jobs.j0 k y0 y1 y2) (unfold_Jobs.j0 (k + 1) y0 y1 y2)) ∧ (∀ y0 y1 y2 y3 y4 y5, LeO (unfold_Jobs.l0 k y0 y1 y2 y3 y4 y5) (unfold_Jobs.l0 (k + 1) y0 y1 y2 y3 y4 y5)) ∧ (∀ y0 y1 y2 y3 y4, LeO (unfold_Jobs.l1 k y0 y1 y2 y3 y4) (unfold_Jobs.l1 (k + 1) y0 y1 y2 y3 y4)) ∧ (∀ y0 y1 y2 y3 y4 y5 y6 y7 y8 y9 y10 y11 y12 y13 y14, LeO (unfold_Jobs.l2 k y0 y1 y2 y3 y4 y5 y6 y7 y8 y9 y10 y11 y12 y13 y14) (unfold_Jobs.l2 (k + 1) y0 y1 y2 y3 y4 y5 y6 y7 y8 y9 y10 y11 y12 y13 y14))
 | 0 => ⟨fun _ _ _ r h => by simp [unfold_Jobs.j0] at h, fun _ _ _ _ _ _ r h => by simp [unfold_Jobs.l0] at h, fun _ _ _ _ _ r h => by simp [unfold_Jobs.l1] at h, fun _ _ _ _ _ _ _ _ _ _ _ _ _ _ _ r h => by simp [unfold_Jobs.l2] at h⟩
 | k + 1 => by
  obtain ⟨ih0, ih1, ih2, ih3⟩ := unfold_Jobs.zma k
  refine ⟨?_, ?_, ?_, ?_⟩
  ·intro y0 y1 y2
   unfold unfold_Jobs.j0
   repeat' first
   | (with_reducible exact ih0 _ _ _)
   | (with_reducible exact ih1 _ _ _ _ _ _)
   | (with_reducible exact ih2 _ _ _ _ _)
   | (with_reducible exact ih3 _ _ _ _ _ _ _ _ _ _ _ _ _ _ _)
   | (with_reducible exact LeO.refl _)
   | (with_reducible exact LeO.none _)
   | (with_reducible refine LeO.ite ?_ ?_)
   | (with_reducible refine LeO.bind ?_ (fun _ => ?_))
   | exact ih0 _ _ _
   | exact ih1 _ _ _ _ _ _
   | exact ih2 _ _ _ _ _
   | exact ih3 _ _ _ _ _ _ _ _ _ _ _ _ _ _ _
   | exact LeO.none _
   | refine LeO.ite ?_ ?_
   | refine LeO.bind ?_ (fun _ => ?_)
  ·intro y0 y1 y2 y3 y4 y5
   unfold unfold_Jobs.l0
   repeat' first
   | (with_reducible exact ih0 _ _ _)
   | (with_reducible exact ih1 _ _ _ _ _ _)
   | (with_reducible exact ih2 _ _ _ _ _)
   | (with_reducible exact ih3 _ _ _ _ _ _ _ _ _ _ _ _ _ _ _)
   | (with_reducible exact LeO.refl _)
   | (with_reducible exact LeO.none _)
   | (with_reducible refine LeO.ite ?_ ?_)
   | (with_reducible refine LeO.bind ?_ (fun _ => ?_))
   | exact ih0 _ _ _
   | exact ih1 _ _ _ _ _ _
   | exact ih2 _ _ _ _ _
   | exact ih3 _ _ _ _ _ _ _ _ _ _ _ _ _ _ _
   | exact LeO.none _
   | refine LeO.ite ?_ ?_
   | refine LeO.bind ?_ (fun _ => ?_)
  ·intro y0 y1 y2 y3 y4
   unfold unfold_Jobs.l1
   repeat' first
   | (with_reducible exact ih0 _ _ _)
   | (with_reducible exact ih1 _ _ _ _ _ _)
   | (with_reducible exact ih2 _ _ _ _ _)
   | (with_reducible exact ih3 _ _ _ _ _ _ _ _ _ _ _ _ _ _ _)
   | (with_reducible exact LeO.refl _)
   | (with_reducible exact LeO.none _)
   | (with_reducible refine LeO.ite ?_ ?_)
   | (with_reducible refine LeO.bind ?_ (fun _ => ?_))
   | exact ih0 _ _ _
   | exact ih1 _ _ _ _ _ _
   | exact ih2 _ _ _ _ _
   | exact ih3 _ _ _ _ _ _ _ _ _ _ _ _ _ _ _
   | exact LeO.none _
   | refine LeO.ite ?_ ?_
   | refine LeO.bind ?_ (fun _ => ?_)
  ·intro y0 y1 y2 y3 y4 y5 y6 y7 y8 y9 y10 y11 y12 y13 y14
   unfold unfold_Jobs.l2
   repeat' first
   | (with_reducible exact ih0 _ _ _)
   | (with_reducible exact ih1 _ _ _ _ _ _)
   | (with_reducible exact ih2 _ _ _ _ _)
   | (with_reducible exact ih3 _ _ _ _ _ _ _ _ _ _ _ _ _ _ _)
   | (with_reducible exact LeO.refl _)
   | (with_reducible exact LeO.none _)
   | (with_reducible refine LeO.ite ?_ ?_)
   | (with_reducible refine LeO.bind ?_ (fun _ => ?_))
   | exact ih0 _ _ _
   | exact ih1 _ _ _ _ _ _
   | exact ih2 _ _ _ _ _
   | exact ih3 _ _ _ _ _ _ _ _ _ _ _ _ _ _ _
   | exact LeO.none _
   | refine LeO.ite ?_ ?_
   | refine LeO.bind ?_ (fun _ => ?_)
theorem unfold_Jobs.mono : ∀ a0 a1 k, LeO (unfold_Jobs.f k a0 a1) (unfold_Jobs.f (k + 1) a0 a1) := by
 intro a0 a1 k
 obtain ⟨ih0, ih1, ih2, ih3⟩ := unfold_Jobs.zma k
 unfold unfold_Jobs.f
 repeat' first
   | (with_reducible exact ih0 _ _ _)
   | (with_reducible exact ih1 _ _ _ _ _ _)
   | (with_reducible exact ih2 _ _ _ _ _)
   | (with_reducible exact ih3 _ _ _ _ _ _ _ _ _ _ _ _ _ _ _)
   | (with_reducible exact LeO.refl _)
   | (with_reducible exact LeO.none _)
   | (with_reducible refine LeO.ite ?_ ?_)
   | (with_reducible refine LeO.bind ?_ (fun _ => ?_))
   | exact ih0 _ _ _
   | exact ih1 _ _ _ _ _ _
   | exact ih2 _ _ _ _ _
   | exact ih3 _ _ _ _ _ _ _ _ _ _ _ _ _ _ _
   | exact LeO.none _
   | refine LeO.ite ?_ ?_
   | refine LeO.bind ?_ (fun _ => ?_)
theorem unfold_Jobs.calls (k : Nat) (A0 : Option Addr) (c0 : Nat) (l0 : List (S78)) (a1 : Int) (r1 : List (S56)) (r2 : Int) (w : World) (hr0 : Kd.C k78 w A0 l0.length l0) (hc0 : l0.length ≤ c0) (h : unfold_Jobs.f k l0 a1 = some (r1, r2)) :
  Calls Tryz.prog 35 #[.slice A0 l0.length c0, .int .i64 a1] w fun e w' => ∃ v0_ : Value, e = .returned (.tuple #[v0_, .int .i64 r2]) ∧ Kd.R k56 56 w' w.heap.size (fun _ => True) v0_ r1 ∧ Below w.heap.size w w' := by
 have hu78 := Tryz.underlying78
 have hu68 := Tryz.underlying68
 have hu56 := Tryz.underlying56
 have HR0 := zb.mk hr0
 have HC0 := zb.mk hc0
 clear hr0 hc0
 have HB := zb.mk (Below.refl w.heap.size w)
 have H : (if (l0.length : Int) > 160 then (unfold_Jobs.j0 k l0 a1 true) else (if a1 < 0 then (unfold_Jobs.j0 k l0 a1 true) else (if a1 > 1125899906842624 then (unfold_Jobs.j0 k l0 a1 true) else ((containsTask.f l0).bind fun t276 => (unfold_Jobs.j0 k l0 a1 t276))))) = some (r1, r2) := h
 clear h
 have HC3 := zb.mk H
 clear H
 go_enter Tryz.func35, Tryz.ntmps35
 go_upto_region 1 with (fail)
 go_cut [28] (fun v28 wc => ∃ (kq : Nat) (x28_2 : Bool), v28 = .bool x28_2 ∧ zb (unfold_Jobs.j0 kq l0 a1 x28_2 = some (r1, r2)) ∧ zb (kq ≤ k) ∧ zb (Below w.heap.size w wc))
 case first =>
  have H := HC3.out
  clear HC3
  by_cases c4 : (l0.length : Int) > 160
  ·rw [if_pos c4] at H
   have c4b0 : decide (160 < (l0.length : Int)) = true := decide_eq_true c4
   have c4b1 : decide (160 < l0.length) = true := decide_eq_true (by omega)
   clear c4
   (first | rw [c4b0] | (simp only [i64_w, i32_w]; rw [c4b0]) | skip)
   have H' := zb.mk H
   clear H
   go_wp2
   go_meet
   case rel => exact ⟨_, (true), (by first | rfl | (simp; done) | (simp [*]; done)), H', ⟨by first | omega | exact Nat.le_refl _⟩, ⟨by repeat with_reducible first | exact HB.out | apply zd | apply za | apply ze⟩⟩
  ·rw [if_neg c4] at H
   have c4b0 : decide (160 < (l0.length : Int)) = false := decide_eq_false c4
   have c4b1 : decide (160 < l0.length) = false := decide_eq_false (by omega)
   clear c4
   (first | rw [c4b0] | (simp only [i64_w, i32_w]; rw [c4b0]) | skip)
   by_cases c5 : a1 < 0
   ·rw [if_pos c5] at H
    have c5b0 : decide (a1 < 0) = true := decide_eq_true c5
    clear c5
    have H' := zb.mk H
    clear H
    go_wp2
    go_meet
    case rel => exact ⟨_, (true), (by first | rfl | (simp; done) | (simp [*]; done)), H', ⟨by first | omega | exact Nat.le_refl _⟩, ⟨by repeat with_reducible first | exact HB.out | apply zd | apply za | apply ze⟩⟩
   ·rw [if_neg c5] at H
    have c5b0 : decide (a1 < 0) = false := decide_eq_false c5
    clear c5
    by_cases c6 : a1 > 1125899906842624
    ·rw [if_pos c6] at H
     have c6b0 : decide (1125899906842624 < a1) = true := decide_eq_true c6
     clear c6
     have H' := zb.mk H
     clear H
     go_wp2
     go_meet
     case rel => exact ⟨_, (true), (by first | rfl | (simp; done) | (simp [*]; done)), H', ⟨by first | omega | exact Nat.le_refl _⟩, ⟨by repeat with_reducible first | exact HB.out | apply zd | apply za | apply ze⟩⟩
    ·rw [if_neg c6] at H
     have c6b0 : decide (1125899906842624 < a1) = false := decide_eq_false c6
     clear c6
     replace H := Option.bind_eq_some_iff.mp H
     obtain ⟨t276, A70, H⟩ := H
     replace H : (unfold_Jobs.j0 k l0 a1 t276) = some (r1, r2) := H
     have A7 := zb.mk A70
     clear A70
     have H' := zb.mk H
     clear H
     go_wp2_with (first | (go_at_call 59; (with_reducible refine (containsTask.calls _ _ l0 t276 _ ?side1 ?side2 A7.out).mono ?_); (case side1 => repeat (first | exact (Kd.zu HR0.out HB.out) | (with_reducible refine Kd.zea ?_ _) | (with_reducible refine Kd.zfa ?_ _) | (with_reducible refine Kd.zia ?_))); (case side2 => exact HC0.out); rintro e w8 ⟨rfl, hb⟩; have n0_ := zb.mk (zo (by repeat with_reducible first | exact HB.out | apply zd | apply za | apply ze) hb); clear HB; have HB := n0_; clear n0_; (try clear hb)))
     go_meet
     case rel => exact ⟨_, (t276), (by first | rfl | (simp; done) | (simp [*]; done)), H', ⟨by first | omega | exact Nat.le_refl _⟩, ⟨by repeat with_reducible first | exact HB.out | apply zd | apply za | apply ze⟩⟩
 case rest =>
  clear HC3
  try clear p2
  try clear c3
  try clear c4
  try clear c4b0
  try clear c4b1
  try clear c5
  try clear c5b0
  try clear c6
  try clear c6b0
  obtain ⟨kq, x28_2, rfl, HA, HJ2, HB⟩ := hcut
  cases kq with
  | zero => exact absurd HA.out (by simp [unfold_Jobs.j0])
  | succ kj2 =>
   have H := HA.out
   clear HA
   simp only [unfold_Jobs.j0] at H
   by_cases c9 : x28_2 = true
   ·subst c9
    have H1 : (some (([] : List (S56)), 2)) = some (r1, r2) := by rw [if_pos rfl] at H; exact H
    clear H
    have H := H1
    clear H1
    simp only [Option.some.injEq, Prod.mk.injEq] at H
    obtain ⟨rfl, rfl⟩ := H
    go_wp2
    go_ret2
    exact ⟨_, by first | rfl | (simp [zp, zq] <;> rfl) | (simp [*, zp, zq] <;> rfl), by first | exact Kd.R_nil _ _ _ _ _ | exact Kd.N_nil _ _ _ _ _ | exact Kd.V_nil _ _ _ _ _ | exact Kd.Q_nil _ _ _ _ _ | exact Kd.S_nil _ _ _ _ _, by repeat with_reducible first | exact HB.out | apply zd | apply za | apply ze⟩
   ·replace c9 := Bool.eq_false_iff.mpr c9
    subst c9
    have H1 : (unfold_Jobs.l0 kj2 l0 a1 0 l0 (l0.length : Int) 0) = some (r1, r2) := by rw [if_neg (show ¬ (false = true) by decide)] at H; exact H
    clear H
    have H := H1
    clear H1
    have H' := zb.mk H
    clear H
    go_wp2
    go_loopg [6, 31] kj2 (fun kq v6 v31 w' => ∃ (x6_2 : Int) (x31_2 : Int), v6 = .int .i64 x6_2 ∧ v31 = .int .i64 x31_2 ∧ zb (unfold_Jobs.l0 kq l0 a1 x6_2 l0 (l0.length : Int) x31_2 = some (r1, r2)) ∧ zb (kq ≤ kj2) ∧ zb (Below w.heap.size w w'))
    case atStart => exact ⟨(0), (0), (by first | rfl | (simp; done) | (simp [*]; done)), (by first | rfl | (simp; done) | (simp [*]; done)), H', ⟨Nat.le_refl _⟩, ⟨by repeat with_reducible first | exact HB.out | apply zd | apply za | apply ze⟩⟩
    case round =>
     clear H'
     try clear p2
     try clear c3
     try clear c4
     try clear c4b0
     try clear c4b1
     try clear c5
     try clear c5b0
     try clear c6
     try clear c6b0
     try clear c9
     try clear p2
     obtain ⟨x6_2, x31_2, rfl, rfl, HA, HK2, HB⟩ := hrel
     cases gk with
     | zero => exact absurd HA.out (by simp [unfold_Jobs.l0])
     | succ k2 =>
      have H := HA.out
      clear HA
      simp only [unfold_Jobs.l0] at H
      by_cases c10 : x31_2 < (l0.length : Int)
      ·rw [if_pos c10] at H
       have c10b0 : decide (x31_2 < (l0.length : Int)) = true := decide_eq_true c10
       clear c10
       by_cases c11 : 0 ≤ x31_2
       ·rw [if_pos c11] at H
        have c11b0 : decide (0 ≤ x31_2) = true := decide_eq_true c11
        clear c11
        by_cases c12 : x31_2 < (l0.length : Int)
        ·rw [if_pos c12] at H
         have c12b0 : decide (x31_2 < (l0.length : Int)) = true := decide_eq_true c12
         clear c12
         replace H := Option.bind_eq_some_iff.mp H
         obtain ⟨t279, A130, H⟩ := H
         replace H : (if (wrap64 (x6_2 + t279)) > 4096 then (some (([] : List (S56)), 4)) else (unfold_Jobs.l0 k2 l0 a1 (wrap64 (x6_2 + t279)) l0 (l0.length : Int) (wrap64 (x31_2 + 1)))) = some (r1, r2) := H
         have A13 := zb.mk A130
         clear A130
         by_cases c14 : (wrap64 (x6_2 + t279)) > 4096
         ·rw [if_pos c14] at H
          have c14b0 : decide (4096 < (wrap64 (x6_2 + t279))) = true := decide_eq_true c14
          clear c14
          simp only [Option.some.injEq, Prod.mk.injEq] at H
          obtain ⟨rfl, rfl⟩ := H
          have p277 : 0 ≤ (x31_2 : Int) := of_decide_eq_true (by first | (with_reducible assumption) | assumption)
          have q277 : x31_2 < (l0.length : Int) := of_decide_eq_true (by first | (with_reducible assumption) | assumption)
          obtain ⟨ad277, A277_5, c277_5, e277, hx277_0, hx277_1, hx277_2, hx277_3, hx277_4, hx277_5, hx277_6, hl277_5, hi277_5⟩ := zeb HR0.out x31_2 p277 q277
          cases e277
          replace hx277_0 := (HB.out.cell (World.block_lt_of_cell? w _ hx277_0)).trans hx277_0
          replace hx277_1 := (HB.out.cell (World.block_lt_of_cell? w _ hx277_1)).trans hx277_1
          replace hx277_2 := (HB.out.cell (World.block_lt_of_cell? w _ hx277_2)).trans hx277_2
          replace hx277_3 := (HB.out.cell (World.block_lt_of_cell? w _ hx277_3)).trans hx277_3
          replace hx277_4 := (HB.out.cell (World.block_lt_of_cell? w _ hx277_4)).trans hx277_4
          replace hx277_5 := (HB.out.cell (World.block_lt_of_cell? w _ hx277_5)).trans hx277_5
          replace hx277_6 := (HB.out.cell (World.block_lt_of_cell? w _ hx277_6)).trans hx277_6
          have HR277_5 := zb.mk hi277_5
          have HC277_5 := zb.mk hl277_5
          clear hi277_5 hl277_5
          replace p277 := eq_true p277
          replace q277 := eq_true q277
          go_wp2_with (first | ((with_reducible refine zda (N := 8) rfl ?_); refine zaa ?hg (N := 8) ?hd (cs := #[.int .i64 0, .int .i64 0, .int .i64 0, .int .i64 0, .int .i64 0, .slice none 0 0, .int .i64 0]) (t := 78) ?hr ?_; (case hd => rfl); (case hg => rfl); (case hr => first | (go_simp; done) | (go_simp; rfl)); intro gb278 hg w15 hbox hb; have n0_ := zb.mk (zo (by repeat with_reducible first | exact HB.out | apply zd | apply za | apply ze) hb); have n1_ := zb.mk (hbox); have n2_ := zb.mk ((by rw [hg]; exact (zn (by repeat with_reducible first | exact HB.out | apply zd | apply za | apply ze)) : w.heap.size ≤ gb278)); have n3_ := zb.mk ((by rw [hg]; exact (zn (by repeat with_reducible first | exact HB.out | apply zd | apply za | apply ze)) : w.heap.size ≤ gb278)); clear HB; have HB := n0_; have BK278 := n1_; have GW278 := n2_; have GE278 := n3_; clear n0_ n1_ n2_ n3_; clear hb hbox hg; have hcz16_0 : w15.cell? ⟨gb278, 0, none⟩ = some (.int .i64 0) := (zg BK278.out 0).trans rfl; have hcz16_1 : w15.cell? ⟨gb278, 1, none⟩ = some (.int .i64 0) := (zg BK278.out 1).trans rfl; have hcz16_2 : w15.cell? ⟨gb278, 2, none⟩ = some (.int .i64 0) := (zg BK278.out 2).trans rfl; have hcz16_3 : w15.cell? ⟨gb278, 3, none⟩ = some (.int .i64 0) := (zg BK278.out 3).trans rfl; have hcz16_4 : w15.cell? ⟨gb278, 4, none⟩ = some (.int .i64 0) := (zg BK278.out 4).trans rfl; have hcz16_5 : w15.cell? ⟨gb278, 5, none⟩ = some (.slice none 0 0) := (zg BK278.out 5).trans rfl; have hcz16_6 : w15.cell? ⟨gb278, 6, none⟩ = some (.int .i64 0) := (zg BK278.out 6).trans rfl; have hfz16_0 := zf BK278.out 0; have hfz16_1 := zf BK278.out 1; have hfz16_2 := zf BK278.out 2; have hfz16_3 := zf BK278.out 3; have hfz16_4 := zf BK278.out 4; have hfz16_5 := zf BK278.out 5; have hfz16_6 := zf BK278.out 6) | ((with_reducible refine zt (f := 61) rfl ?_); refine zka (some 39) rfl rfl Tryz.func61 (by kernel_rfl) rfl #[.agg #[.int .i64 ((zj l0 x31_2).f0.f0), .int .i64 ((zj l0 x31_2).f0.f1)], .int .i64 a1] rfl (by (try simp only [List.map_toArray, List.map_cons, List.map_nil]); first | done | rfl | (simp only [List.length_drop, List.length_take]; rfl)) ?_; (with_reducible refine (unfold_below.calls ((zj l0 x31_2).f0.f0) ((zj l0 x31_2).f0.f1) a1 t279 _ A13.out).mono ?_); rintro e w17 ⟨rfl, hb⟩; refine ⟨_, rfl, ?_⟩; have n0_ := zb.mk (zr (g := gb278) (o := .cells #[.int .i64 ((zj l0 x31_2).f0.f0), .int .i64 ((zj l0 x31_2).f0.f1), .int .i64 ((zj l0 x31_2).f1), .int .i64 ((zj l0 x31_2).f2), .int .i64 ((zj l0 x31_2).f3), .slice A277_5 ((zj l0 x31_2).f4).length c277_5, .int .i64 ((zj l0 x31_2).f5)] 78 (0, 0)) (by (with_reducible repeat first | apply zi | apply zl | apply zh); refine zba (cs := #[.int .i64 ((zj l0 x31_2).f0.f0), .int .i64 ((zj l0 x31_2).f0.f1), .int .i64 ((zj l0 x31_2).f1), .int .i64 ((zj l0 x31_2).f2), .int .i64 ((zj l0 x31_2).f3), .slice A277_5 ((zj l0 x31_2).f4).length c277_5, .int .i64 0]) ?_ 6 _ rfl; (with_reducible repeat first | apply zi | apply zl | apply zh); refine zba (cs := #[.int .i64 ((zj l0 x31_2).f0.f0), .int .i64 ((zj l0 x31_2).f0.f1), .int .i64 ((zj l0 x31_2).f1), .int .i64 ((zj l0 x31_2).f2), .int .i64 ((zj l0 x31_2).f3), .slice none 0 0, .int .i64 0]) ?_ 5 _ rfl; (with_reducible repeat first | apply zi | apply zl | apply zh); refine zba (cs := #[.int .i64 ((zj l0 x31_2).f0.f0), .int .i64 ((zj l0 x31_2).f0.f1), .int .i64 ((zj l0 x31_2).f1), .int .i64 ((zj l0 x31_2).f2), .int .i64 0, .slice none 0 0, .int .i64 0]) ?_ 4 _ rfl; (with_reducible repeat first | apply zi | apply zl | apply zh); refine zba (cs := #[.int .i64 ((zj l0 x31_2).f0.f0), .int .i64 ((zj l0 x31_2).f0.f1), .int .i64 ((zj l0 x31_2).f1), .int .i64 0, .int .i64 0, .slice none 0 0, .int .i64 0]) ?_ 3 _ rfl; (with_reducible repeat first | apply zi | apply zl | apply zh); refine zba (cs := #[.int .i64 ((zj l0 x31_2).f0.f0), .int .i64 ((zj l0 x31_2).f0.f1), .int .i64 0, .int .i64 0, .int .i64 0, .slice none 0 0, .int .i64 0]) ?_ 2 _ rfl; (with_reducible repeat first | apply zi | apply zl | apply zh); refine zba (cs := #[.int .i64 ((zj l0 x31_2).f0.f0), .int .i64 0, .int .i64 0, .int .i64 0, .int .i64 0, .slice none 0 0, .int .i64 0]) ?_ 1 _ rfl; (with_reducible repeat first | apply zi | apply zl | apply zh); refine zba (cs := #[.int .i64 0, .int .i64 0, .int .i64 0, .int .i64 0, .int .i64 0, .slice none 0 0, .int .i64 0]) ?_ 0 _ rfl; (with_reducible repeat first | apply zi | apply zl | apply zh); exact BK278.out) hb); have n1_ := zb.mk (zo (by repeat with_reducible first | exact HB.out | apply zd | apply za | apply ze | refine zk ?_ GE278.out) hb); clear BK278; clear HB; have BK278 := n0_; have HB := n1_; clear n0_ n1_; (try clear hb)))
          go_ret2
          exact ⟨_, by first | rfl | (simp [zp, zq] <;> rfl) | (simp [*, zp, zq] <;> rfl), by first | exact Kd.R_nil _ _ _ _ _ | exact Kd.N_nil _ _ _ _ _ | exact Kd.V_nil _ _ _ _ _ | exact Kd.Q_nil _ _ _ _ _ | exact Kd.S_nil _ _ _ _ _, by repeat with_reducible first | exact HB.out | apply zd | apply za | apply ze | refine zk ?_ GE278.out⟩
         ·rw [if_neg c14] at H
          have c14b0 : decide (4096 < (wrap64 (x6_2 + t279))) = false := decide_eq_false c14
          clear c14
          have H' := zb.mk H
          clear H
          have p277 : 0 ≤ (x31_2 : Int) := of_decide_eq_true (by first | (with_reducible assumption) | assumption)
          have q277 : x31_2 < (l0.length : Int) := of_decide_eq_true (by first | (with_reducible assumption) | assumption)
          obtain ⟨ad277, A277_5, c277_5, e277, hx277_0, hx277_1, hx277_2, hx277_3, hx277_4, hx277_5, hx277_6, hl277_5, hi277_5⟩ := zeb HR0.out x31_2 p277 q277
          cases e277
          replace hx277_0 := (HB.out.cell (World.block_lt_of_cell? w _ hx277_0)).trans hx277_0
          replace hx277_1 := (HB.out.cell (World.block_lt_of_cell? w _ hx277_1)).trans hx277_1
          replace hx277_2 := (HB.out.cell (World.block_lt_of_cell? w _ hx277_2)).trans hx277_2
          replace hx277_3 := (HB.out.cell (World.block_lt_of_cell? w _ hx277_3)).trans hx277_3
          replace hx277_4 := (HB.out.cell (World.block_lt_of_cell? w _ hx277_4)).trans hx277_4
          replace hx277_5 := (HB.out.cell (World.block_lt_of_cell? w _ hx277_5)).trans hx277_5
          replace hx277_6 := (HB.out.cell (World.block_lt_of_cell? w _ hx277_6)).trans hx277_6
          have HR277_5 := zb.mk hi277_5
          have HC277_5 := zb.mk hl277_5
          clear hi277_5 hl277_5
          replace p277 := eq_true p277
          replace q277 := eq_true q277
          go_wp2_with (first | ((with_reducible refine zda (N := 8) rfl ?_); refine zaa ?hg (N := 8) ?hd (cs := #[.int .i64 0, .int .i64 0, .int .i64 0, .int .i64 0, .int .i64 0, .slice none 0 0, .int .i64 0]) (t := 78) ?hr ?_; (case hd => rfl); (case hg => rfl); (case hr => first | (go_simp; done) | (go_simp; rfl)); intro gb278 hg w18 hbox hb; have n0_ := zb.mk (zo (by repeat with_reducible first | exact HB.out | apply zd | apply za | apply ze) hb); have n1_ := zb.mk (hbox); have n2_ := zb.mk ((by rw [hg]; exact (zn (by repeat with_reducible first | exact HB.out | apply zd | apply za | apply ze)) : w.heap.size ≤ gb278)); have n3_ := zb.mk ((by rw [hg]; exact (zn (by repeat with_reducible first | exact HB.out | apply zd | apply za | apply ze)) : w.heap.size ≤ gb278)); clear HB; have HB := n0_; have BK278 := n1_; have GW278 := n2_; have GE278 := n3_; clear n0_ n1_ n2_ n3_; clear hb hbox hg; have hcz19_0 : w18.cell? ⟨gb278, 0, none⟩ = some (.int .i64 0) := (zg BK278.out 0).trans rfl; have hcz19_1 : w18.cell? ⟨gb278, 1, none⟩ = some (.int .i64 0) := (zg BK278.out 1).trans rfl; have hcz19_2 : w18.cell? ⟨gb278, 2, none⟩ = some (.int .i64 0) := (zg BK278.out 2).trans rfl; have hcz19_3 : w18.cell? ⟨gb278, 3, none⟩ = some (.int .i64 0) := (zg BK278.out 3).trans rfl; have hcz19_4 : w18.cell? ⟨gb278, 4, none⟩ = some (.int .i64 0) := (zg BK278.out 4).trans rfl; have hcz19_5 : w18.cell? ⟨gb278, 5, none⟩ = some (.slice none 0 0) := (zg BK278.out 5).trans rfl; have hcz19_6 : w18.cell? ⟨gb278, 6, none⟩ = some (.int .i64 0) := (zg BK278.out 6).trans rfl; have hfz19_0 := zf BK278.out 0; have hfz19_1 := zf BK278.out 1; have hfz19_2 := zf BK278.out 2; have hfz19_3 := zf BK278.out 3; have hfz19_4 := zf BK278.out 4; have hfz19_5 := zf BK278.out 5; have hfz19_6 := zf BK278.out 6) | ((with_reducible refine zt (f := 61) rfl ?_); refine zka (some 39) rfl rfl Tryz.func61 (by kernel_rfl) rfl #[.agg #[.int .i64 ((zj l0 x31_2).f0.f0), .int .i64 ((zj l0 x31_2).f0.f1)], .int .i64 a1] rfl (by (try simp only [List.map_toArray, List.map_cons, List.map_nil]); first | done | rfl | (simp only [List.length_drop, List.length_take]; rfl)) ?_; (with_reducible refine (unfold_below.calls ((zj l0 x31_2).f0.f0) ((zj l0 x31_2).f0.f1) a1 t279 _ A13.out).mono ?_); rintro e w20 ⟨rfl, hb⟩; refine ⟨_, rfl, ?_⟩; have n0_ := zb.mk (zr (g := gb278) (o := .cells #[.int .i64 ((zj l0 x31_2).f0.f0), .int .i64 ((zj l0 x31_2).f0.f1), .int .i64 ((zj l0 x31_2).f1), .int .i64 ((zj l0 x31_2).f2), .int .i64 ((zj l0 x31_2).f3), .slice A277_5 ((zj l0 x31_2).f4).length c277_5, .int .i64 ((zj l0 x31_2).f5)] 78 (0, 0)) (by (with_reducible repeat first | apply zi | apply zl | apply zh); refine zba (cs := #[.int .i64 ((zj l0 x31_2).f0.f0), .int .i64 ((zj l0 x31_2).f0.f1), .int .i64 ((zj l0 x31_2).f1), .int .i64 ((zj l0 x31_2).f2), .int .i64 ((zj l0 x31_2).f3), .slice A277_5 ((zj l0 x31_2).f4).length c277_5, .int .i64 0]) ?_ 6 _ rfl; (with_reducible repeat first | apply zi | apply zl | apply zh); refine zba (cs := #[.int .i64 ((zj l0 x31_2).f0.f0), .int .i64 ((zj l0 x31_2).f0.f1), .int .i64 ((zj l0 x31_2).f1), .int .i64 ((zj l0 x31_2).f2), .int .i64 ((zj l0 x31_2).f3), .slice none 0 0, .int .i64 0]) ?_ 5 _ rfl; (with_reducible repeat first | apply zi | apply zl | apply zh); refine zba (cs := #[.int .i64 ((zj l0 x31_2).f0.f0), .int .i64 ((zj l0 x31_2).f0.f1), .int .i64 ((zj l0 x31_2).f1), .int .i64 ((zj l0 x31_2).f2), .int .i64 0, .slice none 0 0, .int .i64 0]) ?_ 4 _ rfl; (with_reducible repeat first | apply zi | apply zl | apply zh); refine zba (cs := #[.int .i64 ((zj l0 x31_2).f0.f0), .int .i64 ((zj l0 x31_2).f0.f1), .int .i64 ((zj l0 x31_2).f1), .int .i64 0, .int .i64 0, .slice none 0 0, .int .i64 0]) ?_ 3 _ rfl; (with_reducible repeat first | apply zi | apply zl | apply zh); refine zba (cs := #[.int .i64 ((zj l0 x31_2).f0.f0), .int .i64 ((zj l0 x31_2).f0.f1), .int .i64 0, .int .i64 0, .int .i64 0, .slice none 0 0, .int .i64 0]) ?_ 2 _ rfl; (with_reducible repeat first | apply zi | apply zl | apply zh); refine zba (cs := #[.int .i64 ((zj l0 x31_2).f0.f0), .int .i64 0, .int .i64 0, .int .i64 0, .int .i64 0, .slice none 0 0, .int .i64 0]) ?_ 1 _ rfl; (with_reducible repeat first | apply zi | apply zl | apply zh); refine zba (cs := #[.int .i64 0, .int .i64 0, .int .i64 0, .int .i64 0, .int .i64 0, .slice none 0 0, .int .i64 0]) ?_ 0 _ rfl; (with_reducible repeat first | apply zi | apply zl | apply zh); exact BK278.out) hb); have n1_ := zb.mk (zo (by repeat with_reducible first | exact HB.out | apply zd | apply za | apply ze | refine zk ?_ GE278.out) hb); clear BK278; clear HB; have BK278 := n0_; have HB := n1_; clear n0_ n1_; (try clear hb)))
          go_roundg k2
          case measure => have := HJ2.out; have := HK2.out; omega
          case rel => exact ⟨(wrap64 (x6_2 + t279)), (wrap64 (x31_2 + 1)), (by first | rfl | (simp; done) | (simp [*]; done)), (by first | rfl | (simp; done) | (simp [*]; done)), H', ⟨by have := HJ2.out; have := HK2.out; omega⟩, ⟨by repeat with_reducible first | exact HB.out | apply zd | apply za | apply ze | refine zk ?_ GE278.out⟩⟩
        ·rw [if_neg c12] at H
         exact absurd H (by simp)
       ·rw [if_neg c11] at H
        exact absurd H (by simp)
      ·rw [if_neg c10] at H
       have c10b0 : decide (x31_2 < (l0.length : Int)) = false := decide_eq_false c10
       clear c10
       have H' := zb.mk H
       clear H
       go_wp2
       go_loopg [9, 46] k2 (fun kq v9 v46 w' => ∃ (x9_3 : List (S56)) (x46_3 : Int), v46 = .int .i64 x46_3 ∧ zb (unfold_Jobs.l1 kq a1 x9_3 l0 (l0.length : Int) x46_3 = some (r1, r2)) ∧ zb (kq ≤ k2) ∧ zb (Kd.R k56 56 w' w.heap.size (fun _ => True) v9 x9_3) ∧ zb (Below w.heap.size w w'))
       case atStart => exact ⟨(([] : List (S56))), (0), (by first | rfl | (simp; done) | (simp [*]; done)), H', ⟨Nat.le_refl _⟩, ⟨by first | exact Kd.R_nil _ _ _ _ _ | exact Kd.N_nil _ _ _ _ _ | exact Kd.V_nil _ _ _ _ _ | exact Kd.Q_nil _ _ _ _ _ | exact Kd.S_nil _ _ _ _ _⟩, ⟨by repeat with_reducible first | exact HB.out | apply zd | apply za | apply ze⟩⟩
       case round =>
        clear H'
        try clear c1
        try clear c2
        try clear p2
        try clear q2
        try clear hx2
        try clear c3
        try clear c4
        try clear c4b0
        try clear c4b1
        try clear c5
        try clear c5b0
        try clear c6
        try clear c6b0
        try clear p6
        try clear c9
        try clear c10
        try clear c10b0
        try clear c11
        try clear c11b0
        try clear c12
        try clear c12b0
        try clear c14
        try clear c14b0
        try clear hcz16_0
        try clear hcz16_1
        try clear hcz16_2
        try clear hcz16_3
        try clear hcz16_4
        try clear hcz16_5
        try clear hcz16_6
        try clear hcz19_0
        try clear hcz19_1
        try clear hcz19_2
        try clear hcz19_3
        try clear hcz19_4
        try clear hcz19_5
        try clear hcz19_6
        try clear hfz16_0
        try clear hfz16_1
        try clear hfz16_2
        try clear hfz16_3
        try clear hfz16_4
        try clear hfz16_5
        try clear hfz16_6
        try clear hfz19_0
        try clear hfz19_1
        try clear hfz19_2
        try clear hfz19_3
        try clear hfz19_4
        try clear hfz19_5
        try clear hfz19_6
        try clear hx277_0
        try clear hx277_1
        try clear hx277_2
        try clear hx277_3
        try clear hx277_4
        try clear hx277_5
        try clear hx277_6
        try clear p2
        try clear p277
        try clear q277
        obtain ⟨x9_3, x46_3, rfl, HA, HK3, HO_9, HB⟩ := hrel
        cases gk with
        | zero => exact absurd HA.out (by simp [unfold_Jobs.l1])
        | succ k3 =>
         have H := HA.out
         clear HA
         simp only [unfold_Jobs.l1] at H
         by_cases c21 : x46_3 < (l0.length : Int)
         ·rw [if_pos c21] at H
          have c21b0 : decide (x46_3 < (l0.length : Int)) = true := decide_eq_true c21
          clear c21
          by_cases c22 : 0 ≤ x46_3
          ·rw [if_pos c22] at H
           have c22b0 : decide (0 ≤ x46_3) = true := decide_eq_true c22
           clear c22
           by_cases c23 : x46_3 < (l0.length : Int)
           ·rw [if_pos c23] at H
            have c23b0 : decide (x46_3 < (l0.length : Int)) = true := decide_eq_true c23
            clear c23
            replace H := Option.bind_eq_some_iff.mp H
            obtain ⟨t283, A240, H⟩ := H
            replace H : (unfold_Jobs.l2 k3 a1 x9_3 x46_3 l0 (l0.length : Int) x46_3 t283 0 ((zj l0 x46_3).f0.f0) ((zj l0 x46_3).f0.f1) ((zj l0 x46_3).f1) ((zj l0 x46_3).f2) ((zj l0 x46_3).f3) ((zj l0 x46_3).f4) ((zj l0 x46_3).f5)) = some (r1, r2) := H
            have A24 := zb.mk A240
            clear A240
            have H' := zb.mk H
            clear H
            have p281 : 0 ≤ (x46_3 : Int) := of_decide_eq_true (by first | (with_reducible assumption) | assumption)
            have q281 : x46_3 < (l0.length : Int) := of_decide_eq_true (by first | (with_reducible assumption) | assumption)
            obtain ⟨ad281, A281_5, c281_5, e281, hx281_0, hx281_1, hx281_2, hx281_3, hx281_4, hx281_5, hx281_6, hl281_5, hi281_5⟩ := zeb HR0.out x46_3 p281 q281
            cases e281
            replace hx281_0 := (HB.out.cell (World.block_lt_of_cell? w _ hx281_0)).trans hx281_0
            replace hx281_1 := (HB.out.cell (World.block_lt_of_cell? w _ hx281_1)).trans hx281_1
            replace hx281_2 := (HB.out.cell (World.block_lt_of_cell? w _ hx281_2)).trans hx281_2
            replace hx281_3 := (HB.out.cell (World.block_lt_of_cell? w _ hx281_3)).trans hx281_3
            replace hx281_4 := (HB.out.cell (World.block_lt_of_cell? w _ hx281_4)).trans hx281_4
            replace hx281_5 := (HB.out.cell (World.block_lt_of_cell? w _ hx281_5)).trans hx281_5
            replace hx281_6 := (HB.out.cell (World.block_lt_of_cell? w _ hx281_6)).trans hx281_6
            have HR281_5 := zb.mk hi281_5
            have HC281_5 := zb.mk hl281_5
            clear hi281_5 hl281_5
            replace p281 := eq_true p281
            replace q281 := eq_true q281
            go_wp2_with (first | ((with_reducible refine zda (N := 11) rfl ?_); refine zaa ?hg (N := 11) ?hd (cs := #[.int .i64 0, .int .i64 0, .int .i64 0, .int .i64 0, .int .i64 0, .slice none 0 0, .int .i64 0]) (t := 78) ?hr ?_; (case hd => rfl); (case hg => rfl); (case hr => first | (go_simp; done) | (go_simp; rfl)); intro gb282 hg w25 hbox hb; have n0_ := zb.mk (Kd.zga (by (with_reducible repeat (first | apply Kd.zv | apply Kd.zx | apply Kd.zz)); exact HO_9.out) hb); have n1_ := zb.mk (zo (by repeat with_reducible first | exact HB.out | apply zd | apply za | apply ze) hb); have n2_ := zb.mk (hbox); have n3_ := zb.mk ((by rw [hg]; exact (zn (by repeat with_reducible first | exact HB.out | apply zd | apply za | apply ze)) : w.heap.size ≤ gb282)); have n4_ := zb.mk ((by rw [hg]; exact (zn (by repeat with_reducible first | exact HB.out | apply zd | apply za | apply ze)) : w.heap.size ≤ gb282)); clear HO_9; clear HB; have HO_9 := n0_; have HB := n1_; have BK282 := n2_; have GW282 := n3_; have GE282 := n4_; clear n0_ n1_ n2_ n3_ n4_; clear hb hbox hg; have hcz26_0 : w25.cell? ⟨gb282, 0, none⟩ = some (.int .i64 0) := (zg BK282.out 0).trans rfl; have hcz26_1 : w25.cell? ⟨gb282, 1, none⟩ = some (.int .i64 0) := (zg BK282.out 1).trans rfl; have hcz26_2 : w25.cell? ⟨gb282, 2, none⟩ = some (.int .i64 0) := (zg BK282.out 2).trans rfl; have hcz26_3 : w25.cell? ⟨gb282, 3, none⟩ = some (.int .i64 0) := (zg BK282.out 3).trans rfl; have hcz26_4 : w25.cell? ⟨gb282, 4, none⟩ = some (.int .i64 0) := (zg BK282.out 4).trans rfl; have hcz26_5 : w25.cell? ⟨gb282, 5, none⟩ = some (.slice none 0 0) := (zg BK282.out 5).trans rfl; have hcz26_6 : w25.cell? ⟨gb282, 6, none⟩ = some (.int .i64 0) := (zg BK282.out 6).trans rfl; have hfz26_0 := zf BK282.out 0; have hfz26_1 := zf BK282.out 1; have hfz26_2 := zf BK282.out 2; have hfz26_3 := zf BK282.out 3; have hfz26_4 := zf BK282.out 4; have hfz26_5 := zf BK282.out 5; have hfz26_6 := zf BK282.out 6) | ((with_reducible refine zt (f := 61) rfl ?_); refine zka (some 54) rfl rfl Tryz.func61 (by kernel_rfl) rfl #[.agg #[.int .i64 ((zj l0 x46_3).f0.f0), .int .i64 ((zj l0 x46_3).f0.f1)], .int .i64 a1] rfl (by (try simp only [List.map_toArray, List.map_cons, List.map_nil]); first | done | rfl | (simp only [List.length_drop, List.length_take]; rfl)) ?_; (with_reducible refine (unfold_below.calls ((zj l0 x46_3).f0.f0) ((zj l0 x46_3).f0.f1) a1 t283 _ A24.out).mono ?_); rintro e w27 ⟨rfl, hb⟩; refine ⟨_, rfl, ?_⟩; have n0_ := zb.mk (Kd.zga (by (with_reducible repeat (first | apply Kd.zv | apply Kd.zx | apply Kd.zz)); exact (Kd.zra (Kd.R_far (p := ⟨gb282, 6, none⟩) (Kd.R_far (p := ⟨gb282, 5, none⟩) (Kd.R_far (p := ⟨gb282, 4, none⟩) (Kd.R_far (p := ⟨gb282, 3, none⟩) (Kd.R_far (p := ⟨gb282, 2, none⟩) (Kd.R_far (p := ⟨gb282, 1, none⟩) (Kd.R_far (p := ⟨gb282, 0, none⟩) (Kd.zkb HO_9.out BK282.out (by decide)) (fun _ hk => hk.2) (.int .i64 ((zj l0 x46_3).f0.f0))) (fun _ hk => hk.2) (.int .i64 ((zj l0 x46_3).f0.f1))) (fun _ hk => hk.2) (.int .i64 ((zj l0 x46_3).f1))) (fun _ hk => hk.2) (.int .i64 ((zj l0 x46_3).f2))) (fun _ hk => hk.2) (.int .i64 ((zj l0 x46_3).f3))) (fun _ hk => hk.2) (.slice A281_5 ((zj l0 x46_3).f4).length c281_5)) (fun _ hk => hk.2) (.int .i64 ((zj l0 x46_3).f5))) (fun _ h_ => h_.1))) hb); have n1_ := zb.mk (zr (g := gb282) (o := .cells #[.int .i64 ((zj l0 x46_3).f0.f0), .int .i64 ((zj l0 x46_3).f0.f1), .int .i64 ((zj l0 x46_3).f1), .int .i64 ((zj l0 x46_3).f2), .int .i64 ((zj l0 x46_3).f3), .slice A281_5 ((zj l0 x46_3).f4).length c281_5, .int .i64 ((zj l0 x46_3).f5)] 78 (0, 0)) (by (with_reducible repeat first | apply zi | apply zl | apply zh); refine zba (cs := #[.int .i64 ((zj l0 x46_3).f0.f0), .int .i64 ((zj l0 x46_3).f0.f1), .int .i64 ((zj l0 x46_3).f1), .int .i64 ((zj l0 x46_3).f2), .int .i64 ((zj l0 x46_3).f3), .slice A281_5 ((zj l0 x46_3).f4).length c281_5, .int .i64 0]) ?_ 6 _ rfl; (with_reducible repeat first | apply zi | apply zl | apply zh); refine zba (cs := #[.int .i64 ((zj l0 x46_3).f0.f0), .int .i64 ((zj l0 x46_3).f0.f1), .int .i64 ((zj l0 x46_3).f1), .int .i64 ((zj l0 x46_3).f2), .int .i64 ((zj l0 x46_3).f3), .slice none 0 0, .int .i64 0]) ?_ 5 _ rfl; (with_reducible repeat first | apply zi | apply zl | apply zh); refine zba (cs := #[.int .i64 ((zj l0 x46_3).f0.f0), .int .i64 ((zj l0 x46_3).f0.f1), .int .i64 ((zj l0 x46_3).f1), .int .i64 ((zj l0 x46_3).f2), .int .i64 0, .slice none 0 0, .int .i64 0]) ?_ 4 _ rfl; (with_reducible repeat first | apply zi | apply zl | apply zh); refine zba (cs := #[.int .i64 ((zj l0 x46_3).f0.f0), .int .i64 ((zj l0 x46_3).f0.f1), .int .i64 ((zj l0 x46_3).f1), .int .i64 0, .int .i64 0, .slice none 0 0, .int .i64 0]) ?_ 3 _ rfl; (with_reducible repeat first | apply zi | apply zl | apply zh); refine zba (cs := #[.int .i64 ((zj l0 x46_3).f0.f0), .int .i64 ((zj l0 x46_3).f0.f1), .int .i64 0, .int .i64 0, .int .i64 0, .slice none 0 0, .int .i64 0]) ?_ 2 _ rfl; (with_reducible repeat first | apply zi | apply zl | apply zh); refine zba (cs := #[.int .i64 ((zj l0 x46_3).f0.f0), .int .i64 0, .int .i64 0, .int .i64 0, .int .i64 0, .slice none 0 0, .int .i64 0]) ?_ 1 _ rfl; (with_reducible repeat first | apply zi | apply zl | apply zh); refine zba (cs := #[.int .i64 0, .int .i64 0, .int .i64 0, .int .i64 0, .int .i64 0, .slice none 0 0, .int .i64 0]) ?_ 0 _ rfl; (with_reducible repeat first | apply zi | apply zl | apply zh); exact BK282.out) hb); have n2_ := zb.mk (zo (by repeat with_reducible first | exact HB.out | apply zd | apply za | apply ze | refine zk ?_ GE282.out) hb); clear HO_9; clear BK282; clear HB; have HO_9 := n0_; have BK282 := n1_; have HB := n2_; clear n0_ n1_ n2_; (try clear hb)))
            go_loopg [9, 55] k3 (fun kq v9 v55 w' => ∃ (x9_4 : List (S56)) (x55_4 : Int), v55 = .int .i64 x55_4 ∧ zb (unfold_Jobs.l2 kq a1 x9_4 x46_3 l0 (l0.length : Int) x46_3 t283 x55_4 ((zj l0 x46_3).f0.f0) ((zj l0 x46_3).f0.f1) ((zj l0 x46_3).f1) ((zj l0 x46_3).f2) ((zj l0 x46_3).f3) ((zj l0 x46_3).f4) ((zj l0 x46_3).f5) = some (r1, r2)) ∧ zb (kq ≤ k3) ∧ zb (Kd.R k56 56 w' w.heap.size (fun _ => True) v9 x9_4) ∧ zb (w'.heap[gb282]? = some (.cells #[.int .i64 ((zj l0 x46_3).f0.f0), .int .i64 ((zj l0 x46_3).f0.f1), .int .i64 ((zj l0 x46_3).f1), .int .i64 ((zj l0 x46_3).f2), .int .i64 ((zj l0 x46_3).f3), (.slice A281_5 ((zj l0 x46_3).f4).length c281_5), .int .i64 ((zj l0 x46_3).f5)] 78 (0, 0))) ∧ zb (Below w.heap.size w w'))
            case atStart => exact ⟨(x9_3), (0), (by first | rfl | (simp; done) | (simp [*]; done)), H', ⟨Nat.le_refl _⟩, ⟨by (with_reducible repeat (first | apply Kd.zv | apply Kd.zx | apply Kd.zz)); exact HO_9.out⟩, ⟨by (with_reducible repeat first | apply zi | apply zl | apply zh); exact BK282.out⟩, ⟨by repeat with_reducible first | exact HB.out | apply zd | apply za | apply ze | refine zk ?_ GE282.out⟩⟩
            case round =>
             clear H'
             try clear c1
             try clear c2
             try clear p2
             try clear q2
             try clear hx2
             try clear c3
             try clear c4
             try clear c4b0
             try clear c4b1
             try clear c5
             try clear c5b0
             try clear c6
             try clear c6b0
             try clear p6
             try clear c9
             try clear c10
             try clear c10b0
             try clear c11
             try clear c11b0
             try clear c12
             try clear c12b0
             try clear c14
             try clear c14b0
             try clear c21
             try clear c21b0
             try clear c22
             try clear c22b0
             try clear c23
             try clear c23b0
             try clear c27
             try clear p27
             try clear q27
             try clear hx27
             try clear hcz16_0
             try clear hcz16_1
             try clear hcz16_2
             try clear hcz16_3
             try clear hcz16_4
             try clear hcz16_5
             try clear hcz16_6
             try clear hcz19_0
             try clear hcz19_1
             try clear hcz19_2
             try clear hcz19_3
             try clear hcz19_4
             try clear hcz19_5
             try clear hcz19_6
             try clear hcz26_0
             try clear hcz26_1
             try clear hcz26_2
             try clear hcz26_3
             try clear hcz26_4
             try clear hcz26_5
             try clear hcz26_6
             try clear hfz16_0
             try clear hfz16_1
             try clear hfz16_2
             try clear hfz16_3
             try clear hfz16_4
             try clear hfz16_5
             try clear hfz16_6
             try clear hfz19_0
             try clear hfz19_1
             try clear hfz19_2
             try clear hfz19_3
             try clear hfz19_4
             try clear hfz19_5
             try clear hfz19_6
             try clear hfz26_0
             try clear hfz26_1
             try clear hfz26_2
             try clear hfz26_3
             try clear hfz26_4
             try clear hfz26_5
             try clear hfz26_6
             try clear hx277_0
             try clear hx277_1
             try clear hx277_2
             try clear hx277_3
             try clear hx277_4
             try clear hx277_5
             try clear hx277_6
             try clear hx281_0
             try clear hx281_1
             try clear hx281_2
             try clear hx281_3
             try clear hx281_4
             try clear hx281_5
             try clear hx281_6
             try clear p2
             try clear p277
             try clear p281
             try clear p6
             try clear q2
             try clear q277
             try clear q281
             obtain ⟨x9_4, x55_4, rfl, HA, HK4, HO_9, BK282, HB⟩ := hrel
             cases gk with
             | zero => exact absurd HA.out (by simp [unfold_Jobs.l2])
             | succ k4 =>
              have H := HA.out
              clear HA
              simp only [unfold_Jobs.l2] at H
              by_cases c28 : x55_4 < t283
              ·rw [if_pos c28] at H
               have c28b0 : decide (x55_4 < t283) = true := decide_eq_true c28
               clear c28
               replace H := Option.bind_eq_some_iff.mp H
               obtain ⟨t284, A290, H⟩ := H
               replace H : (if x9_4.length < 4398046511104 then (unfold_Jobs.l2 k4 a1 (x9_4 ++ [(⟨x46_3, x55_4, t284, wrap64 (t284 + ((zj l0 x46_3).f1))⟩ : S56)]) x46_3 l0 (l0.length : Int) x46_3 t283 (wrap64 (x55_4 + 1)) ((zj l0 x46_3).f0.f0) ((zj l0 x46_3).f0.f1) ((zj l0 x46_3).f1) ((zj l0 x46_3).f2) ((zj l0 x46_3).f3) ((zj l0 x46_3).f4) ((zj l0 x46_3).f5)) else (none)) = some (r1, r2) := H
               have A29 := zb.mk A290
               clear A290
               by_cases c30 : x9_4.length < 4398046511104
               ·rw [if_pos c30] at H
                have LMc30 := zb.mk c30
                clear c30
                obtain ⟨y285, hy285⟩ : ∃ y_ : List (S56), y_ = (x9_4 ++ [(⟨x46_3, x55_4, t284, wrap64 (t284 + ((zj l0 x46_3).f1))⟩ : S56)]) := ⟨_, rfl⟩
                replace H : (unfold_Jobs.l2 k4 a1 y285 x46_3 l0 (l0.length : Int) x46_3 t283 (wrap64 (x55_4 + 1)) ((zj l0 x46_3).f0.f0) ((zj l0 x46_3).f0.f1) ((zj l0 x46_3).f1) ((zj l0 x46_3).f2) ((zj l0 x46_3).f3) ((zj l0 x46_3).f4) ((zj l0 x46_3).f5)) = some (r1, r2) := by first | (rw [hy285]; with_reducible exact H) | (have H2_ := (Option.bind_some _ _).symm.trans H; rw [hy285]; with_reducible exact H2_) | (have H2_ := (Option.bind_some _ _).symm.trans H; with_reducible exact H2_) | with_reducible exact H | (rw [hy285]; exact H) | exact H
                have Ny285 := zb.mk hy285
                clear hy285
                have H' := zb.mk H
                clear H
                have hcz31_0 : wr.cell? ⟨gb282, 0, none⟩ = some (.int .i64 ((zj l0 x46_3).f0.f0)) := (zg BK282.out 0).trans rfl
                have hcz31_1 : wr.cell? ⟨gb282, 1, none⟩ = some (.int .i64 ((zj l0 x46_3).f0.f1)) := (zg BK282.out 1).trans rfl
                have hcz31_2 : wr.cell? ⟨gb282, 2, none⟩ = some (.int .i64 ((zj l0 x46_3).f1)) := (zg BK282.out 2).trans rfl
                have hcz31_3 : wr.cell? ⟨gb282, 3, none⟩ = some (.int .i64 ((zj l0 x46_3).f2)) := (zg BK282.out 3).trans rfl
                have hcz31_4 : wr.cell? ⟨gb282, 4, none⟩ = some (.int .i64 ((zj l0 x46_3).f3)) := (zg BK282.out 4).trans rfl
                have hcz31_5 : wr.cell? ⟨gb282, 5, none⟩ = some (.slice A281_5 ((zj l0 x46_3).f4).length c281_5) := (zg BK282.out 5).trans rfl
                have hcz31_6 : wr.cell? ⟨gb282, 6, none⟩ = some (.int .i64 ((zj l0 x46_3).f5)) := (zg BK282.out 6).trans rfl
                have hfz31_0 := zf BK282.out 0
                have hfz31_1 := zf BK282.out 1
                have hfz31_2 := zf BK282.out 2
                have hfz31_3 := zf BK282.out 3
                have hfz31_4 := zf BK282.out 4
                have hfz31_5 := zf BK282.out 5
                have hfz31_6 := zf BK282.out 6
                go_wp2_with (first | ((with_reducible refine zt (f := 56) rfl ?_); refine zka (some 61) rfl rfl Tryz.func56 (by kernel_rfl) rfl #[.agg #[.int .i64 ((zj l0 x46_3).f0.f0), .int .i64 ((zj l0 x46_3).f0.f1)], .int .i64 x55_4] rfl (by (try simp only [List.map_toArray, List.map_cons, List.map_nil]); first | done | rfl | (simp only [List.length_drop, List.length_take]; rfl)) ?_; (with_reducible refine (unfold_date.calls ((zj l0 x46_3).f0.f0) ((zj l0 x46_3).f0.f1) x55_4 t284 _ A29.out).mono ?_); rintro e w32 ⟨rfl, hb⟩; refine ⟨_, rfl, ?_⟩; have n0_ := zb.mk (Kd.zga (by (with_reducible repeat (first | apply Kd.zv | apply Kd.zx | apply Kd.zz)); exact HO_9.out) hb); have n1_ := zb.mk (zr (g := gb282) (o := .cells #[.int .i64 ((zj l0 x46_3).f0.f0), .int .i64 ((zj l0 x46_3).f0.f1), .int .i64 ((zj l0 x46_3).f1), .int .i64 ((zj l0 x46_3).f2), .int .i64 ((zj l0 x46_3).f3), .slice A281_5 ((zj l0 x46_3).f4).length c281_5, .int .i64 ((zj l0 x46_3).f5)] 78 (0, 0)) (by (with_reducible repeat first | apply zi | apply zl | apply zh); exact BK282.out) hb); have n2_ := zb.mk (zo (by repeat with_reducible first | exact HB.out | apply zd | apply za | apply ze | refine zk ?_ GE282.out) hb); clear HO_9; clear BK282; clear HB; have HO_9 := n0_; have BK282 := n1_; have HB := n2_; clear n0_ n1_ n2_; (try clear hb); have hcz33_0 : w32.cell? ⟨gb282, 0, none⟩ = some (.int .i64 ((zj l0 x46_3).f0.f0)) := (zg BK282.out 0).trans rfl; have hcz33_1 : w32.cell? ⟨gb282, 1, none⟩ = some (.int .i64 ((zj l0 x46_3).f0.f1)) := (zg BK282.out 1).trans rfl; have hcz33_2 : w32.cell? ⟨gb282, 2, none⟩ = some (.int .i64 ((zj l0 x46_3).f1)) := (zg BK282.out 2).trans rfl; have hcz33_3 : w32.cell? ⟨gb282, 3, none⟩ = some (.int .i64 ((zj l0 x46_3).f2)) := (zg BK282.out 3).trans rfl; have hcz33_4 : w32.cell? ⟨gb282, 4, none⟩ = some (.int .i64 ((zj l0 x46_3).f3)) := (zg BK282.out 4).trans rfl; have hcz33_5 : w32.cell? ⟨gb282, 5, none⟩ = some (.slice A281_5 ((zj l0 x46_3).f4).length c281_5) := (zg BK282.out 5).trans rfl; have hcz33_6 : w32.cell? ⟨gb282, 6, none⟩ = some (.int .i64 ((zj l0 x46_3).f5)) := (zg BK282.out 6).trans rfl; have hfz33_0 := zf BK282.out 0; have hfz33_1 := zf BK282.out 1; have hfz33_2 := zf BK282.out 2; have hfz33_3 := zf BK282.out 3; have hfz33_4 := zf BK282.out 4; have hfz33_5 := zf BK282.out 5; have hfz33_6 := zf BK282.out 6) | ((with_reducible refine gate_builtin (b := .append) (xs := #[.tmp 62, .tmp 71]) rfl ?_); at_builtin; refine Kd.R_append k56 (w0 := w) w.heap.size rfl (.tmp 62) (.tmp 71) 52 56 (.agg #[(.int .i64 0), (.int .i64 0), (.int .i64 0), (.int .i64 0)]) 32 rfl Tryz.underlying52 info56 rfl (by decide) (by omega) u9 x9_4 (⟨x46_3, x55_4, t284, wrap64 (t284 + ((zj l0 x46_3).f1))⟩ : S56) [.int .i64 x46_3, .int .i64 x55_4, .int .i64 t284, .int .i64 (wrap64 (t284 + ((zj l0 x46_3).f1)))] (fun _ => True) (fun _ => False) rfl rfl ?aP (fun _ hk => hk.elim) ?aF ?aO ?aB ?aS ?aL ?_; (case aP => exact k56_mkM _ _ _ (⟨x46_3, x55_4, t284, wrap64 (t284 + ((zj l0 x46_3).f1))⟩ : S56)); (case aB => exact (by repeat with_reducible first | exact HB.out | apply zd | apply za | apply ze | refine zk ?_ GE282.out)); (case aF => exact (fun _ _ => trivial)); (case aO => exact (by (with_reducible repeat (first | apply Kd.zv | apply Kd.zx | apply Kd.zz)); exact HO_9.out)); (case aS => exact (zn (by repeat with_reducible first | exact HB.out | apply zd | apply za | apply ze | refine zk ?_ GE282.out))); (case aL => have := LMc30.out; omega); intro v286 w34 ho hb hg hat; rw [← Ny285.out] at ho; have n0_ := zb.mk (zhb (g := gb282) (o := .cells #[.int .i64 ((zj l0 x46_3).f0.f0), .int .i64 ((zj l0 x46_3).f0.f1), .int .i64 ((zj l0 x46_3).f1), .int .i64 ((zj l0 x46_3).f2), .int .i64 ((zj l0 x46_3).f3), .slice A281_5 ((zj l0 x46_3).f4).length c281_5, .int .i64 ((zj l0 x46_3).f5)] 78 (0, 0)) (by (with_reducible repeat first | apply zi | apply zl | apply zh); exact BK282.out) hg (Kd.R_ne HO_9.out BK282.out (by decide))); have n1_ := zb.mk (hb); have n2_ := zb.mk (ho); clear BK282; clear HB; clear HO_9; have BK282 := n0_; have HB := n1_; have HO287 := n2_; clear n0_ n1_ n2_; clear ho hb hg hat))
                go_roundg k4
                case measure => have := HJ2.out; have := HK2.out; have := HK3.out; have := HK4.out; omega
                case rel => exact ⟨(y285), (wrap64 (x55_4 + 1)), (by first | rfl | (simp; done) | (simp [*]; done)), H', ⟨by have := HJ2.out; have := HK2.out; have := HK3.out; have := HK4.out; omega⟩, ⟨by (with_reducible repeat (first | apply Kd.zv | apply Kd.zx | apply Kd.zz)); exact HO287.out⟩, ⟨by (with_reducible repeat first | apply zi | apply zl | apply zh); exact BK282.out⟩, ⟨by repeat with_reducible first | exact HB.out | apply zd | apply za | apply ze | refine zk ?_ GE282.out⟩⟩
               ·rw [if_neg c30] at H
                exact absurd H (by simp)
              ·rw [if_neg c28] at H
               have c28b0 : decide (x55_4 < t283) = false := decide_eq_false c28
               clear c28
               have H' := zb.mk H
               clear H
               go_wp2
               go_roundg k4
               case measure => have := HJ2.out; have := HK2.out; have := HK3.out; have := HK4.out; omega
               case rel => exact ⟨(x9_4), (wrap64 (x46_3 + 1)), (by first | rfl | (simp; done) | (simp [*]; done)), H', ⟨by have := HJ2.out; have := HK2.out; have := HK3.out; have := HK4.out; omega⟩, ⟨by (with_reducible repeat (first | apply Kd.zv | apply Kd.zx | apply Kd.zz)); exact HO_9.out⟩, ⟨by repeat with_reducible first | exact HB.out | apply zd | apply za | apply ze | refine zk ?_ GE282.out⟩⟩
           ·rw [if_neg c23] at H
            exact absurd H (by simp)
          ·rw [if_neg c22] at H
           exact absurd H (by simp)
         ·rw [if_neg c21] at H
          have c21b0 : decide (x46_3 < (l0.length : Int)) = false := decide_eq_false c21
          clear c21
          replace H := Option.bind_eq_some_iff.mp H
          obtain ⟨t280, A350, H⟩ := H
          replace H : (some (t280, 0)) = some (r1, r2) := H
          have A35 := zb.mk A350
          clear A350
          simp only [Option.some.injEq, Prod.mk.injEq] at H
          obtain ⟨rfl, rfl⟩ := H
          obtain ⟨Ao36, co36, eo36⟩ := Kd.zoa HO_9.out
          subst eo36
          go_wp2_with (first | ((with_reducible refine zt (f := 62) rfl ?_); refine zka (some 76) rfl rfl Tryz.func62 (by kernel_rfl) rfl #[.slice Ao36 x9_3.length co36, .func (.func 63) #[] #[]] rfl (by (try simp only [List.map_toArray, List.map_cons, List.map_nil]); first | done | rfl | (simp only [List.length_drop, List.length_take]; rfl)) ?_; (with_reducible refine (sortJobs.calls (fun k_ => some k_ = (.slice Ao36 x9_3.length co36 : Value).ownBlock) (.slice Ao36 x9_3.length co36) x9_3 t280 w _ ?side1 ?side2 A35.out).mono ?_); (case side1 => repeat (first | (with_reducible first | exact HB.out | apply zd | apply za | apply ze) | exact HB.out)); (case side2 => exact Kd.R_tight rfl HO_9.out); rintro e w37 ⟨rfl, hy0, hb, hkp⟩; refine ⟨_, rfl, ?_⟩; have n0_ := zb.mk (Kd.R_reok rfl hy0 (fun k_ e_ => HO_9.out.1 k_ e_)); have n1_ := zb.mk (hb); clear HO_9; clear HB; have HO_9 := n0_; have HB := n1_; clear n0_ n1_; (try clear hb); (try clear hkp); (try clear hy0)))
          go_ret2
          exact ⟨_, by first | rfl | (simp [zp, zq] <;> rfl) | (simp [*, zp, zq] <;> rfl), by (with_reducible repeat (first | apply Kd.zv | apply Kd.zx | apply Kd.zz)); exact HO_9.out, by repeat with_reducible first | exact HB.out | apply zd | apply za | apply ze⟩
end
end Go.Proofs.YtfondhcppjkchaaGreat.Q
