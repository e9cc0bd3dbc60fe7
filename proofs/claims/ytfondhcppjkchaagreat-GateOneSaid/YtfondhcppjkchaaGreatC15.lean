import Derived.Test.YtfondhcppjkchaaGreatC3
import Derived.Test.YtfondhcppjkchaaGreatC7
import Derived.Test.YtfondhcppjkchaaGreatC8
import Derived.Test.YtfondhcppjkchaaGreatC14
import Derived.Test.YtfondhcppjkchaaGreatC10
set_option maxHeartbeats 40000000
set_option maxRecDepth 100000
set_option linter.unusedVariables false
set_option linter.unusedSimpArgs false
namespace Go.Proofs.YtfondhcppjkchaaGreat.Q
noncomputable section
open Go.RowKit Go.Proofs.YtfondhcppjkchaaGreatW.PrintWords Go.Proofs.YtfondhcppjkchaaGreatW.PrintLast Go.Proofs.YtfondhcppjkchaaGreatW.PrintMore
attribute [local go_sem] max2_int min2_int max_two min_two max_three min_three max_four min_four
mutual
def tasks_May.j0 : Nat → List (S78) → List (S68) → Bool → Option (Int)
 | 0, _, _, _ => none
 | k + 1, x0, x1, x24 => if x24 = true then (some 2) else (tasks_May.l0 k x0 x1 x0 (x0.length : Int) 0)
def tasks_May.l0 : Nat → List (S78) → List (S68) → List (S78) → Int → Int → Option (Int)
 | 0, _, _, _, _, _ => none
 | k + 1, x0, x1, x25, x26, x27 => if x27 < x26 then (if 0 ≤ x27 then (if x27 < (x25.length : Int) then ((tasks_mayTask.f k ((zj x25 x27).f0.f0) ((zj x25 x27).f0.f1) ((zj x25 x27).f1) ((zj x25 x27).f2) ((zj x25 x27).f3) ((zj x25 x27).f4) ((zj x25 x27).f5)).bind fun t222 => (if t222 = true then (tasks_May.l0 k x0 x1 x25 x26 (wrap64 (x27 + 1))) else (some 2))) else (none)) else (none)) else (tasks_May.l1 k x0 x1 x0 (x0.length : Int) 0)
def tasks_May.l1 : Nat → List (S78) → List (S68) → List (S78) → Int → Int → Option (Int)
 | 0, _, _, _, _, _ => none
 | k + 1, x0, x1, x35, x36, x37 => if x37 < x36 then (if 0 ≤ x37 then (if x37 < (x35.length : Int) then (tasks_May.l2 k x0 x1 x35 x36 x37 ((zj x35 x37).f4) (((zj x35 x37).f4).length : Int) 0 ((zj x35 x37).f0.f0) ((zj x35 x37).f0.f1) ((zj x35 x37).f1) ((zj x35 x37).f2) ((zj x35 x37).f3) ((zj x35 x37).f4) ((zj x35 x37).f5)) else (none)) else (none)) else (some 0)
def tasks_May.l2 : Nat → List (S78) → List (S68) → List (S78) → Int → Int → List (S75) → Int → Int → Int → Int → Int → Int → Int → List (S75) → Int → Option (Int)
 | 0, _, _, _, _, _, _, _, _, _, _, _, _, _, _, _ => none
 | k + 1, x0, x1, x35, x36, x37, x42, x43, x44, x225000, x225001, x225002, x225003, x225004, x225005, x225006 => if x44 < x43 then (if 0 ≤ x44 then (if x44 < (x42.length : Int) then ((tasks_clock.f k ((zm x42 x44).f0) ((zm x42 x44).f1) ((zm x42 x44).f2) ((zm x42 x44).f3.f0) ((zm x42 x44).f3.f1) ((zm x42 x44).f3.f2) x0 x1).bind fun bt227 => (if bt227.2.2 = true then ((tasks_mayRead.f k ((zm x42 x44).f3.f0) ((zm x42 x44).f3.f1) ((zm x42 x44).f3.f2) x225000 x225001 bt227.1 bt227.2.1).bind fun t231 => (if t231 = true then (tasks_May.l2 k x0 x1 x35 x36 x37 x42 x43 (wrap64 (x44 + 1)) x225000 x225001 x225002 x225003 x225004 x225005 x225006) else (some 2))) else (some 2))) else (none)) else (none)) else (tasks_May.l1 k x0 x1 x35 x36 (wrap64 (x37 + 1)))
end
def tasks_May.f (k : Nat) (l0 : List (S78)) (l1 : List (S68)) : Option (Int) := if (l0.length : Int) > 160 then (tasks_May.j0 k l0 l1 true) else (if (l1.length : Int) > 32 then (tasks_May.j0 k l0 l1 true) else ((containsClock.f l1).bind fun t219 => (tasks_May.j0 k l0 l1 t219)))
theorem tasks_May.zma : ∀ k, (∀ y0 y1 y2, LeO (tasks_May.j0 k y0 y1 y2) (tasks_May.j0 (k + 1) y0 y1 y2)) ∧ (∀ y0 y1 y2 y3 y4, LeO (tasks_May.l0 k y0 y1 y2 y3 y4) (tasks_May.l0 (k + 1) y0 y1 y2 y3 y4)) ∧ (∀ y0 y1 y2 y3 y4, LeO (tasks_May.l1 k y0 y1 y2 y3 y4) (tasks_May.l1 (k + 1) y0 y1 y2 y3 y4)) ∧ (∀ y0 y1 y2 y3 y4 y5 y6 y7 y8 y9 y10 y11 y12 y13 y14, LeO (tasks_May.l2 k y0 y1 y2 y3 y4 y5 y6 y7 y8 y9 y10 y11 y12 y13 y14) (tasks_May.l2 (k + 1) y0 y1 y2 y3 y4 y5 y6 y7 y8 y9 y10 y11 y12 y13 y14))
 | 0 => ⟨fun _ _ _ r h => by simp [tasks_May.j0] at h, fun _ _ _ _ _ r h => by simp [tasks_May.l0] at h, fun _ _ _ _ _ r h => by simp [tasks_May.l1] at h, fun _ _ _ _ _ _ _ _ _ _ _ _ _ _ _ r h => by simp [tasks_May.l2] at h⟩
 | k + 1 => by
  obtain ⟨ih0, ih1, ih2, ih3⟩ := tasks_May.zma k
  refine ⟨?_, ?_, ?_, ?_⟩
  ·intro y0 y1 y2
   unfold tasks_May.j0
   repeat' first
   | (with_reducible exact ih0 _ _ _)
   | (with_reducible exact ih1 _ _ _ _ _)
   | (with_reducible exact ih2 _ _ _ _ _)
   | (with_reducible exact ih3 _ _ _ _ _ _ _ _ _ _ _ _ _ _ _)
   | (with_reducible exact tasks_clock.mono _ _ _ _ _ _ _ _ _)
   | (with_reducible exact tasks_mayRead.mono _ _ _ _ _ _ _ _)
   | (with_reducible exact tasks_mayTask.mono _ _ _ _ _ _ _ _)
   | (with_reducible exact LeO.refl _)
   | (with_reducible exact LeO.none _)
   | (with_reducible refine LeO.ite ?_ ?_)
   | (with_reducible refine LeO.bind ?_ (fun _ => ?_))
   | exact ih0 _ _ _
   | exact ih1 _ _ _ _ _
   | exact ih2 _ _ _ _ _
   | exact ih3 _ _ _ _ _ _ _ _ _ _ _ _ _ _ _
   | exact tasks_clock.mono _ _ _ _ _ _ _ _ _
   | exact tasks_mayRead.mono _ _ _ _ _ _ _ _
   | exact tasks_mayTask.mono _ _ _ _ _ _ _ _
   | exact LeO.none _
   | refine LeO.ite ?_ ?_
   | refine LeO.bind ?_ (fun _ => ?_)
  ·intro y0 y1 y2 y3 y4
   unfold tasks_May.l0
   repeat' first
   | (with_reducible exact ih0 _ _ _)
   | (with_reducible exact ih1 _ _ _ _ _)
   | (with_reducible exact ih2 _ _ _ _ _)
   | (with_reducible exact ih3 _ _ _ _ _ _ _ _ _ _ _ _ _ _ _)
   | (with_reducible exact tasks_clock.mono _ _ _ _ _ _ _ _ _)
   | (with_reducible exact tasks_mayRead.mono _ _ _ _ _ _ _ _)
   | (with_reducible exact tasks_mayTask.mono _ _ _ _ _ _ _ _)
   | (with_reducible exact LeO.refl _)
   | (with_reducible exact LeO.none _)
   | (with_reducible refine LeO.ite ?_ ?_)
   | (with_reducible refine LeO.bind ?_ (fun _ => ?_))
   | exact ih0 _ _ _
   | exact ih1 _ _ _ _ _
   | exact ih2 _ _ _ _ _
   | exact ih3 _ _ _ _ _ _ _ _ _ _ _ _ _ _ _
   | exact tasks_clock.mono _ _ _ _ _ _ _ _ _
   | exact tasks_mayRead.mono _ _ _ _ _ _ _ _
   | exact tasks_mayTask.mono _ _ _ _ _ _ _ _
   | exact LeO.none _
   | refine LeO.ite ?_ ?_
   | refine LeO.bind ?_ (fun _ => ?_)
  ·intro y0 y1 y2 y3 y4
   unfold tasks_May.l1
   repeat' first
   | (with_reducible exact ih0 _ _ _)
   | (with_reducible exact ih1 _ _ _ _ _)
   | (with_reducible exact ih2 _ _ _ _ _)
   | (with_reducible exact ih3 _ _ _ _ _ _ _ _ _ _ _ _ _ _ _)
   | (with_reducible exact tasks_clock.mono _ _ _ _ _ _ _ _ _)
   | (with_reducible exact tasks_mayRead.mono _ _ _ _ _ _ _ _)
   | (with_reducible exact tasks_mayTask.mono _ _ _ _ _ _ _ _)
   | (with_reducible exact LeO.refl _)
   | (with_reducible exact LeO.none _)
   | (with_reducible refine LeO.ite ?_ ?_)
   | (with_reducible refine LeO.bind ?_ (fun _ => ?_))
   | exact ih0 _ _ _
   | exact ih1 _ _ _ _ _
   | exact ih2 _ _ _ _ _
   | exact ih3 _ _ _ _ _ _ _ _ _ _ _ _ _ _ _
   | exact tasks_clock.mono _ _ _ _ _ _ _ _ _
   | exact tasks_mayRead.mono _ _ _ _ _ _ _ _
   | exact tasks_mayTask.mono _ _ _ _ _ _ _ _
   | exact LeO.none _
   | refine LeO.ite ?_ ?_
   | refine LeO.bind ?_ (fun _ => ?_)
  ·intro y0 y1 y2 y3 y4 y5 y6 y7 y8 y9 y10 y11 y12 y13 y14
   unfold tasks_May.l2
   repeat' first
   | (with_reducible exact ih0 _ _ _)
   | (with_reducible exact ih1 _ _ _ _ _)
   | (with_reducible exact ih2 _ _ _ _ _)
   | (with_reducible exact ih3 _ _ _ _ _ _ _ _ _ _ _ _ _ _ _)
   | (with_reducible exact tasks_clock.mono _ _ _ _ _ _ _ _ _)
   | (with_reducible exact tasks_mayRead.mono _ _ _ _ _ _ _ _)
   | (with_reducible exact tasks_mayTask.mono _ _ _ _ _ _ _ _)
   | (with_reducible exact LeO.refl _)
   | (with_reducible exact LeO.none _)
   | (with_reducible refine LeO.ite ?_ ?_)
   | (with_reducible refine LeO.bind ?_ (fun _ => ?_))
   | exact ih0 _ _ _
   | exact ih1 _ _ _ _ _
   | exact ih2 _ _ _ _ _
   | exact ih3 _ _ _ _ _ _ _ _ _ _ _ _ _ _ _
   | exact tasks_clock.mono _ _ _ _ _ _ _ _ _
   | exact tasks_mayRead.mono _ _ _ _ _ _ _ _
   | exact tasks_mayTask.mono _ _ _ _ _ _ _ _
   | exact LeO.none _
   | refine LeO.ite ?_ ?_
   | refine LeO.bind ?_ (fun _ => ?_)
theorem tasks_May.mono : ∀ a0 a1 k, LeO (tasks_May.f k a0 a1) (tasks_May.f (k + 1) a0 a1) := by
 intro a0 a1 k
 obtain ⟨ih0, ih1, ih2, ih3⟩ := tasks_May.zma k
 unfold tasks_May.f
 repeat' first
   | (with_reducible exact ih0 _ _ _)
   | (with_reducible exact ih1 _ _ _ _ _)
   | (with_reducible exact ih2 _ _ _ _ _)
   | (with_reducible exact ih3 _ _ _ _ _ _ _ _ _ _ _ _ _ _ _)
   | (with_reducible exact tasks_clock.mono _ _ _ _ _ _ _ _ _)
   | (with_reducible exact tasks_mayRead.mono _ _ _ _ _ _ _ _)
   | (with_reducible exact tasks_mayTask.mono _ _ _ _ _ _ _ _)
   | (with_reducible exact LeO.refl _)
   | (with_reducible exact LeO.none _)
   | (with_reducible refine LeO.ite ?_ ?_)
   | (with_reducible refine LeO.bind ?_ (fun _ => ?_))
   | exact ih0 _ _ _
   | exact ih1 _ _ _ _ _
   | exact ih2 _ _ _ _ _
   | exact ih3 _ _ _ _ _ _ _ _ _ _ _ _ _ _ _
   | exact tasks_clock.mono _ _ _ _ _ _ _ _ _
   | exact tasks_mayRead.mono _ _ _ _ _ _ _ _
   | exact tasks_mayTask.mono _ _ _ _ _ _ _ _
   | exact LeO.none _
   | refine LeO.ite ?_ ?_
   | refine LeO.bind ?_ (fun _ => ?_)
theorem tasks_May.calls (k : Nat) (A0 : Option Addr) (c0 : Nat) (l0 : List (S78)) (A1 : Option Addr) (c1 : Nat) (l1 : List (S68)) (r : Int) (w : World) (hr0 : Kd.C k78 w A0 l0.length l0) (hc0 : l0.length ≤ c0) (hr1 : Kd.C k68 w A1 l1.length l1) (hc1 : l1.length ≤ c1) (h : tasks_May.f k l0 l1 = some (0 : Int)) :
  Calls Tryz.prog 53 #[.slice A0 l0.length c0, .slice A1 l1.length c1] w fun e w' => e = .returned (.int .i64 (0 : Int)) ∧ Below w.heap.size w w' := by
 have hu78 := Tryz.underlying78
 have hu75 := Tryz.underlying75
 have hu68 := Tryz.underlying68
 have hu73 := Tryz.underlying73
 have HR0 := zb.mk hr0
 have HC0 := zb.mk hc0
 clear hr0 hc0
 have HR1 := zb.mk hr1
 have HC1 := zb.mk hc1
 clear hr1 hc1
 have HB := zb.mk (Below.refl w.heap.size w)
 have H : (if (l0.length : Int) > 160 then (tasks_May.j0 k l0 l1 true) else (if (l1.length : Int) > 32 then (tasks_May.j0 k l0 l1 true) else ((containsClock.f l1).bind fun t219 => (tasks_May.j0 k l0 l1 t219)))) = some (0 : Int) := h
 clear h
 have HC3 := zb.mk H
 clear H
 go_enter Tryz.func53, Tryz.ntmps53
 go_upto_region 1 with (fail)
 go_cut [24] (fun v24 wc => ∃ (kq : Nat) (x24_2 : Bool), v24 = .bool x24_2 ∧ zb (tasks_May.j0 kq l0 l1 x24_2 = some (0 : Int)) ∧ zb (kq ≤ k) ∧ zb (Below w.heap.size w wc))
 case first =>
  have H := HC3.out
  clear HC3
  by_cases c4 : (l0.length : Int) > 160
  ·rw [if_pos c4] at H
   have c4b0 : decide (160 < (l0.length : Int)) = true := decide_eq_true c4
   have c4b1 : decide (160 < l0.length) = true := decide_eq_true (by omega)
   clear c4
   (first | rw [c4b0] | (simp only [i64_w, i32_w]; rw [c4b0]) | skip)
   have H' := zb.mk H
   clear H
   go_wp2
   go_meet
   case rel => exact ⟨_, (true), (by first | rfl | (simp; done) | (simp [*]; done)), H', ⟨by first | omega | exact Nat.le_refl _⟩, ⟨by repeat with_reducible first | exact HB.out | apply zd | apply za | apply ze⟩⟩
  ·rw [if_neg c4] at H
   have c4b0 : decide (160 < (l0.length : Int)) = false := decide_eq_false c4
   have c4b1 : decide (160 < l0.length) = false := decide_eq_false (by omega)
   clear c4
   (first | rw [c4b0] | (simp only [i64_w, i32_w]; rw [c4b0]) | skip)
   by_cases c5 : (l1.length : Int) > 32
   ·rw [if_pos c5] at H
    have c5b0 : decide (32 < (l1.length : Int)) = true := decide_eq_true c5
    have c5b1 : decide (32 < l1.length) = true := decide_eq_true (by omega)
    clear c5
    have H' := zb.mk H
    clear H
    go_wp2
    go_meet
    case rel => exact ⟨_, (true), (by first | rfl | (simp; done) | (simp [*]; done)), H', ⟨by first | omega | exact Nat.le_refl _⟩, ⟨by repeat with_reducible first | exact HB.out | apply zd | apply za | apply ze⟩⟩
   ·rw [if_neg c5] at H
    have c5b0 : decide (32 < (l1.length : Int)) = false := decide_eq_false c5
    have c5b1 : decide (32 < l1.length) = false := decide_eq_false (by omega)
    clear c5
    replace H := Option.bind_eq_some_iff.mp H
    obtain ⟨t219, A60, H⟩ := H
    replace H : (tasks_May.j0 k l0 l1 t219) = some (0 : Int) := H
    have A6 := zb.mk A60
    clear A60
    have H' := zb.mk H
    clear H
    go_wp2_with (first | (go_at_call 86; (with_reducible refine (containsClock.calls _ _ l1 t219 _ ?side1 ?side2 A6.out).mono ?_); (case side1 => repeat (first | exact (Kd.zu HR1.out HB.out) | (with_reducible refine Kd.zea ?_ _) | (with_reducible refine Kd.zfa ?_ _) | (with_reducible refine Kd.zia ?_))); (case side2 => exact HC1.out); rintro e w7 ⟨rfl, hb⟩; have n0_ := zb.mk (zo (by repeat with_reducible first | exact HB.out | apply zd | apply za | apply ze) hb); clear HB; have HB := n0_; clear n0_; (try clear hb)))
    go_meet
    case rel => exact ⟨_, (t219), (by first | rfl | (simp; done) | (simp [*]; done)), H', ⟨by first | omega | exact Nat.le_refl _⟩, ⟨by repeat with_reducible first | exact HB.out | apply zd | apply za | apply ze⟩⟩
 case rest =>
  clear HC3
  try clear c1
  try clear p2
  try clear c4
  try clear c4b0
  try clear c4b1
  try clear c5
  try clear c5b0
  try clear c5b1
  obtain ⟨kq, x24_2, rfl, HA, HJ2, HB⟩ := hcut
  cases kq with
  | zero => exact absurd HA.out (by simp [tasks_May.j0])
  | succ kj2 =>
   have H := HA.out
   clear HA
   simp only [tasks_May.j0] at H
   by_cases c8 : x24_2 = true
   ·subst c8
    have H1 : (some 2) = some (0 : Int) := by rw [if_pos rfl] at H; exact H
    exact absurd (Option.some.inj H1) (by decide)
   ·replace c8 := Bool.eq_false_iff.mpr c8
    subst c8
    have H1 : (tasks_May.l0 kj2 l0 l1 l0 (l0.length : Int) 0) = some (0 : Int) := by rw [if_neg (show ¬ (false = true) by decide)] at H; exact H
    clear H
    have H := H1
    clear H1
    have H' := zb.mk H
    clear H
    go_wp2
    go_loopg [27] kj2 (fun kq v27 w' => ∃ (x27_2 : Int), v27 = .int .i64 x27_2 ∧ zb (tasks_May.l0 kq l0 l1 l0 (l0.length : Int) x27_2 = some (0 : Int)) ∧ zb (kq ≤ kj2) ∧ zb (Below w.heap.size w w'))
    case atStart => exact ⟨(0), (by first | rfl | (simp; done) | (simp [*]; done)), H', ⟨Nat.le_refl _⟩, ⟨by repeat with_reducible first | exact HB.out | apply zd | apply za | apply ze⟩⟩
    case round =>
     clear H'
     try clear c1
     try clear p2
     try clear c4
     try clear c4b0
     try clear c4b1
     try clear c5
     try clear c5b0
     try clear c5b1
     try clear c8
     try clear p2
     obtain ⟨x27_2, rfl, HA, HK2, HB⟩ := hrel
     cases gk with
     | zero => exact absurd HA.out (by simp [tasks_May.l0])
     | succ k2 =>
      have H := HA.out
      clear HA
      simp only [tasks_May.l0] at H
      by_cases c9 : x27_2 < (l0.length : Int)
      ·rw [if_pos c9] at H
       have c9b0 : decide (x27_2 < (l0.length : Int)) = true := decide_eq_true c9
       clear c9
       by_cases c10 : 0 ≤ x27_2
       ·rw [if_pos c10] at H
        have c10b0 : decide (0 ≤ x27_2) = true := decide_eq_true c10
        clear c10
        by_cases c11 : x27_2 < (l0.length : Int)
        ·rw [if_pos c11] at H
         have c11b0 : decide (x27_2 < (l0.length : Int)) = true := decide_eq_true c11
         clear c11
         replace H := Option.bind_eq_some_iff.mp H
         obtain ⟨t222, A120, H⟩ := H
         replace H : (if t222 = true then (tasks_May.l0 k2 l0 l1 l0 (l0.length : Int) (wrap64 (x27_2 + 1))) else (some 2)) = some (0 : Int) := H
         have A12 := zb.mk A120
         clear A120
         by_cases c13 : t222 = true
         ·subst c13
          have H1 : (tasks_May.l0 k2 l0 l1 l0 (l0.length : Int) (wrap64 (x27_2 + 1))) = some (0 : Int) := by rw [if_pos rfl] at H; exact H
          clear H
          have H := H1
          clear H1
          have H' := zb.mk H
          clear H
          have p220 : 0 ≤ (x27_2 : Int) := of_decide_eq_true (by first | (with_reducible assumption) | assumption)
          have q220 : x27_2 < (l0.length : Int) := of_decide_eq_true (by first | (with_reducible assumption) | assumption)
          obtain ⟨ad220, A220_5, c220_5, e220, hx220_0, hx220_1, hx220_2, hx220_3, hx220_4, hx220_5, hx220_6, hl220_5, hi220_5⟩ := zeb HR0.out x27_2 p220 q220
          cases e220
          replace hx220_0 := (HB.out.cell (World.block_lt_of_cell? w _ hx220_0)).trans hx220_0
          replace hx220_1 := (HB.out.cell (World.block_lt_of_cell? w _ hx220_1)).trans hx220_1
          replace hx220_2 := (HB.out.cell (World.block_lt_of_cell? w _ hx220_2)).trans hx220_2
          replace hx220_3 := (HB.out.cell (World.block_lt_of_cell? w _ hx220_3)).trans hx220_3
          replace hx220_4 := (HB.out.cell (World.block_lt_of_cell? w _ hx220_4)).trans hx220_4
          replace hx220_5 := (HB.out.cell (World.block_lt_of_cell? w _ hx220_5)).trans hx220_5
          replace hx220_6 := (HB.out.cell (World.block_lt_of_cell? w _ hx220_6)).trans hx220_6
          have HR220_5 := zb.mk hi220_5
          have HC220_5 := zb.mk hl220_5
          clear hi220_5 hl220_5
          replace p220 := eq_true p220
          replace q220 := eq_true q220
          go_wp2_with (first | ((with_reducible refine zda (N := 6) rfl ?_); (try (refine zta (by rfl) ?_; dsimp only)); refine zaa ?hg (N := 6) ?hd (cs := #[.int .i64 0, .int .i64 0, .int .i64 0, .int .i64 0, .int .i64 0, .slice none 0 0, .int .i64 0]) (t := 78) ?hr ?_; (case hd => rfl); (case hg => rfl); (case hr => first | (go_simp; done) | (go_simp; rfl)); intro gb221 hg w14 hbox hb; have n0_ := zb.mk (zo (by repeat with_reducible first | exact HB.out | apply zd | apply za | apply ze) hb); have n1_ := zb.mk (hbox); have n2_ := zb.mk ((by rw [hg]; exact (zn (by repeat with_reducible first | exact HB.out | apply zd | apply za | apply ze)) : w.heap.size ≤ gb221)); have n3_ := zb.mk ((by rw [hg]; exact (zn (by repeat with_reducible first | exact HB.out | apply zd | apply za | apply ze)) : w.heap.size ≤ gb221)); clear HB; have HB := n0_; have BK221 := n1_; have GW221 := n2_; have GE221 := n3_; clear n0_ n1_ n2_ n3_; clear hb hbox hg; have hcz15_0 : w14.cell? ⟨gb221, 0, none⟩ = some (.int .i64 0) := (zg BK221.out 0).trans rfl; have hcz15_1 : w14.cell? ⟨gb221, 1, none⟩ = some (.int .i64 0) := (zg BK221.out 1).trans rfl; have hcz15_2 : w14.cell? ⟨gb221, 2, none⟩ = some (.int .i64 0) := (zg BK221.out 2).trans rfl; have hcz15_3 : w14.cell? ⟨gb221, 3, none⟩ = some (.int .i64 0) := (zg BK221.out 3).trans rfl; have hcz15_4 : w14.cell? ⟨gb221, 4, none⟩ = some (.int .i64 0) := (zg BK221.out 4).trans rfl; have hcz15_5 : w14.cell? ⟨gb221, 5, none⟩ = some (.slice none 0 0) := (zg BK221.out 5).trans rfl; have hcz15_6 : w14.cell? ⟨gb221, 6, none⟩ = some (.int .i64 0) := (zg BK221.out 6).trans rfl; have hfz15_0 := zf BK221.out 0; have hfz15_1 := zf BK221.out 1; have hfz15_2 := zf BK221.out 2; have hfz15_3 := zf BK221.out 3; have hfz15_4 := zf BK221.out 4; have hfz15_5 := zf BK221.out 5; have hfz15_6 := zf BK221.out 6) | ((with_reducible refine zt (f := 89) rfl ?_); refine zka (some 32) rfl rfl Tryz.func89 (by kernel_rfl) rfl #[.agg #[.int .i64 ((zj l0 x27_2).f0.f0), .int .i64 ((zj l0 x27_2).f0.f1), .int .i64 ((zj l0 x27_2).f1), .int .i64 ((zj l0 x27_2).f2), .int .i64 ((zj l0 x27_2).f3), .slice A220_5 ((zj l0 x27_2).f4).length c220_5, .int .i64 ((zj l0 x27_2).f5)]] rfl (by (try simp only [List.map_toArray, List.map_cons, List.map_nil]); first | done | rfl | (simp only [List.length_drop, List.length_take]; rfl)) ?_; (with_reducible refine (tasks_mayTask.calls k2 ((zj l0 x27_2).f0.f0) ((zj l0 x27_2).f0.f1) ((zj l0 x27_2).f1) ((zj l0 x27_2).f2) ((zj l0 x27_2).f3) _ _ ((zj l0 x27_2).f4) ((zj l0 x27_2).f5) true _ ?side1 ?side2 A12.out).mono ?_); (case side1 => exact Kd.zu HR220_5.out (by repeat with_reducible first | exact HB.out | apply zd | apply za | apply ze | refine zk ?_ GE221.out)); (case side2 => exact HC220_5.out); rintro e w16 ⟨rfl, hb⟩; refine ⟨_, rfl, ?_⟩; have n0_ := zb.mk (zr (g := gb221) (o := .cells #[.int .i64 ((zj l0 x27_2).f0.f0), .int .i64 ((zj l0 x27_2).f0.f1), .int .i64 ((zj l0 x27_2).f1), .int .i64 ((zj l0 x27_2).f2), .int .i64 ((zj l0 x27_2).f3), .slice A220_5 ((zj l0 x27_2).f4).length c220_5, .int .i64 ((zj l0 x27_2).f5)] 78 (0, 0)) (by (with_reducible repeat first | apply zi | apply zl | apply zh); refine zba (cs := #[.int .i64 ((zj l0 x27_2).f0.f0), .int .i64 ((zj l0 x27_2).f0.f1), .int .i64 ((zj l0 x27_2).f1), .int .i64 ((zj l0 x27_2).f2), .int .i64 ((zj l0 x27_2).f3), .slice A220_5 ((zj l0 x27_2).f4).length c220_5, .int .i64 0]) ?_ 6 _ rfl; (with_reducible repeat first | apply zi | apply zl | apply zh); refine zba (cs := #[.int .i64 ((zj l0 x27_2).f0.f0), .int .i64 ((zj l0 x27_2).f0.f1), .int .i64 ((zj l0 x27_2).f1), .int .i64 ((zj l0 x27_2).f2), .int .i64 ((zj l0 x27_2).f3), .slice none 0 0, .int .i64 0]) ?_ 5 _ rfl; (with_reducible repeat first | apply zi | apply zl | apply zh); refine zba (cs := #[.int .i64 ((zj l0 x27_2).f0.f0), .int .i64 ((zj l0 x27_2).f0.f1), .int .i64 ((zj l0 x27_2).f1), .int .i64 ((zj l0 x27_2).f2), .int .i64 0, .slice none 0 0, .int .i64 0]) ?_ 4 _ rfl; (with_reducible repeat first | apply zi | apply zl | apply zh); refine zba (cs := #[.int .i64 ((zj l0 x27_2).f0.f0), .int .i64 ((zj l0 x27_2).f0.f1), .int .i64 ((zj l0 x27_2).f1), .int .i64 0, .int .i64 0, .slice none 0 0, .int .i64 0]) ?_ 3 _ rfl; (with_reducible repeat first | apply zi | apply zl | apply zh); refine zba (cs := #[.int .i64 ((zj l0 x27_2).f0.f0), .int .i64 ((zj l0 x27_2).f0.f1), .int .i64 0, .int .i64 0, .int .i64 0, .slice none 0 0, .int .i64 0]) ?_ 2 _ rfl; (with_reducible repeat first | apply zi | apply zl | apply zh); refine zba (cs := #[.int .i64 ((zj l0 x27_2).f0.f0), .int .i64 0, .int .i64 0, .int .i64 0, .int .i64 0, .slice none 0 0, .int .i64 0]) ?_ 1 _ rfl; (with_reducible repeat first | apply zi | apply zl | apply zh); refine zba (cs := #[.int .i64 0, .int .i64 0, .int .i64 0, .int .i64 0, .int .i64 0, .slice none 0 0, .int .i64 0]) ?_ 0 _ rfl; (with_reducible repeat first | apply zi | apply zl | apply zh); exact BK221.out) hb); have n1_ := zb.mk (zo (by repeat with_reducible first | exact HB.out | apply zd | apply za | apply ze | refine zk ?_ GE221.out) hb); clear BK221; clear HB; have BK221 := n0_; have HB := n1_; clear n0_ n1_; (try clear hb)))
          go_roundg k2
          case measure => have := HJ2.out; have := HK2.out; omega
          case rel => exact ⟨(wrap64 (x27_2 + 1)), (by first | rfl | (simp; done) | (simp [*]; done)), H', ⟨by have := HJ2.out; have := HK2.out; omega⟩, ⟨by repeat with_reducible first | exact HB.out | apply zd | apply za | apply ze | refine zk ?_ GE221.out⟩⟩
         ·replace c13 := Bool.eq_false_iff.mpr c13
          subst c13
          have H1 : (some 2) = some (0 : Int) := by rw [if_neg (show ¬ (false = true) by decide)] at H; exact H
          exact absurd (Option.some.inj H1) (by decide)
        ·rw [if_neg c11] at H
         exact absurd H (by simp)
       ·rw [if_neg c10] at H
        exact absurd H (by simp)
      ·rw [if_neg c9] at H
       have c9b0 : decide (x27_2 < (l0.length : Int)) = false := decide_eq_false c9
       clear c9
       have H' := zb.mk H
       clear H
       go_wp2
       go_loopg [37] k2 (fun kq v37 w' => ∃ (x37_3 : Int), v37 = .int .i64 x37_3 ∧ zb (tasks_May.l1 kq l0 l1 l0 (l0.length : Int) x37_3 = some (0 : Int)) ∧ zb (kq ≤ k2) ∧ zb (Below w.heap.size w w'))
       case atStart => exact ⟨(0), (by first | rfl | (simp; done) | (simp [*]; done)), H', ⟨Nat.le_refl _⟩, ⟨by repeat with_reducible first | exact HB.out | apply zd | apply za | apply ze⟩⟩
       case round =>
        clear H'
        try clear c1
        try clear c2
        try clear p2
        try clear q2
        try clear hx2
        try clear c4
        try clear c4b0
        try clear c4b1
        try clear c5
        try clear c5b0
        try clear c5b1
        try clear p6
        try clear c8
        try clear c9
        try clear c9b0
        try clear c10
        try clear c10b0
        try clear c11
        try clear c11b0
        try clear c13
        try clear hcz15_0
        try clear hcz15_1
        try clear hcz15_2
        try clear hcz15_3
        try clear hcz15_4
        try clear hcz15_5
        try clear hcz15_6
        try clear hcz18_0
        try clear hcz18_1
        try clear hcz18_2
        try clear hcz18_3
        try clear hcz18_4
        try clear hcz18_5
        try clear hcz18_6
        try clear hfz15_0
        try clear hfz15_1
        try clear hfz15_2
        try clear hfz15_3
        try clear hfz15_4
        try clear hfz15_5
        try clear hfz15_6
        try clear hfz18_0
        try clear hfz18_1
        try clear hfz18_2
        try clear hfz18_3
        try clear hfz18_4
        try clear hfz18_5
        try clear hfz18_6
        try clear hx220_0
        try clear hx220_1
        try clear hx220_2
        try clear hx220_3
        try clear hx220_4
        try clear hx220_5
        try clear hx220_6
        try clear p2
        try clear p220
        try clear q220
        obtain ⟨x37_3, rfl, HA, HK3, HB⟩ := hrel
        cases gk with
        | zero => exact absurd HA.out (by simp [tasks_May.l1])
        | succ k3 =>
         have H := HA.out
         clear HA
         simp only [tasks_May.l1] at H
         by_cases c20 : x37_3 < (l0.length : Int)
         ·rw [if_pos c20] at H
          have c20b0 : decide (x37_3 < (l0.length : Int)) = true := decide_eq_true c20
          clear c20
          by_cases c21 : 0 ≤ x37_3
          ·rw [if_pos c21] at H
           have c21b0 : decide (0 ≤ x37_3) = true := decide_eq_true c21
           clear c21
           by_cases c22 : x37_3 < (l0.length : Int)
           ·rw [if_pos c22] at H
            have c22b0 : decide (x37_3 < (l0.length : Int)) = true := decide_eq_true c22
            clear c22
            have H' := zb.mk H
            clear H
            have p223 : 0 ≤ (x37_3 : Int) := of_decide_eq_true (by first | (with_reducible assumption) | assumption)
            have q223 : x37_3 < (l0.length : Int) := of_decide_eq_true (by first | (with_reducible assumption) | assumption)
            obtain ⟨ad223, A223_5, c223_5, e223, hx223_0, hx223_1, hx223_2, hx223_3, hx223_4, hx223_5, hx223_6, hl223_5, hi223_5⟩ := zeb HR0.out x37_3 p223 q223
            cases e223
            replace hx223_0 := (HB.out.cell (World.block_lt_of_cell? w _ hx223_0)).trans hx223_0
            replace hx223_1 := (HB.out.cell (World.block_lt_of_cell? w _ hx223_1)).trans hx223_1
            replace hx223_2 := (HB.out.cell (World.block_lt_of_cell? w _ hx223_2)).trans hx223_2
            replace hx223_3 := (HB.out.cell (World.block_lt_of_cell? w _ hx223_3)).trans hx223_3
            replace hx223_4 := (HB.out.cell (World.block_lt_of_cell? w _ hx223_4)).trans hx223_4
            replace hx223_5 := (HB.out.cell (World.block_lt_of_cell? w _ hx223_5)).trans hx223_5
            replace hx223_6 := (HB.out.cell (World.block_lt_of_cell? w _ hx223_6)).trans hx223_6
            have HR223_5 := zb.mk hi223_5
            have HC223_5 := zb.mk hl223_5
            clear hi223_5 hl223_5
            replace p223 := eq_true p223
            replace q223 := eq_true q223
            go_wp2_with (first | ((with_reducible refine zda (N := 8) rfl ?_); (try (refine zta (by rfl) ?_; dsimp only)); refine zaa ?hg (N := 8) ?hd (cs := #[.int .i64 0, .int .i64 0, .int .i64 0, .int .i64 0, .int .i64 0, .slice none 0 0, .int .i64 0]) (t := 78) ?hr ?_; (case hd => rfl); (case hg => rfl); (case hr => first | (go_simp; done) | (go_simp; rfl)); intro gb224 hg w23 hbox hb; have n0_ := zb.mk (zo (by repeat with_reducible first | exact HB.out | apply zd | apply za | apply ze) hb); have n1_ := zb.mk (hbox); have n2_ := zb.mk ((by rw [hg]; exact (zn (by repeat with_reducible first | exact HB.out | apply zd | apply za | apply ze)) : w.heap.size ≤ gb224)); have n3_ := zb.mk ((by rw [hg]; exact (zn (by repeat with_reducible first | exact HB.out | apply zd | apply za | apply ze)) : w.heap.size ≤ gb224)); clear HB; have HB := n0_; have BK224 := n1_; have GW224 := n2_; have GE224 := n3_; clear n0_ n1_ n2_ n3_; clear hb hbox hg; have hcz24_0 : w23.cell? ⟨gb224, 0, none⟩ = some (.int .i64 0) := (zg BK224.out 0).trans rfl; have hcz24_1 : w23.cell? ⟨gb224, 1, none⟩ = some (.int .i64 0) := (zg BK224.out 1).trans rfl; have hcz24_2 : w23.cell? ⟨gb224, 2, none⟩ = some (.int .i64 0) := (zg BK224.out 2).trans rfl; have hcz24_3 : w23.cell? ⟨gb224, 3, none⟩ = some (.int .i64 0) := (zg BK224.out 3).trans rfl; have hcz24_4 : w23.cell? ⟨gb224, 4, none⟩ = some (.int .i64 0) := (zg BK224.out 4).trans rfl; have hcz24_5 : w23.cell? ⟨gb224, 5, none⟩ = some (.slice none 0 0) := (zg BK224.out 5).trans rfl; have hcz24_6 : w23.cell? ⟨gb224, 6, none⟩ = some (.int .i64 0) := (zg BK224.out 6).trans rfl; have hfz24_0 := zf BK224.out 0; have hfz24_1 := zf BK224.out 1; have hfz24_2 := zf BK224.out 2; have hfz24_3 := zf BK224.out 3; have hfz24_4 := zf BK224.out 4; have hfz24_5 := zf BK224.out 5; have hfz24_6 := zf BK224.out 6))
            go_loopg [44] k3 (fun kq v44 w' => ∃ (x44_4 : Int), v44 = .int .i64 x44_4 ∧ zb (tasks_May.l2 kq l0 l1 l0 (l0.length : Int) x37_3 ((zj l0 x37_3).f4) (((zj l0 x37_3).f4).length : Int) x44_4 ((zj l0 x37_3).f0.f0) ((zj l0 x37_3).f0.f1) ((zj l0 x37_3).f1) ((zj l0 x37_3).f2) ((zj l0 x37_3).f3) ((zj l0 x37_3).f4) ((zj l0 x37_3).f5) = some (0 : Int)) ∧ zb (kq ≤ k3) ∧ zb (w'.heap[gb224]? = some (.cells #[.int .i64 ((zj l0 x37_3).f0.f0), .int .i64 ((zj l0 x37_3).f0.f1), .int .i64 ((zj l0 x37_3).f1), .int .i64 ((zj l0 x37_3).f2), .int .i64 ((zj l0 x37_3).f3), (.slice A223_5 ((zj l0 x37_3).f4).length c223_5), .int .i64 ((zj l0 x37_3).f5)] 78 (0, 0))) ∧ zb (Below w.heap.size w w'))
            case atStart => exact ⟨(0), (by first | rfl | (simp; done) | (simp [*]; done)), H', ⟨Nat.le_refl _⟩, ⟨by (with_reducible repeat first | apply zi | apply zl | apply zh); refine zba (cs := #[.int .i64 ((zj l0 x37_3).f0.f0), .int .i64 ((zj l0 x37_3).f0.f1), .int .i64 ((zj l0 x37_3).f1), .int .i64 ((zj l0 x37_3).f2), .int .i64 ((zj l0 x37_3).f3), .slice A223_5 ((zj l0 x37_3).f4).length c223_5, .int .i64 0]) ?_ 6 _ rfl; (with_reducible repeat first | apply zi | apply zl | apply zh); refine zba (cs := #[.int .i64 ((zj l0 x37_3).f0.f0), .int .i64 ((zj l0 x37_3).f0.f1), .int .i64 ((zj l0 x37_3).f1), .int .i64 ((zj l0 x37_3).f2), .int .i64 ((zj l0 x37_3).f3), .slice none 0 0, .int .i64 0]) ?_ 5 _ rfl; (with_reducible repeat first | apply zi | apply zl | apply zh); refine zba (cs := #[.int .i64 ((zj l0 x37_3).f0.f0), .int .i64 ((zj l0 x37_3).f0.f1), .int .i64 ((zj l0 x37_3).f1), .int .i64 ((zj l0 x37_3).f2), .int .i64 0, .slice none 0 0, .int .i64 0]) ?_ 4 _ rfl; (with_reducible repeat first | apply zi | apply zl | apply zh); refine zba (cs := #[.int .i64 ((zj l0 x37_3).f0.f0), .int .i64 ((zj l0 x37_3).f0.f1), .int .i64 ((zj l0 x37_3).f1), .int .i64 0, .int .i64 0, .slice none 0 0, .int .i64 0]) ?_ 3 _ rfl; (with_reducible repeat first | apply zi | apply zl | apply zh); refine zba (cs := #[.int .i64 ((zj l0 x37_3).f0.f0), .int .i64 ((zj l0 x37_3).f0.f1), .int .i64 0, .int .i64 0, .int .i64 0, .slice none 0 0, .int .i64 0]) ?_ 2 _ rfl; (with_reducible repeat first | apply zi | apply zl | apply zh); refine zba (cs := #[.int .i64 ((zj l0 x37_3).f0.f0), .int .i64 0, .int .i64 0, .int .i64 0, .int .i64 0, .slice none 0 0, .int .i64 0]) ?_ 1 _ rfl; (with_reducible repeat first | apply zi | apply zl | apply zh); refine zba (cs := #[.int .i64 0, .int .i64 0, .int .i64 0, .int .i64 0, .int .i64 0, .slice none 0 0, .int .i64 0]) ?_ 0 _ rfl; (with_reducible repeat first | apply zi | apply zl | apply zh); exact BK224.out⟩, ⟨by repeat with_reducible first | exact HB.out | apply zd | apply za | apply ze | refine zk ?_ GE224.out⟩⟩
            case round =>
             clear H'
             try clear c1
             try clear c2
             try clear p2
             try clear q2
             try clear hx2
             try clear c4
             try clear c4b0
             try clear c4b1
             try clear c5
             try clear c5b0
             try clear c5b1
             try clear p6
             try clear c8
             try clear c9
             try clear c9b0
             try clear c10
             try clear c10b0
             try clear c11
             try clear c11b0
             try clear c13
             try clear c20
             try clear c20b0
             try clear c21
             try clear c21b0
             try clear c22
             try clear c22b0
             try clear p22
             try clear q22
             try clear hx22
             try clear hcz15_0
             try clear hcz15_1
             try clear hcz15_2
             try clear hcz15_3
             try clear hcz15_4
             try clear hcz15_5
             try clear hcz15_6
             try clear hcz18_0
             try clear hcz18_1
             try clear hcz18_2
             try clear hcz18_3
             try clear hcz18_4
             try clear hcz18_5
             try clear hcz18_6
             try clear hcz24_0
             try clear hcz24_1
             try clear hcz24_2
             try clear hcz24_3
             try clear hcz24_4
             try clear hcz24_5
             try clear hcz24_6
             try clear hfz15_0
             try clear hfz15_1
             try clear hfz15_2
             try clear hfz15_3
             try clear hfz15_4
             try clear hfz15_5
             try clear hfz15_6
             try clear hfz18_0
             try clear hfz18_1
             try clear hfz18_2
             try clear hfz18_3
             try clear hfz18_4
             try clear hfz18_5
             try clear hfz18_6
             try clear hfz24_0
             try clear hfz24_1
             try clear hfz24_2
             try clear hfz24_3
             try clear hfz24_4
             try clear hfz24_5
             try clear hfz24_6
             try clear hx220_0
             try clear hx220_1
             try clear hx220_2
             try clear hx220_3
             try clear hx220_4
             try clear hx220_5
             try clear hx220_6
             try clear hx223_0
             try clear hx223_1
             try clear hx223_2
             try clear hx223_3
             try clear hx223_4
             try clear hx223_5
             try clear hx223_6
             try clear p2
             try clear p220
             try clear p223
             try clear p6
             try clear q2
             try clear q220
             try clear q223
             obtain ⟨x44_4, rfl, HA, HK4, BK224, HB⟩ := hrel
             cases gk with
             | zero => exact absurd HA.out (by simp [tasks_May.l2])
             | succ k4 =>
              have H := HA.out
              clear HA
              simp only [tasks_May.l2] at H
              by_cases c25 : x44_4 < (((zj l0 x37_3).f4).length : Int)
              ·rw [if_pos c25] at H
               have c25b0 : decide (x44_4 < (((zj l0 x37_3).f4).length : Int)) = true := decide_eq_true c25
               clear c25
               by_cases c26 : 0 ≤ x44_4
               ·rw [if_pos c26] at H
                have c26b0 : decide (0 ≤ x44_4) = true := decide_eq_true c26
                clear c26
                by_cases c27 : x44_4 < (((zj l0 x37_3).f4).length : Int)
                ·rw [if_pos c27] at H
                 have c27b0 : decide (x44_4 < (((zj l0 x37_3).f4).length : Int)) = true := decide_eq_true c27
                 clear c27
                 replace H := Option.bind_eq_some_iff.mp H
                 obtain ⟨⟨t227, t228, t229⟩, A280, H⟩ := H
                 replace H : (if t229 = true then ((tasks_mayRead.f k4 ((zm ((zj l0 x37_3).f4) x44_4).f3.f0) ((zm ((zj l0 x37_3).f4) x44_4).f3.f1) ((zm ((zj l0 x37_3).f4) x44_4).f3.f2) ((zj l0 x37_3).f0.f0) ((zj l0 x37_3).f0.f1) t227 t228).bind fun t231 => (if t231 = true then (tasks_May.l2 k4 l0 l1 l0 (l0.length : Int) x37_3 ((zj l0 x37_3).f4) (((zj l0 x37_3).f4).length : Int) (wrap64 (x44_4 + 1)) ((zj l0 x37_3).f0.f0) ((zj l0 x37_3).f0.f1) ((zj l0 x37_3).f1) ((zj l0 x37_3).f2) ((zj l0 x37_3).f3) ((zj l0 x37_3).f4) ((zj l0 x37_3).f5)) else (some 2))) else (some 2)) = some (0 : Int) := H
                 have A28 := zb.mk A280
                 clear A280
                 by_cases c29 : t229 = true
                 ·subst c29
                  have H1 : ((tasks_mayRead.f k4 ((zm ((zj l0 x37_3).f4) x44_4).f3.f0) ((zm ((zj l0 x37_3).f4) x44_4).f3.f1) ((zm ((zj l0 x37_3).f4) x44_4).f3.f2) ((zj l0 x37_3).f0.f0) ((zj l0 x37_3).f0.f1) t227 t228).bind fun t231 => (if t231 = true then (tasks_May.l2 k4 l0 l1 l0 (l0.length : Int) x37_3 ((zj l0 x37_3).f4) (((zj l0 x37_3).f4).length : Int) (wrap64 (x44_4 + 1)) ((zj l0 x37_3).f0.f0) ((zj l0 x37_3).f0.f1) ((zj l0 x37_3).f1) ((zj l0 x37_3).f2) ((zj l0 x37_3).f3) ((zj l0 x37_3).f4) ((zj l0 x37_3).f5)) else (some 2))) = some (0 : Int) := by rw [if_pos rfl] at H; exact H
                  clear H
                  have H := H1
                  clear H1
                  replace H := Option.bind_eq_some_iff.mp H
                  obtain ⟨t231, A300, H⟩ := H
                  replace H : (if t231 = true then (tasks_May.l2 k4 l0 l1 l0 (l0.length : Int) x37_3 ((zj l0 x37_3).f4) (((zj l0 x37_3).f4).length : Int) (wrap64 (x44_4 + 1)) ((zj l0 x37_3).f0.f0) ((zj l0 x37_3).f0.f1) ((zj l0 x37_3).f1) ((zj l0 x37_3).f2) ((zj l0 x37_3).f3) ((zj l0 x37_3).f4) ((zj l0 x37_3).f5)) else (some 2)) = some (0 : Int) := H
                  have A30 := zb.mk A300
                  clear A300
                  by_cases c31 : t231 = true
                  ·subst c31
                   have H1 : (tasks_May.l2 k4 l0 l1 l0 (l0.length : Int) x37_3 ((zj l0 x37_3).f4) (((zj l0 x37_3).f4).length : Int) (wrap64 (x44_4 + 1)) ((zj l0 x37_3).f0.f0) ((zj l0 x37_3).f0.f1) ((zj l0 x37_3).f1) ((zj l0 x37_3).f2) ((zj l0 x37_3).f3) ((zj l0 x37_3).f4) ((zj l0 x37_3).f5)) = some (0 : Int) := by rw [if_pos rfl] at H; exact H
                   clear H
                   have H := H1
                   clear H1
                   have H' := zb.mk H
                   clear H
                   have p225 : 0 ≤ (x44_4 : Int) := of_decide_eq_true (by first | (with_reducible assumption) | assumption)
                   have q225 : x44_4 < (((zj l0 x37_3).f4).length : Int) := of_decide_eq_true (by first | (with_reducible assumption) | assumption)
                   obtain ⟨ad225, A225_3, c225_3, A225_4, c225_4, e225, hx225_0, hx225_1, hx225_2, hx225_3, hx225_4, hx225_5, hl225_3, hi225_3, hl225_4, hi225_4⟩ := at_T75 HR223_5.out x44_4 p225 q225
                   cases e225
                   replace hx225_0 := (HB.out.cell (World.block_lt_of_cell? w _ hx225_0)).trans hx225_0
                   replace hx225_1 := (HB.out.cell (World.block_lt_of_cell? w _ hx225_1)).trans hx225_1
                   replace hx225_2 := (HB.out.cell (World.block_lt_of_cell? w _ hx225_2)).trans hx225_2
                   replace hx225_3 := (HB.out.cell (World.block_lt_of_cell? w _ hx225_3)).trans hx225_3
                   replace hx225_4 := (HB.out.cell (World.block_lt_of_cell? w _ hx225_4)).trans hx225_4
                   replace hx225_5 := (HB.out.cell (World.block_lt_of_cell? w _ hx225_5)).trans hx225_5
                   have HR225_3 := zb.mk hi225_3
                   have HC225_3 := zb.mk hl225_3
                   clear hi225_3 hl225_3
                   have HR225_4 := zb.mk hi225_4
                   have HC225_4 := zb.mk hl225_4
                   clear hi225_4 hl225_4
                   replace p225 := eq_true p225
                   replace q225 := eq_true q225
                   go_wp2_with (first | ((with_reducible refine zda (N := 10) rfl ?_); (try (refine zta (by rfl) ?_; dsimp only)); refine zaa ?hg (N := 10) ?hd (cs := #[.int .u8 0, .int .i64 0, .int .i64 0, .slice none 0 0, .slice none 0 0, .int .i64 0]) (t := 75) ?hr ?_; (case hd => rfl); (case hg => rfl); (case hr => first | (go_simp; done) | (go_simp; rfl)); intro gb226 hg w32 hbox hb; have n0_ := zb.mk (zr (g := gb224) (o := .cells #[.int .i64 ((zj l0 x37_3).f0.f0), .int .i64 ((zj l0 x37_3).f0.f1), .int .i64 ((zj l0 x37_3).f1), .int .i64 ((zj l0 x37_3).f2), .int .i64 ((zj l0 x37_3).f3), .slice (some ad225) ((zj l0 x37_3).f4).length c223_5, .int .i64 ((zj l0 x37_3).f5)] 78 (0, 0)) (by (with_reducible repeat first | apply zi | apply zl | apply zh); exact BK224.out) hb); have n1_ := zb.mk (zo (by repeat with_reducible first | exact HB.out | apply zd | apply za | apply ze | refine zk ?_ GE224.out) hb); have n2_ := zb.mk (hbox); have n3_ := zb.mk ((by rw [hg]; exact (zn (by repeat with_reducible first | exact HB.out | apply zd | apply za | apply ze | refine zk ?_ GE224.out)) : w.heap.size ≤ gb226)); have n4_ := zb.mk ((by rw [hg]; exact (zn (by repeat with_reducible first | exact HB.out | apply zd | apply za | apply ze | refine zk ?_ GE224.out)) : w.heap.size ≤ gb226)); have n5_ := zb.mk ((by rw [hg]; exact Nat.ne_of_lt (zja (g := gb224) (o := .cells #[.int .i64 ((zj l0 x37_3).f0.f0), .int .i64 ((zj l0 x37_3).f0.f1), .int .i64 ((zj l0 x37_3).f1), .int .i64 ((zj l0 x37_3).f2), .int .i64 ((zj l0 x37_3).f3), .slice (some ad225) ((zj l0 x37_3).f4).length c223_5, .int .i64 ((zj l0 x37_3).f5)] 78 (0, 0)) (by (with_reducible repeat first | apply zi | apply zl | apply zh); exact BK224.out)) : gb224 ≠ gb226)); have n6_ := zb.mk ((by rw [hg]; exact Nat.ne_of_gt (zja (g := gb224) (o := .cells #[.int .i64 ((zj l0 x37_3).f0.f0), .int .i64 ((zj l0 x37_3).f0.f1), .int .i64 ((zj l0 x37_3).f1), .int .i64 ((zj l0 x37_3).f2), .int .i64 ((zj l0 x37_3).f3), .slice (some ad225) ((zj l0 x37_3).f4).length c223_5, .int .i64 ((zj l0 x37_3).f5)] 78 (0, 0)) (by (with_reducible repeat first | apply zi | apply zl | apply zh); exact BK224.out)) : gb226 ≠ gb224)); clear BK224; clear HB; have BK224 := n0_; have HB := n1_; have BK226 := n2_; have GW226 := n3_; have GE226 := n4_; have NB224_226 := n5_; have NB226_224 := n6_; clear n0_ n1_ n2_ n3_ n4_ n5_ n6_; clear hb hbox hg; have hnb33 := NB226_224.out; have hnc33 := NB224_226.out; have hcz34_0 : w32.cell? ⟨gb226, 0, none⟩ = some (.int .u8 0) := (zg BK226.out 0).trans rfl; have hcz34_1 : w32.cell? ⟨gb226, 1, none⟩ = some (.int .i64 0) := (zg BK226.out 1).trans rfl; have hcz34_2 : w32.cell? ⟨gb226, 2, none⟩ = some (.int .i64 0) := (zg BK226.out 2).trans rfl; have hcz34_3 : w32.cell? ⟨gb226, 3, none⟩ = some (.slice none 0 0) := (zg BK226.out 3).trans rfl; have hcz34_4 : w32.cell? ⟨gb226, 4, none⟩ = some (.slice none 0 0) := (zg BK226.out 4).trans rfl; have hcz34_5 : w32.cell? ⟨gb226, 5, none⟩ = some (.int .i64 0) := (zg BK226.out 5).trans rfl; have hfz34_0 := zf BK226.out 0; have hfz34_1 := zf BK226.out 1; have hfz34_2 := zf BK226.out 2; have hfz34_3 := zf BK226.out 3; have hfz34_4 := zf BK226.out 4; have hfz34_5 := zf BK226.out 5) | ((with_reducible refine zt (f := 90) rfl ?_); refine zka (some 52) rfl rfl Tryz.func90 (by kernel_rfl) rfl #[.agg #[.int .u8 ((zm ((zj l0 x37_3).f4) x44_4).f0), .int .i64 ((zm ((zj l0 x37_3).f4) x44_4).f1), .int .i64 ((zm ((zj l0 x37_3).f4) x44_4).f2), .slice A225_3 ((zm ((zj l0 x37_3).f4) x44_4).f3.f0).length c225_3, .slice A225_4 ((zm ((zj l0 x37_3).f4) x44_4).f3.f1).length c225_4, .int .i64 ((zm ((zj l0 x37_3).f4) x44_4).f3.f2)], .slice (some ad223) l0.length c0, .slice A1 l1.length c1] rfl (by (try simp only [List.map_toArray, List.map_cons, List.map_nil]); first | done | rfl | (simp only [List.length_drop, List.length_take]; rfl)) ?_; (with_reducible refine (tasks_clock.calls k4 ((zm ((zj l0 x37_3).f4) x44_4).f0) ((zm ((zj l0 x37_3).f4) x44_4).f1) ((zm ((zj l0 x37_3).f4) x44_4).f2) _ _ ((zm ((zj l0 x37_3).f4) x44_4).f3.f0) _ _ ((zm ((zj l0 x37_3).f4) x44_4).f3.f1) ((zm ((zj l0 x37_3).f4) x44_4).f3.f2) _ _ l0 _ _ l1 t227 t228 true _ ?side1 ?side2 ?side3 ?side4 ?side5 ?side6 ?side7 ?side8 A28.out).mono ?_); (case side1 => exact Kd.zu HR225_3.out (by repeat with_reducible first | exact HB.out | apply zd | apply za | apply ze | refine zk ?_ GE224.out | refine zk ?_ GE226.out)); (case side2 => exact HC225_3.out); (case side3 => exact Kd.zu HR225_4.out (by repeat with_reducible first | exact HB.out | apply zd | apply za | apply ze | refine zk ?_ GE224.out | refine zk ?_ GE226.out)); (case side4 => exact HC225_4.out); (case side5 => exact Kd.zu HR0.out (by repeat with_reducible first | exact HB.out | apply zd | apply za | apply ze | refine zk ?_ GE224.out | refine zk ?_ GE226.out)); (case side6 => exact HC0.out); (case side7 => exact Kd.zu HR1.out (by repeat with_reducible first | exact HB.out | apply zd | apply za | apply ze | refine zk ?_ GE224.out | refine zk ?_ GE226.out)); (case side8 => exact HC1.out); rintro e w35 ⟨rfl, hb⟩; refine ⟨_, rfl, ?_⟩; have n0_ := zb.mk (zr (g := gb224) (o := .cells #[.int .i64 ((zj l0 x37_3).f0.f0), .int .i64 ((zj l0 x37_3).f0.f1), .int .i64 ((zj l0 x37_3).f1), .int .i64 ((zj l0 x37_3).f2), .int .i64 ((zj l0 x37_3).f3), .slice (some ad225) ((zj l0 x37_3).f4).length c223_5, .int .i64 ((zj l0 x37_3).f5)] 78 (0, 0)) (by (with_reducible repeat first | apply zi | apply zl | apply zh); refine zha ?_ NB224_226.out _; (with_reducible repeat first | apply zi | apply zl | apply zh); refine zha ?_ NB224_226.out _; (with_reducible repeat first | apply zi | apply zl | apply zh); refine zha ?_ NB224_226.out _; (with_reducible repeat first | apply zi | apply zl | apply zh); refine zha ?_ NB224_226.out _; (with_reducible repeat first | apply zi | apply zl | apply zh); refine zha ?_ NB224_226.out _; (with_reducible repeat first | apply zi | apply zl | apply zh); refine zha ?_ NB224_226.out _; (with_reducible repeat first | apply zi | apply zl | apply zh); exact BK224.out) hb); have n1_ := zb.mk (zr (g := gb226) (o := .cells #[.int .u8 ((zm ((zj l0 x37_3).f4) x44_4).f0), .int .i64 ((zm ((zj l0 x37_3).f4) x44_4).f1), .int .i64 ((zm ((zj l0 x37_3).f4) x44_4).f2), .slice A225_3 ((zm ((zj l0 x37_3).f4) x44_4).f3.f0).length c225_3, .slice A225_4 ((zm ((zj l0 x37_3).f4) x44_4).f3.f1).length c225_4, .int .i64 ((zm ((zj l0 x37_3).f4) x44_4).f3.f2)] 75 (0, 0)) (by (with_reducible repeat first | apply zi | apply zl | apply zh); refine zba (cs := #[.int .u8 ((zm ((zj l0 x37_3).f4) x44_4).f0), .int .i64 ((zm ((zj l0 x37_3).f4) x44_4).f1), .int .i64 ((zm ((zj l0 x37_3).f4) x44_4).f2), .slice A225_3 ((zm ((zj l0 x37_3).f4) x44_4).f3.f0).length c225_3, .slice A225_4 ((zm ((zj l0 x37_3).f4) x44_4).f3.f1).length c225_4, .int .i64 0]) ?_ 5 _ rfl; (with_reducible repeat first | apply zi | apply zl | apply zh); refine zba (cs := #[.int .u8 ((zm ((zj l0 x37_3).f4) x44_4).f0), .int .i64 ((zm ((zj l0 x37_3).f4) x44_4).f1), .int .i64 ((zm ((zj l0 x37_3).f4) x44_4).f2), .slice A225_3 ((zm ((zj l0 x37_3).f4) x44_4).f3.f0).length c225_3, .slice none 0 0, .int .i64 0]) ?_ 4 _ rfl; (with_reducible repeat first | apply zi | apply zl | apply zh); refine zba (cs := #[.int .u8 ((zm ((zj l0 x37_3).f4) x44_4).f0), .int .i64 ((zm ((zj l0 x37_3).f4) x44_4).f1), .int .i64 ((zm ((zj l0 x37_3).f4) x44_4).f2), .slice none 0 0, .slice none 0 0, .int .i64 0]) ?_ 3 _ rfl; (with_reducible repeat first | apply zi | apply zl | apply zh); refine zba (cs := #[.int .u8 ((zm ((zj l0 x37_3).f4) x44_4).f0), .int .i64 ((zm ((zj l0 x37_3).f4) x44_4).f1), .int .i64 0, .slice none 0 0, .slice none 0 0, .int .i64 0]) ?_ 2 _ rfl; (with_reducible repeat first | apply zi | apply zl | apply zh); refine zba (cs := #[.int .u8 ((zm ((zj l0 x37_3).f4) x44_4).f0), .int .i64 0, .int .i64 0, .slice none 0 0, .slice none 0 0, .int .i64 0]) ?_ 1 _ rfl; (with_reducible repeat first | apply zi | apply zl | apply zh); refine zba (cs := #[.int .u8 0, .int .i64 0, .int .i64 0, .slice none 0 0, .slice none 0 0, .int .i64 0]) ?_ 0 _ rfl; (with_reducible repeat first | apply zi | apply zl | apply zh); exact BK226.out) hb); have n2_ := zb.mk (zo (by repeat with_reducible first | exact HB.out | apply zd | apply za | apply ze | refine zk ?_ GE224.out | refine zk ?_ GE226.out) hb); clear BK224; clear BK226; clear HB; have BK224 := n0_; have BK226 := n1_; have HB := n2_; clear n0_ n1_ n2_; (try clear hb)) | ((with_reducible refine zda (N := 11) rfl ?_); (try (refine zta (by rfl) ?_; dsimp only)); refine zaa ?hg (N := 11) ?hd (cs := #[.int .i64 0, .int .i64 0]) (t := 68) ?hr ?_; (case hd => rfl); (case hg => rfl); (case hr => first | (go_simp; done) | (go_simp; rfl)); intro gb230 hg w36 hbox hb; have n0_ := zb.mk (zr (g := gb224) (o := .cells #[.int .i64 ((zj l0 x37_3).f0.f0), .int .i64 ((zj l0 x37_3).f0.f1), .int .i64 ((zj l0 x37_3).f1), .int .i64 ((zj l0 x37_3).f2), .int .i64 ((zj l0 x37_3).f3), .slice (some ad225) ((zj l0 x37_3).f4).length c223_5, .int .i64 ((zj l0 x37_3).f5)] 78 (0, 0)) (by (with_reducible repeat first | apply zi | apply zl | apply zh); exact BK224.out) hb); have n1_ := zb.mk (zr (g := gb226) (o := .cells #[.int .u8 ((zm ((zj l0 x37_3).f4) x44_4).f0), .int .i64 ((zm ((zj l0 x37_3).f4) x44_4).f1), .int .i64 ((zm ((zj l0 x37_3).f4) x44_4).f2), .slice A225_3 ((zm ((zj l0 x37_3).f4) x44_4).f3.f0).length c225_3, .slice A225_4 ((zm ((zj l0 x37_3).f4) x44_4).f3.f1).length c225_4, .int .i64 ((zm ((zj l0 x37_3).f4) x44_4).f3.f2)] 75 (0, 0)) (by (with_reducible repeat first | apply zi | apply zl | apply zh); exact BK226.out) hb); have n2_ := zb.mk (zo (by repeat with_reducible first | exact HB.out | apply zd | apply za | apply ze | refine zk ?_ GE224.out | refine zk ?_ GE226.out) hb); have n3_ := zb.mk (hbox); have n4_ := zb.mk ((by rw [hg]; exact (zn (by repeat with_reducible first | exact HB.out | apply zd | apply za | apply ze | refine zk ?_ GE224.out | refine zk ?_ GE226.out)) : w.heap.size ≤ gb230)); have n5_ := zb.mk ((by rw [hg]; exact (zn (by repeat with_reducible first | exact HB.out | apply zd | apply za | apply ze | refine zk ?_ GE224.out | refine zk ?_ GE226.out)) : w.heap.size ≤ gb230)); have n6_ := zb.mk ((by rw [hg]; exact Nat.ne_of_lt (zja (g := gb224) (o := .cells #[.int .i64 ((zj l0 x37_3).f0.f0), .int .i64 ((zj l0 x37_3).f0.f1), .int .i64 ((zj l0 x37_3).f1), .int .i64 ((zj l0 x37_3).f2), .int .i64 ((zj l0 x37_3).f3), .slice (some ad225) ((zj l0 x37_3).f4).length c223_5, .int .i64 ((zj l0 x37_3).f5)] 78 (0, 0)) (by (with_reducible repeat first | apply zi | apply zl | apply zh); exact BK224.out)) : gb224 ≠ gb230)); have n7_ := zb.mk ((by rw [hg]; exact Nat.ne_of_gt (zja (g := gb224) (o := .cells #[.int .i64 ((zj l0 x37_3).f0.f0), .int .i64 ((zj l0 x37_3).f0.f1), .int .i64 ((zj l0 x37_3).f1), .int .i64 ((zj l0 x37_3).f2), .int .i64 ((zj l0 x37_3).f3), .slice (some ad225) ((zj l0 x37_3).f4).length c223_5, .int .i64 ((zj l0 x37_3).f5)] 78 (0, 0)) (by (with_reducible repeat first | apply zi | apply zl | apply zh); exact BK224.out)) : gb230 ≠ gb224)); have n8_ := zb.mk ((by rw [hg]; exact Nat.ne_of_lt (zja (g := gb226) (o := .cells #[.int .u8 ((zm ((zj l0 x37_3).f4) x44_4).f0), .int .i64 ((zm ((zj l0 x37_3).f4) x44_4).f1), .int .i64 ((zm ((zj l0 x37_3).f4) x44_4).f2), .slice A225_3 ((zm ((zj l0 x37_3).f4) x44_4).f3.f0).length c225_3, .slice A225_4 ((zm ((zj l0 x37_3).f4) x44_4).f3.f1).length c225_4, .int .i64 ((zm ((zj l0 x37_3).f4) x44_4).f3.f2)] 75 (0, 0)) (by (with_reducible repeat first | apply zi | apply zl | apply zh); exact BK226.out)) : gb226 ≠ gb230)); have n9_ := zb.mk ((by rw [hg]; exact Nat.ne_of_gt (zja (g := gb226) (o := .cells #[.int .u8 ((zm ((zj l0 x37_3).f4) x44_4).f0), .int .i64 ((zm ((zj l0 x37_3).f4) x44_4).f1), .int .i64 ((zm ((zj l0 x37_3).f4) x44_4).f2), .slice A225_3 ((zm ((zj l0 x37_3).f4) x44_4).f3.f0).length c225_3, .slice A225_4 ((zm ((zj l0 x37_3).f4) x44_4).f3.f1).length c225_4, .int .i64 ((zm ((zj l0 x37_3).f4) x44_4).f3.f2)] 75 (0, 0)) (by (with_reducible repeat first | apply zi | apply zl | apply zh); exact BK226.out)) : gb230 ≠ gb226)); clear BK224; clear BK226; clear HB; have BK224 := n0_; have BK226 := n1_; have HB := n2_; have BK230 := n3_; have GW230 := n4_; have GE230 := n5_; have NB224_230 := n6_; have NB230_224 := n7_; have NB226_230 := n8_; have NB230_226 := n9_; clear n0_ n1_ n2_ n3_ n4_ n5_ n6_ n7_ n8_ n9_; clear hb hbox hg; have hnb37 := NB230_224.out; have hnc37 := NB224_230.out; have hnb38 := NB230_226.out; have hnc38 := NB226_230.out; have hcz39_0 : w36.cell? ⟨gb230, 0, none⟩ = some (.int .i64 0) := (zg BK230.out 0).trans rfl; have hcz39_1 : w36.cell? ⟨gb230, 1, none⟩ = some (.int .i64 0) := (zg BK230.out 1).trans rfl; have hfz39_0 := zf BK230.out 0; have hfz39_1 := zf BK230.out 1; have hcz40_0 : w36.cell? ⟨gb226, 0, none⟩ = some (.int .u8 ((zm ((zj l0 x37_3).f4) x44_4).f0)) := (zg BK226.out 0).trans rfl; have hcz40_1 : w36.cell? ⟨gb226, 1, none⟩ = some (.int .i64 ((zm ((zj l0 x37_3).f4) x44_4).f1)) := (zg BK226.out 1).trans rfl; have hcz40_2 : w36.cell? ⟨gb226, 2, none⟩ = some (.int .i64 ((zm ((zj l0 x37_3).f4) x44_4).f2)) := (zg BK226.out 2).trans rfl; have hcz40_3 : w36.cell? ⟨gb226, 3, none⟩ = some (.slice A225_3 ((zm ((zj l0 x37_3).f4) x44_4).f3.f0).length c225_3) := (zg BK226.out 3).trans rfl; have hcz40_4 : w36.cell? ⟨gb226, 4, none⟩ = some (.slice A225_4 ((zm ((zj l0 x37_3).f4) x44_4).f3.f1).length c225_4) := (zg BK226.out 4).trans rfl; have hcz40_5 : w36.cell? ⟨gb226, 5, none⟩ = some (.int .i64 ((zm ((zj l0 x37_3).f4) x44_4).f3.f2)) := (zg BK226.out 5).trans rfl; have hfz40_0 := zf BK226.out 0; have hfz40_1 := zf BK226.out 1; have hfz40_2 := zf BK226.out 2; have hfz40_3 := zf BK226.out 3; have hfz40_4 := zf BK226.out 4; have hfz40_5 := zf BK226.out 5; have hcz41_0 : w36.cell? ⟨gb224, 0, none⟩ = some (.int .i64 ((zj l0 x37_3).f0.f0)) := (zg BK224.out 0).trans rfl; have hcz41_1 : w36.cell? ⟨gb224, 1, none⟩ = some (.int .i64 ((zj l0 x37_3).f0.f1)) := (zg BK224.out 1).trans rfl; have hcz41_2 : w36.cell? ⟨gb224, 2, none⟩ = some (.int .i64 ((zj l0 x37_3).f1)) := (zg BK224.out 2).trans rfl; have hcz41_3 : w36.cell? ⟨gb224, 3, none⟩ = some (.int .i64 ((zj l0 x37_3).f2)) := (zg BK224.out 3).trans rfl; have hcz41_4 : w36.cell? ⟨gb224, 4, none⟩ = some (.int .i64 ((zj l0 x37_3).f3)) := (zg BK224.out 4).trans rfl; have hcz41_5 : w36.cell? ⟨gb224, 5, none⟩ = some (.slice (some ad225) ((zj l0 x37_3).f4).length c223_5) := (zg BK224.out 5).trans rfl; have hcz41_6 : w36.cell? ⟨gb224, 6, none⟩ = some (.int .i64 ((zj l0 x37_3).f5)) := (zg BK224.out 6).trans rfl; have hfz41_0 := zf BK224.out 0; have hfz41_1 := zf BK224.out 1; have hfz41_2 := zf BK224.out 2; have hfz41_3 := zf BK224.out 3; have hfz41_4 := zf BK224.out 4; have hfz41_5 := zf BK224.out 5; have hfz41_6 := zf BK224.out 6) | (go_at_call 91; (with_reducible refine (tasks_mayRead.calls k4 _ _ ((zm ((zj l0 x37_3).f4) x44_4).f3.f0) _ _ ((zm ((zj l0 x37_3).f4) x44_4).f3.f1) ((zm ((zj l0 x37_3).f4) x44_4).f3.f2) ((zj l0 x37_3).f0.f0) ((zj l0 x37_3).f0.f1) t227 t228 true _ ?side1 ?side2 ?side3 ?side4 A30.out).mono ?_); (case side1 => exact Kd.zu HR225_3.out (by repeat with_reducible first | exact HB.out | apply zd | apply za | apply ze | refine zk ?_ GE224.out | refine zk ?_ GE226.out | refine zk ?_ GE230.out)); (case side2 => exact HC225_3.out); (case side3 => exact Kd.zu HR225_4.out (by repeat with_reducible first | exact HB.out | apply zd | apply za | apply ze | refine zk ?_ GE224.out | refine zk ?_ GE226.out | refine zk ?_ GE230.out)); (case side4 => exact HC225_4.out); rintro e w42 ⟨rfl, hb⟩; have n0_ := zb.mk (zr (g := gb224) (o := .cells #[.int .i64 ((zj l0 x37_3).f0.f0), .int .i64 ((zj l0 x37_3).f0.f1), .int .i64 ((zj l0 x37_3).f1), .int .i64 ((zj l0 x37_3).f2), .int .i64 ((zj l0 x37_3).f3), .slice (some ad225) ((zj l0 x37_3).f4).length c223_5, .int .i64 ((zj l0 x37_3).f5)] 78 (0, 0)) (by (with_reducible repeat first | apply zi | apply zl | apply zh); refine zha ?_ NB224_230.out _; (with_reducible repeat first | apply zi | apply zl | apply zh); refine zha ?_ NB224_230.out _; (with_reducible repeat first | apply zi | apply zl | apply zh); exact BK224.out) hb); have n1_ := zb.mk (zr (g := gb226) (o := .cells #[.int .u8 ((zm ((zj l0 x37_3).f4) x44_4).f0), .int .i64 ((zm ((zj l0 x37_3).f4) x44_4).f1), .int .i64 ((zm ((zj l0 x37_3).f4) x44_4).f2), .slice A225_3 ((zm ((zj l0 x37_3).f4) x44_4).f3.f0).length c225_3, .slice A225_4 ((zm ((zj l0 x37_3).f4) x44_4).f3.f1).length c225_4, .int .i64 ((zm ((zj l0 x37_3).f4) x44_4).f3.f2)] 75 (0, 0)) (by (with_reducible repeat first | apply zi | apply zl | apply zh); refine zha ?_ NB226_230.out _; (with_reducible repeat first | apply zi | apply zl | apply zh); refine zha ?_ NB226_230.out _; (with_reducible repeat first | apply zi | apply zl | apply zh); exact BK226.out) hb); have n2_ := zb.mk (zr (g := gb230) (o := .cells #[.int .i64 t227, .int .i64 t228] 68 (0, 0)) (by (with_reducible repeat first | apply zi | apply zl | apply zh); refine zba (cs := #[.int .i64 t227, .int .i64 0]) ?_ 1 _ rfl; (with_reducible repeat first | apply zi | apply zl | apply zh); refine zba (cs := #[.int .i64 0, .int .i64 0]) ?_ 0 _ rfl; (with_reducible repeat first | apply zi | apply zl | apply zh); exact BK230.out) hb); have n3_ := zb.mk (zo (by repeat with_reducible first | exact HB.out | apply zd | apply za | apply ze | refine zk ?_ GE224.out | refine zk ?_ GE226.out | refine zk ?_ GE230.out) hb); clear BK224; clear BK226; clear BK230; clear HB; have BK224 := n0_; have BK226 := n1_; have BK230 := n2_; have HB := n3_; clear n0_ n1_ n2_ n3_; (try clear hb)))
                   go_roundg k4
                   case measure => have := HJ2.out; have := HK2.out; have := HK3.out; have := HK4.out; omega
                   case rel => exact ⟨(wrap64 (x44_4 + 1)), (by first | rfl | (simp; done) | (simp [*]; done)), H', ⟨by have := HJ2.out; have := HK2.out; have := HK3.out; have := HK4.out; omega⟩, ⟨by (with_reducible repeat first | apply zi | apply zl | apply zh); exact BK224.out⟩, ⟨by repeat with_reducible first | exact HB.out | apply zd | apply za | apply ze | refine zk ?_ GE224.out | refine zk ?_ GE226.out | refine zk ?_ GE230.out⟩⟩
                  ·replace c31 := Bool.eq_false_iff.mpr c31
                   subst c31
                   have H1 : (some 2) = some (0 : Int) := by rw [if_neg (show ¬ (false = true) by decide)] at H; exact H
                   exact absurd (Option.some.inj H1) (by decide)
                 ·replace c29 := Bool.eq_false_iff.mpr c29
                  subst c29
                  have H1 : (some 2) = some (0 : Int) := by rw [if_neg (show ¬ (false = true) by decide)] at H; exact H
                  exact absurd (Option.some.inj H1) (by decide)
                ·rw [if_neg c27] at H
                 exact absurd H (by simp)
               ·rw [if_neg c26] at H
                exact absurd H (by simp)
              ·rw [if_neg c25] at H
               have c25b0 : decide (x44_4 < (((zj l0 x37_3).f4).length : Int)) = false := decide_eq_false c25
               clear c25
               have H' := zb.mk H
               clear H
               go_wp2
               go_roundg k4
               case measure => have := HJ2.out; have := HK2.out; have := HK3.out; have := HK4.out; omega
               case rel => exact ⟨(wrap64 (x37_3 + 1)), (by first | rfl | (simp; done) | (simp [*]; done)), H', ⟨by have := HJ2.out; have := HK2.out; have := HK3.out; have := HK4.out; omega⟩, ⟨by repeat with_reducible first | exact HB.out | apply zd | apply za | apply ze | refine zk ?_ GE224.out⟩⟩
           ·rw [if_neg c22] at H
            exact absurd H (by simp)
          ·rw [if_neg c21] at H
           exact absurd H (by simp)
         ·rw [if_neg c20] at H
          have c20b0 : decide (x37_3 < (l0.length : Int)) = false := decide_eq_false c20
          clear c20
          clear H
          go_wp2
          go_ret
          exact ⟨by first | rfl | (simp [zp, zq] <;> rfl) | (simp [*, zp, zq] <;> rfl), by repeat with_reducible first | exact HB.out | apply zd | apply za | apply ze⟩
end
end Go.Proofs.YtfondhcppjkchaaGreat.Q
