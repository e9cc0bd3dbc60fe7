-- Lean text written by a program of this session (turned after the kit's print), checked by Lean.
import Derived.Test.YtlmmdpdkddmklabQx0
import Derived.Test.YtlmmdpdkddmklabQx3
import Derived.Test.YtlmmdpdkddmklabHand
namespace Go.Proofs.Ytlmmdpdkddmklab.Q
open Go.RowKit Go.Proofs.YtlmmdpdkddmklabW.PrintWords Go.Proofs.YtlmmdpdkddmklabW.PrintLast Go.Proofs.YtlmmdpdkddmklabW.PrintMore
attribute [local go_sem] max2_int min2_int max_two min_two max_three min_three max_four min_four   -- for this text's walks alone
set_option linter.unusedVariables false
set_option linter.unusedSimpArgs false

/-! ### carillonref23_Worst: function 16 -/
mutual
def carillonref23_Worst.l0 : Nat → List (S38) → Int → Int → Int → Bool → Int → Option (Int × Int × Bool)
  | 0, _, _, _, _, _, _ => none
  | k + 1, x0, x1, x7, x8, x9, x10 => if x10 < (x0.length : Int) then (carillonref23_Worst.l1 k x0 x1 x7 x8 x9 x10 0) else (some (x7, x8, x9))
def carillonref23_Worst.l1 : Nat → List (S38) → Int → Int → Int → Bool → Int → Int → Option (Int × Int × Bool)
  | 0, _, _, _, _, _, _, _ => none
  | k + 1, x0, x1, x7, x8, x9, x10, x11 => if x11 < (x0.length : Int) then (if 0 ≤ x10 then (if x10 < (x0.length : Int) then (if 0 ≤ x11 then (if ((rd_T38 x0 x11).f1) ≤ ((rd_T38 x0 x10).f0) then (carillonref23_Worst.j2 k x0 x1 x7 x8 x9 x10 x11 ((rd_T38 x0 x10).f0) ((rd_T38 x0 x11).f1) true) else (if x9 = true then (if ((rd_T38 x0 x10).f0) > x7 then (carillonref23_Worst.j2 k x0 x1 x7 x8 x9 x10 x11 ((rd_T38 x0 x10).f0) ((rd_T38 x0 x11).f1) true) else (if ((rd_T38 x0 x10).f0) = x7 then (carillonref23_Worst.j2 k x0 x1 x7 x8 x9 x10 x11 ((rd_T38 x0 x10).f0) ((rd_T38 x0 x11).f1) (decide (((rd_T38 x0 x11).f1) ≥ x8))) else (carillonref23_Worst.j2 k x0 x1 x7 x8 x9 x10 x11 ((rd_T38 x0 x10).f0) ((rd_T38 x0 x11).f1) false))) else (carillonref23_Worst.j2 k x0 x1 x7 x8 x9 x10 x11 ((rd_T38 x0 x10).f0) ((rd_T38 x0 x11).f1) false))) else (none)) else (none)) else (none)) else (carillonref23_Worst.l0 k x0 x1 x7 x8 x9 (wrap64 (x10 + 1)))
def carillonref23_Worst.j2 : Nat → List (S38) → Int → Int → Int → Bool → Int → Int → Int → Int → Bool → Option (Int × Int × Bool)
  | 0, _, _, _, _, _, _, _, _, _, _ => none
  | k + 1, x0, x1, x7, x8, x9, x10, x11, x12, x13, x57 => if x57 = true then (carillonref23_Worst.l1 k x0 x1 x7 x8 x9 x10 (wrap64 (x11 + 1))) else ((carillonref23_Of.f k x0 x12 x13).bind fun t159 => (if t159 > 0 then (if (wrap64 (t159 + x1)) > (wrap64 (x13 - x12)) then (carillonref23_Worst.l1 k x0 x1 x12 x13 true x10 (wrap64 (x11 + 1))) else (carillonref23_Worst.l1 k x0 x1 x7 x8 x9 x10 (wrap64 (x11 + 1)))) else (carillonref23_Worst.l1 k x0 x1 x7 x8 x9 x10 (wrap64 (x11 + 1)))))
end
def carillonref23_Worst.f (k : Nat) (l0 : List (S38)) (a1 : Int) : Option (Int × Int × Bool) := carillonref23_Worst.l0 k l0 a1 0 0 false 0
theorem carillonref23_Worst.mono_l : ∀ k, (∀ y0 y1 y2 y3 y4 y5, LeO (carillonref23_Worst.l0 k y0 y1 y2 y3 y4 y5) (carillonref23_Worst.l0 (k + 1) y0 y1 y2 y3 y4 y5)) ∧ (∀ y0 y1 y2 y3 y4 y5 y6, LeO (carillonref23_Worst.l1 k y0 y1 y2 y3 y4 y5 y6) (carillonref23_Worst.l1 (k + 1) y0 y1 y2 y3 y4 y5 y6)) ∧ (∀ y0 y1 y2 y3 y4 y5 y6 y7 y8 y9, LeO (carillonref23_Worst.j2 k y0 y1 y2 y3 y4 y5 y6 y7 y8 y9) (carillonref23_Worst.j2 (k + 1) y0 y1 y2 y3 y4 y5 y6 y7 y8 y9))
  | 0 => ⟨fun _ _ _ _ _ _ r h => by simp [carillonref23_Worst.l0] at h, fun _ _ _ _ _ _ _ r h => by simp [carillonref23_Worst.l1] at h, fun _ _ _ _ _ _ _ _ _ _ r h => by simp [carillonref23_Worst.j2] at h⟩
  | k + 1 => by
    obtain ⟨ih0, ih1, ih2⟩ := carillonref23_Worst.mono_l k
    refine ⟨?_, ?_, ?_⟩
    · intro y0 y1 y2 y3 y4 y5
      unfold carillonref23_Worst.l0
      repeat' first
      | (with_reducible exact ih0 _ _ _ _ _ _)
      | (with_reducible exact ih1 _ _ _ _ _ _ _)
      | (with_reducible exact ih2 _ _ _ _ _ _ _ _ _ _)
      | (with_reducible exact carillonref23_Of.mono _ _ _ _)
      | (with_reducible exact LeO.refl _)
      | (with_reducible exact LeO.none _)
      | (with_reducible refine LeO.ite ?_ ?_)
      | (with_reducible refine LeO.bind ?_ (fun _ => ?_))
      | exact ih0 _ _ _ _ _ _
      | exact ih1 _ _ _ _ _ _ _
      | exact ih2 _ _ _ _ _ _ _ _ _ _
      | exact carillonref23_Of.mono _ _ _ _
      | exact LeO.none _
      | refine LeO.ite ?_ ?_
      | refine LeO.bind ?_ (fun _ => ?_)
    · intro y0 y1 y2 y3 y4 y5 y6
      unfold carillonref23_Worst.l1
      repeat' first
      | (with_reducible exact ih0 _ _ _ _ _ _)
      | (with_reducible exact ih1 _ _ _ _ _ _ _)
      | (with_reducible exact ih2 _ _ _ _ _ _ _ _ _ _)
      | (with_reducible exact carillonref23_Of.mono _ _ _ _)
      | (with_reducible exact LeO.refl _)
      | (with_reducible exact LeO.none _)
      | (with_reducible refine LeO.ite ?_ ?_)
      | (with_reducible refine LeO.bind ?_ (fun _ => ?_))
      | exact ih0 _ _ _ _ _ _
      | exact ih1 _ _ _ _ _ _ _
      | exact ih2 _ _ _ _ _ _ _ _ _ _
      | exact carillonref23_Of.mono _ _ _ _
      | exact LeO.none _
      | refine LeO.ite ?_ ?_
      | refine LeO.bind ?_ (fun _ => ?_)
    · intro y0 y1 y2 y3 y4 y5 y6 y7 y8 y9
      unfold carillonref23_Worst.j2
      repeat' first
      | (with_reducible exact ih0 _ _ _ _ _ _)
      | (with_reducible exact ih1 _ _ _ _ _ _ _)
      | (with_reducible exact ih2 _ _ _ _ _ _ _ _ _ _)
      | (with_reducible exact carillonref23_Of.mono _ _ _ _)
      | (with_reducible exact LeO.refl _)
      | (with_reducible exact LeO.none _)
      | (with_reducible refine LeO.ite ?_ ?_)
      | (with_reducible refine LeO.bind ?_ (fun _ => ?_))
      | exact ih0 _ _ _ _ _ _
      | exact ih1 _ _ _ _ _ _ _
      | exact ih2 _ _ _ _ _ _ _ _ _ _
      | exact carillonref23_Of.mono _ _ _ _
      | exact LeO.none _
      | refine LeO.ite ?_ ?_
      | refine LeO.bind ?_ (fun _ => ?_)
theorem carillonref23_Worst.mono : ∀ a0 a1 k, LeO (carillonref23_Worst.f k a0 a1) (carillonref23_Worst.f (k + 1) a0 a1) := by
  intro a0 a1 k
  obtain ⟨ih0, ih1, ih2⟩ := carillonref23_Worst.mono_l k
  unfold carillonref23_Worst.f
  repeat' first
      | (with_reducible exact ih0 _ _ _ _ _ _)
      | (with_reducible exact ih1 _ _ _ _ _ _ _)
      | (with_reducible exact ih2 _ _ _ _ _ _ _ _ _ _)
      | (with_reducible exact carillonref23_Of.mono _ _ _ _)
      | (with_reducible exact LeO.refl _)
      | (with_reducible exact LeO.none _)
      | (with_reducible refine LeO.ite ?_ ?_)
      | (with_reducible refine LeO.bind ?_ (fun _ => ?_))
      | exact ih0 _ _ _ _ _ _
      | exact ih1 _ _ _ _ _ _ _
      | exact ih2 _ _ _ _ _ _ _ _ _ _
      | exact carillonref23_Of.mono _ _ _ _
      | exact LeO.none _
      | refine LeO.ite ?_ ?_
      | refine LeO.bind ?_ (fun _ => ?_)
set_option maxHeartbeats 8000000 in
set_option maxRecDepth 100000 in
theorem carillonref23_Worst.calls (k : Nat) (A0 : Option Addr) (c0 : Nat) (l0 : List (S38)) (a1 : Int) (r1 : Int) (r2 : Int) (r3 : Bool) (w : World) (hr0 : Kd.C k38 w A0 l0.length l0) (hc0 : l0.length ≤ c0) (h : carillonref23_Worst.f k l0 a1 = some (r1, r2, r3)) :
    Calls Try.prog 16 #[.slice A0 l0.length c0, .int .i64 a1] w fun e w' => e = .returned (.tuple #[.int .i64 r1, .int .i64 r2, .bool r3]) ∧ Drawn0 w w' := by
  have HR0 := Aside0.mk hr0
  have HC0 := Aside0.mk hc0
  clear hr0 hc0
  have H : (carillonref23_Worst.l0 k l0 a1 0 0 false 0) = some (r1, r2, r3) := h
  clear h
  have H' := Aside0.mk H
  clear H
  go_enter Try.func16, Try.ntmps16
  go_wp2
  repeat (go_quiet (fail); try go_wp2)
  go_loopg [7, 8, 9, 10] k (fun kq v7 v8 v9 v10 w' => ∃ (x7_1 : Int) (x8_1 : Int) (x9_1 : Bool) (x10_1 : Int), v7 = .int .i64 x7_1 ∧ v8 = .int .i64 x8_1 ∧ v9 = .bool x9_1 ∧ v10 = .int .i64 x10_1 ∧ Aside0 (carillonref23_Worst.l0 kq l0 a1 x7_1 x8_1 x9_1 x10_1 = some (r1, r2, r3)) ∧ Aside0 (kq ≤ k) ∧ Drawn0 w w')
  case atStart => exact ⟨(0), (0), (false), (0), (by first | rfl | (simp; done) | (simp [*]; done)), (by first | rfl | (simp; done) | (simp [*]; done)), (by first | rfl | (simp; done) | (simp [*]; done)), (by first | rfl | (simp; done) | (simp [*]; done)), H', ⟨Nat.le_refl _⟩, by repeat (first | exact Drawn0.refl _ | apply Drawn0.step)⟩
  case round =>
    clear H'
    try clear c1
    try clear p2
    obtain ⟨x7_1, x8_1, x9_1, x10_1, rfl, rfl, rfl, rfl, HA, HK1, ⟨m1, rfl⟩⟩ := hrel
    cases gk with
    | zero => exact absurd HA.out (by simp [carillonref23_Worst.l0])
    | succ k1 =>
      have H := HA.out
      clear HA
      simp only [carillonref23_Worst.l0] at H
      by_cases c3 : x10_1 < (l0.length : Int)
      · rw [if_pos c3] at H
        have c3b0 : decide (x10_1 < (l0.length : Int)) = true := decide_eq_true c3
        clear c3
        have H' := Aside0.mk H
        clear H
        go_wp2
        repeat (go_quiet (fail); try go_wp2)
        go_loopg [7, 8, 9, 11] k1 (fun kq v7 v8 v9 v11 w' => ∃ (x7_2 : Int) (x8_2 : Int) (x9_2 : Bool) (x11_2 : Int), v7 = .int .i64 x7_2 ∧ v8 = .int .i64 x8_2 ∧ v9 = .bool x9_2 ∧ v11 = .int .i64 x11_2 ∧ Aside0 (carillonref23_Worst.l1 kq l0 a1 x7_2 x8_2 x9_2 x10_1 x11_2 = some (r1, r2, r3)) ∧ Aside0 (kq ≤ k1) ∧ Drawn0 w w')
        case atStart => exact ⟨(x7_1), (x8_1), (x9_1), (0), (by first | rfl | (simp; done) | (simp [*]; done)), (by first | rfl | (simp; done) | (simp [*]; done)), (by first | rfl | (simp; done) | (simp [*]; done)), (by first | rfl | (simp; done) | (simp [*]; done)), H', ⟨Nat.le_refl _⟩, by repeat (first | exact Drawn0.refl _ | apply Drawn0.step)⟩
        case round =>
          clear H'
          try clear c1
          try clear p2
          try clear c3
          try clear c3b0
          try clear p2
          obtain ⟨x7_2, x8_2, x9_2, x11_2, rfl, rfl, rfl, rfl, HA, HK2, ⟨m2, rfl⟩⟩ := hrel
          cases gk with
          | zero => exact absurd HA.out (by simp [carillonref23_Worst.l1])
          | succ k2 =>
            have H := HA.out
            clear HA
            simp only [carillonref23_Worst.l1] at H
            by_cases c4 : x11_2 < (l0.length : Int)
            · rw [if_pos c4] at H
              have c4b0 : decide (x11_2 < (l0.length : Int)) = true := decide_eq_true c4
              clear c4
              by_cases c5 : 0 ≤ x10_1
              · rw [if_pos c5] at H
                have c5b0 : decide (0 ≤ x10_1) = true := decide_eq_true c5
                clear c5
                by_cases c6 : x10_1 < (l0.length : Int)
                · rw [if_pos c6] at H
                  have c6b0 : decide (x10_1 < (l0.length : Int)) = true := decide_eq_true c6
                  clear c6
                  by_cases c7 : 0 ≤ x11_2
                  · rw [if_pos c7] at H
                    have c7b0 : decide (0 ≤ x11_2) = true := decide_eq_true c7
                    clear c7
                    have HC8 := Aside0.mk H
                    clear H
                    have p157 : 0 ≤ (x10_1 : Int) := of_decide_eq_true (by first | (with_reducible assumption) | assumption)
                    have q157 : x10_1 < (l0.length : Int) := of_decide_eq_true (by first | (with_reducible assumption) | assumption)
                    obtain ⟨ad157, e157, hx157_0, hx157_1, hx157_2⟩ := at_T38 HR0.out x10_1 p157 q157
                    cases e157
                    replace p157 := eq_true p157
                    replace q157 := eq_true q157
                    have p158 : 0 ≤ (x11_2 : Int) := of_decide_eq_true (by first | (with_reducible assumption) | assumption)
                    have q158 : x11_2 < (l0.length : Int) := of_decide_eq_true (by first | (with_reducible assumption) | assumption)
                    obtain ⟨ad158, e158, hx158_0, hx158_1, hx158_2⟩ := at_T38 HR0.out x11_2 p158 q158
                    obtain rfl : ad157 = ad158 := (by injection e158)
                    replace p158 := eq_true p158
                    replace q158 := eq_true q158
                    go_upto_region 9 with (fail)
                    repeat (go_quiet (fail); go_upto_region 9 with (fail))
                    go_cut [57] (fun v57 wc => ∃ (kq : Nat) (x57_7 : Bool), v57 = .bool x57_7 ∧ Aside0 (carillonref23_Worst.j2 kq l0 a1 x7_2 x8_2 x9_2 x10_1 x11_2 ((rd_T38 l0 x10_1).f0) ((rd_T38 l0 x11_2).f1) x57_7 = some (r1, r2, r3)) ∧ Aside0 (kq ≤ k2) ∧ Drawn0 w wc)
                    case first =>
                      have H := HC8.out
                      clear HC8
                      by_cases c9 : ((rd_T38 l0 x11_2).f1) ≤ ((rd_T38 l0 x10_1).f0)
                      · rw [if_pos c9] at H
                        have c9b0 : decide (((rd_T38 l0 x11_2).f1) ≤ ((rd_T38 l0 x10_1).f0)) = true := decide_eq_true c9
                        clear c9
                        (first | rw [c9b0] | (simp only [i64_w, i32_w]; rw [c9b0]) | skip)
                        have H' := Aside0.mk H
                        clear H
                        go_wp2
                        repeat (go_quiet (fail); try go_wp2)
                        go_meet
                        case rel => exact ⟨_, (true), (by first | rfl | (simp; done) | (simp [*]; done)), H', ⟨by have := HK1.out; have := HK2.out; first | omega | exact Nat.le_refl _⟩, by repeat (first | exact Drawn0.refl _ | apply Drawn0.step)⟩
                      · rw [if_neg c9] at H
                        have c9b0 : decide (((rd_T38 l0 x11_2).f1) ≤ ((rd_T38 l0 x10_1).f0)) = false := decide_eq_false c9
                        clear c9
                        (first | rw [c9b0] | (simp only [i64_w, i32_w]; rw [c9b0]) | skip)
                        by_cases c10 : x9_2 = true
                        · subst c10
                          have H1 : (if ((rd_T38 l0 x10_1).f0) > x7_2 then (carillonref23_Worst.j2 k2 l0 a1 x7_2 x8_2 true x10_1 x11_2 ((rd_T38 l0 x10_1).f0) ((rd_T38 l0 x11_2).f1) true) else (if ((rd_T38 l0 x10_1).f0) = x7_2 then (carillonref23_Worst.j2 k2 l0 a1 x7_2 x8_2 true x10_1 x11_2 ((rd_T38 l0 x10_1).f0) ((rd_T38 l0 x11_2).f1) (decide (((rd_T38 l0 x11_2).f1) ≥ x8_2))) else (carillonref23_Worst.j2 k2 l0 a1 x7_2 x8_2 true x10_1 x11_2 ((rd_T38 l0 x10_1).f0) ((rd_T38 l0 x11_2).f1) false))) = some (r1, r2, r3) := by rw [if_pos rfl] at H; exact H
                          clear H
                          have H := H1
                          clear H1
                          by_cases c11 : ((rd_T38 l0 x10_1).f0) > x7_2
                          · rw [if_pos c11] at H
                            have c11b0 : decide (x7_2 < ((rd_T38 l0 x10_1).f0)) = true := decide_eq_true c11
                            clear c11
                            have H' := Aside0.mk H
                            clear H
                            go_wp2
                            repeat (go_quiet (fail); try go_wp2)
                            go_meet
                            case rel => exact ⟨_, (true), (by first | rfl | (simp; done) | (simp [*]; done)), H', ⟨by have := HK1.out; have := HK2.out; first | omega | exact Nat.le_refl _⟩, by repeat (first | exact Drawn0.refl _ | apply Drawn0.step)⟩
                          · rw [if_neg c11] at H
                            have c11b0 : decide (x7_2 < ((rd_T38 l0 x10_1).f0)) = false := decide_eq_false c11
                            clear c11
                            by_cases c12 : ((rd_T38 l0 x10_1).f0) = x7_2
                            · rw [if_pos c12] at H
                              have c12b0 : (((rd_T38 l0 x10_1).f0) == x7_2) = true := beq_iff_eq.mpr c12
                              have c12b1 : (((rd_T38 l0 x10_1).f0) != x7_2) = false := bne_eq_false_iff_eq.mpr c12
                              clear c12
                              have H' := Aside0.mk H
                              clear H
                              go_wp2
                              repeat (go_quiet (fail); try go_wp2)
                              go_meet
                              case rel => exact ⟨_, (decide (((rd_T38 l0 x11_2).f1) ≥ x8_2)), (by first | rfl | (simp; done) | (simp [*]; done)), H', ⟨by have := HK1.out; have := HK2.out; first | omega | exact Nat.le_refl _⟩, by repeat (first | exact Drawn0.refl _ | apply Drawn0.step)⟩
                            · rw [if_neg c12] at H
                              have c12b0 : (((rd_T38 l0 x10_1).f0) == x7_2) = false := beq_eq_false_iff_ne.mpr c12
                              have c12b1 : (((rd_T38 l0 x10_1).f0) != x7_2) = true := bne_iff_ne.mpr c12
                              have H' := Aside0.mk H
                              clear H
                              go_wp2
                              repeat (go_quiet (fail); try go_wp2)
                              go_meet
                              case rel => exact ⟨_, (false), (by first | rfl | (simp; done) | (simp [*]; done)), H', ⟨by have := HK1.out; have := HK2.out; first | omega | exact Nat.le_refl _⟩, by repeat (first | exact Drawn0.refl _ | apply Drawn0.step)⟩
                        · replace c10 := Bool.eq_false_iff.mpr c10
                          subst c10
                          have H1 : (carillonref23_Worst.j2 k2 l0 a1 x7_2 x8_2 false x10_1 x11_2 ((rd_T38 l0 x10_1).f0) ((rd_T38 l0 x11_2).f1) false) = some (r1, r2, r3) := by rw [if_neg (show ¬ (false = true) by decide)] at H; exact H
                          clear H
                          have H := H1
                          clear H1
                          have H' := Aside0.mk H
                          clear H
                          go_wp2
                          repeat (go_quiet (fail); try go_wp2)
                          go_meet
                          case rel => exact ⟨_, (false), (by first | rfl | (simp; done) | (simp [*]; done)), H', ⟨by have := HK1.out; have := HK2.out; first | omega | exact Nat.le_refl _⟩, by repeat (first | exact Drawn0.refl _ | apply Drawn0.step)⟩
                    case rest =>
                      clear HC8
                      try clear c1
                      try clear p1
                      try clear q1
                      try clear hx1
                      try clear p2
                      try clear c3
                      try clear c3b0
                      try clear c4
                      try clear c4b0
                      try clear c5
                      try clear c5b0
                      try clear c6
                      try clear c6b0
                      try clear c7
                      try clear c7b0
                      try clear c9
                      try clear c9b0
                      try clear c10
                      try clear c11
                      try clear c11b0
                      try clear c12
                      try clear c12b0
                      try clear c12b1
                      try clear hx157_0
                      try clear hx157_1
                      try clear hx157_2
                      try clear hx158_0
                      try clear hx158_1
                      try clear hx158_2
                      try clear p157
                      try clear p158
                      try clear p2
                      try clear q157
                      try clear q158
                      obtain ⟨kq, x57_7, rfl, HA, HJ7, ⟨mc7, rfl⟩⟩ := hcut
                      cases kq with
                      | zero => exact absurd HA.out (by simp [carillonref23_Worst.j2])
                      | succ kj7 =>
                        have H := HA.out
                        clear HA
                        simp only [carillonref23_Worst.j2] at H
                        by_cases c13 : x57_7 = true
                        · subst c13
                          have H1 : (carillonref23_Worst.l1 kj7 l0 a1 x7_2 x8_2 x9_2 x10_1 (wrap64 (x11_2 + 1))) = some (r1, r2, r3) := by rw [if_pos rfl] at H; exact H
                          clear H
                          have H := H1
                          clear H1
                          have H' := Aside0.mk H
                          clear H
                          go_wp2
                          repeat (go_quiet (fail); try go_wp2)
                          go_roundg kj7
                          case measure => have := HK1.out; have := HK2.out; have := HJ7.out; omega
                          case rel => exact ⟨(x7_2), (x8_2), (x9_2), (wrap64 (x11_2 + 1)), (by first | rfl | (simp; done) | (simp [*]; done)), (by first | rfl | (simp; done) | (simp [*]; done)), (by first | rfl | (simp; done) | (simp [*]; done)), (by first | rfl | (simp; done) | (simp [*]; done)), H', ⟨by have := HK1.out; have := HK2.out; have := HJ7.out; omega⟩, by repeat (first | exact Drawn0.refl _ | apply Drawn0.step)⟩
                        · replace c13 := Bool.eq_false_iff.mpr c13
                          subst c13
                          have H1 : ((carillonref23_Of.f kj7 l0 ((rd_T38 l0 x10_1).f0) ((rd_T38 l0 x11_2).f1)).bind fun t159 => (if t159 > 0 then (if (wrap64 (t159 + a1)) > (wrap64 (((rd_T38 l0 x11_2).f1) - ((rd_T38 l0 x10_1).f0))) then (carillonref23_Worst.l1 kj7 l0 a1 ((rd_T38 l0 x10_1).f0) ((rd_T38 l0 x11_2).f1) true x10_1 (wrap64 (x11_2 + 1))) else (carillonref23_Worst.l1 kj7 l0 a1 x7_2 x8_2 x9_2 x10_1 (wrap64 (x11_2 + 1)))) else (carillonref23_Worst.l1 kj7 l0 a1 x7_2 x8_2 x9_2 x10_1 (wrap64 (x11_2 + 1))))) = some (r1, r2, r3) := by rw [if_neg (show ¬ (false = true) by decide)] at H; exact H
                          clear H
                          have H := H1
                          clear H1
                          replace H := Option.bind_eq_some_iff.mp H
                          obtain ⟨t159, A140, H⟩ := H
                          replace H : (if t159 > 0 then (if (wrap64 (t159 + a1)) > (wrap64 (((rd_T38 l0 x11_2).f1) - ((rd_T38 l0 x10_1).f0))) then (carillonref23_Worst.l1 kj7 l0 a1 ((rd_T38 l0 x10_1).f0) ((rd_T38 l0 x11_2).f1) true x10_1 (wrap64 (x11_2 + 1))) else (carillonref23_Worst.l1 kj7 l0 a1 x7_2 x8_2 x9_2 x10_1 (wrap64 (x11_2 + 1)))) else (carillonref23_Worst.l1 kj7 l0 a1 x7_2 x8_2 x9_2 x10_1 (wrap64 (x11_2 + 1)))) = some (r1, r2, r3) := H
                          have A14 := Aside0.mk A140
                          clear A140
                          by_cases c15 : t159 > 0
                          · rw [if_pos c15] at H
                            have c15b0 : decide (0 < t159) = true := decide_eq_true c15
                            clear c15
                            by_cases c16 : (wrap64 (t159 + a1)) > (wrap64 (((rd_T38 l0 x11_2).f1) - ((rd_T38 l0 x10_1).f0)))
                            · rw [if_pos c16] at H
                              have c16b0 : decide ((wrap64 (((rd_T38 l0 x11_2).f1) - ((rd_T38 l0 x10_1).f0))) < (wrap64 (t159 + a1))) = true := decide_eq_true c16
                              clear c16
                              have H' := Aside0.mk H
                              clear H
                              go_wp2_with (first | (go_at_call 15; (with_reducible refine (carillonref23_Of.calls kj7 _ _ l0 ((rd_T38 l0 x10_1).f0) ((rd_T38 l0 x11_2).f1) t159 _ ?side1 ?side2 A14.out).mono ?_); (case side1 => repeat (first | exact HR0.out | (with_reducible refine Kd.C_alloc ?_ _) | (with_reducible refine Kd.C_drewN ?_ _) | (with_reducible refine Kd.C_drew ?_))); (case side2 => exact HC0.out); rintro e w' ⟨rfl, ⟨nd, rfl⟩⟩; (try first | exact ⟨rfl, _, World.drewN_drewN _ _ _⟩ | exact ⟨rfl, _, Eq.trans (World.drewN_drewN _ _ _) (congrArg (World.drewN _) (Nat.add_assoc _ _ _))⟩)))
                              repeat (go_quiet (first | (go_at_call 15; (with_reducible refine (carillonref23_Of.calls kj7 _ _ l0 ((rd_T38 l0 x10_1).f0) ((rd_T38 l0 x11_2).f1) t159 _ ?side1 ?side2 A14.out).mono ?_); (case side1 => repeat (first | exact HR0.out | (with_reducible refine Kd.C_alloc ?_ _) | (with_reducible refine Kd.C_drewN ?_ _) | (with_reducible refine Kd.C_drew ?_))); (case side2 => exact HC0.out); rintro e w' ⟨rfl, ⟨nd, rfl⟩⟩; (try first | exact ⟨rfl, _, World.drewN_drewN _ _ _⟩ | exact ⟨rfl, _, Eq.trans (World.drewN_drewN _ _ _) (congrArg (World.drewN _) (Nat.add_assoc _ _ _))⟩))); try go_wp2_with (first | (go_at_call 15; (with_reducible refine (carillonref23_Of.calls kj7 _ _ l0 ((rd_T38 l0 x10_1).f0) ((rd_T38 l0 x11_2).f1) t159 _ ?side1 ?side2 A14.out).mono ?_); (case side1 => repeat (first | exact HR0.out | (with_reducible refine Kd.C_alloc ?_ _) | (with_reducible refine Kd.C_drewN ?_ _) | (with_reducible refine Kd.C_drew ?_))); (case side2 => exact HC0.out); rintro e w' ⟨rfl, ⟨nd, rfl⟩⟩; (try first | exact ⟨rfl, _, World.drewN_drewN _ _ _⟩ | exact ⟨rfl, _, Eq.trans (World.drewN_drewN _ _ _) (congrArg (World.drewN _) (Nat.add_assoc _ _ _))⟩))))
                              go_roundg kj7
                              case measure => have := HK1.out; have := HK2.out; have := HJ7.out; omega
                              case rel => exact ⟨(((rd_T38 l0 x10_1).f0)), (((rd_T38 l0 x11_2).f1)), (true), (wrap64 (x11_2 + 1)), (by first | rfl | (simp; done) | (simp [*]; done)), (by first | rfl | (simp; done) | (simp [*]; done)), (by first | rfl | (simp; done) | (simp [*]; done)), (by first | rfl | (simp; done) | (simp [*]; done)), H', ⟨by have := HK1.out; have := HK2.out; have := HJ7.out; omega⟩, by repeat (first | exact Drawn0.refl _ | apply Drawn0.step)⟩
                            · rw [if_neg c16] at H
                              have c16b0 : decide ((wrap64 (((rd_T38 l0 x11_2).f1) - ((rd_T38 l0 x10_1).f0))) < (wrap64 (t159 + a1))) = false := decide_eq_false c16
                              clear c16
                              have H' := Aside0.mk H
                              clear H
                              go_wp2_with (first | (go_at_call 15; (with_reducible refine (carillonref23_Of.calls kj7 _ _ l0 ((rd_T38 l0 x10_1).f0) ((rd_T38 l0 x11_2).f1) t159 _ ?side1 ?side2 A14.out).mono ?_); (case side1 => repeat (first | exact HR0.out | (with_reducible refine Kd.C_alloc ?_ _) | (with_reducible refine Kd.C_drewN ?_ _) | (with_reducible refine Kd.C_drew ?_))); (case side2 => exact HC0.out); rintro e w' ⟨rfl, ⟨nd, rfl⟩⟩; (try first | exact ⟨rfl, _, World.drewN_drewN _ _ _⟩ | exact ⟨rfl, _, Eq.trans (World.drewN_drewN _ _ _) (congrArg (World.drewN _) (Nat.add_assoc _ _ _))⟩)))
                              repeat (go_quiet (first | (go_at_call 15; (with_reducible refine (carillonref23_Of.calls kj7 _ _ l0 ((rd_T38 l0 x10_1).f0) ((rd_T38 l0 x11_2).f1) t159 _ ?side1 ?side2 A14.out).mono ?_); (case side1 => repeat (first | exact HR0.out | (with_reducible refine Kd.C_alloc ?_ _) | (with_reducible refine Kd.C_drewN ?_ _) | (with_reducible refine Kd.C_drew ?_))); (case side2 => exact HC0.out); rintro e w' ⟨rfl, ⟨nd, rfl⟩⟩; (try first | exact ⟨rfl, _, World.drewN_drewN _ _ _⟩ | exact ⟨rfl, _, Eq.trans (World.drewN_drewN _ _ _) (congrArg (World.drewN _) (Nat.add_assoc _ _ _))⟩))); try go_wp2_with (first | (go_at_call 15; (with_reducible refine (carillonref23_Of.calls kj7 _ _ l0 ((rd_T38 l0 x10_1).f0) ((rd_T38 l0 x11_2).f1) t159 _ ?side1 ?side2 A14.out).mono ?_); (case side1 => repeat (first | exact HR0.out | (with_reducible refine Kd.C_alloc ?_ _) | (with_reducible refine Kd.C_drewN ?_ _) | (with_reducible refine Kd.C_drew ?_))); (case side2 => exact HC0.out); rintro e w' ⟨rfl, ⟨nd, rfl⟩⟩; (try first | exact ⟨rfl, _, World.drewN_drewN _ _ _⟩ | exact ⟨rfl, _, Eq.trans (World.drewN_drewN _ _ _) (congrArg (World.drewN _) (Nat.add_assoc _ _ _))⟩))))
                              go_roundg kj7
                              case measure => have := HK1.out; have := HK2.out; have := HJ7.out; omega
                              case rel => exact ⟨(x7_2), (x8_2), (x9_2), (wrap64 (x11_2 + 1)), (by first | rfl | (simp; done) | (simp [*]; done)), (by first | rfl | (simp; done) | (simp [*]; done)), (by first | rfl | (simp; done) | (simp [*]; done)), (by first | rfl | (simp; done) | (simp [*]; done)), H', ⟨by have := HK1.out; have := HK2.out; have := HJ7.out; omega⟩, by repeat (first | exact Drawn0.refl _ | apply Drawn0.step)⟩
                          · rw [if_neg c15] at H
                            have c15b0 : decide (0 < t159) = false := decide_eq_false c15
                            clear c15
                            have H' := Aside0.mk H
                            clear H
                            go_wp2_with (first | (go_at_call 15; (with_reducible refine (carillonref23_Of.calls kj7 _ _ l0 ((rd_T38 l0 x10_1).f0) ((rd_T38 l0 x11_2).f1) t159 _ ?side1 ?side2 A14.out).mono ?_); (case side1 => repeat (first | exact HR0.out | (with_reducible refine Kd.C_alloc ?_ _) | (with_reducible refine Kd.C_drewN ?_ _) | (with_reducible refine Kd.C_drew ?_))); (case side2 => exact HC0.out); rintro e w' ⟨rfl, ⟨nd, rfl⟩⟩; (try first | exact ⟨rfl, _, World.drewN_drewN _ _ _⟩ | exact ⟨rfl, _, Eq.trans (World.drewN_drewN _ _ _) (congrArg (World.drewN _) (Nat.add_assoc _ _ _))⟩)))
                            repeat (go_quiet (first | (go_at_call 15; (with_reducible refine (carillonref23_Of.calls kj7 _ _ l0 ((rd_T38 l0 x10_1).f0) ((rd_T38 l0 x11_2).f1) t159 _ ?side1 ?side2 A14.out).mono ?_); (case side1 => repeat (first | exact HR0.out | (with_reducible refine Kd.C_alloc ?_ _) | (with_reducible refine Kd.C_drewN ?_ _) | (with_reducible refine Kd.C_drew ?_))); (case side2 => exact HC0.out); rintro e w' ⟨rfl, ⟨nd, rfl⟩⟩; (try first | exact ⟨rfl, _, World.drewN_drewN _ _ _⟩ | exact ⟨rfl, _, Eq.trans (World.drewN_drewN _ _ _) (congrArg (World.drewN _) (Nat.add_assoc _ _ _))⟩))); try go_wp2_with (first | (go_at_call 15; (with_reducible refine (carillonref23_Of.calls kj7 _ _ l0 ((rd_T38 l0 x10_1).f0) ((rd_T38 l0 x11_2).f1) t159 _ ?side1 ?side2 A14.out).mono ?_); (case side1 => repeat (first | exact HR0.out | (with_reducible refine Kd.C_alloc ?_ _) | (with_reducible refine Kd.C_drewN ?_ _) | (with_reducible refine Kd.C_drew ?_))); (case side2 => exact HC0.out); rintro e w' ⟨rfl, ⟨nd, rfl⟩⟩; (try first | exact ⟨rfl, _, World.drewN_drewN _ _ _⟩ | exact ⟨rfl, _, Eq.trans (World.drewN_drewN _ _ _) (congrArg (World.drewN _) (Nat.add_assoc _ _ _))⟩))))
                            go_roundg kj7
                            case measure => have := HK1.out; have := HK2.out; have := HJ7.out; omega
                            case rel => exact ⟨(x7_2), (x8_2), (x9_2), (wrap64 (x11_2 + 1)), (by first | rfl | (simp; done) | (simp [*]; done)), (by first | rfl | (simp; done) | (simp [*]; done)), (by first | rfl | (simp; done) | (simp [*]; done)), (by first | rfl | (simp; done) | (simp [*]; done)), H', ⟨by have := HK1.out; have := HK2.out; have := HJ7.out; omega⟩, by repeat (first | exact Drawn0.refl _ | apply Drawn0.step)⟩
                  · rw [if_neg c7] at H
                    exact absurd H (by simp)
                · rw [if_neg c6] at H
                  exact absurd H (by simp)
              · rw [if_neg c5] at H
                exact absurd H (by simp)
            · rw [if_neg c4] at H
              have c4b0 : decide (x11_2 < (l0.length : Int)) = false := decide_eq_false c4
              clear c4
              have H' := Aside0.mk H
              clear H
              go_wp2
              repeat (go_quiet (fail); try go_wp2)
              go_roundg k2
              case measure => have := HK1.out; have := HK2.out; omega
              case rel => exact ⟨(x7_2), (x8_2), (x9_2), (wrap64 (x10_1 + 1)), (by first | rfl | (simp; done) | (simp [*]; done)), (by first | rfl | (simp; done) | (simp [*]; done)), (by first | rfl | (simp; done) | (simp [*]; done)), (by first | rfl | (simp; done) | (simp [*]; done)), H', ⟨by have := HK1.out; have := HK2.out; omega⟩, by repeat (first | exact Drawn0.refl _ | apply Drawn0.step)⟩
      · rw [if_neg c3] at H
        have c3b0 : decide (x10_1 < (l0.length : Int)) = false := decide_eq_false c3
        clear c3
        simp only [Option.some.injEq, Prod.mk.injEq] at H
        obtain ⟨rfl, rfl, rfl⟩ := H
        go_wp2
        repeat (go_quiet (fail); try go_wp2)
        go_ret3
        exact ⟨by first | rfl | (simp; done) | (simp [*]; done), by repeat (first | exact Drawn0.refl _ | apply Drawn0.step)⟩

end Go.Proofs.Ytlmmdpdkddmklab.Q
