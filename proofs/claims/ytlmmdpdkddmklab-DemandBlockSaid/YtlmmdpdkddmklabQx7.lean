-- Lean text written by a program of this session (turned after the kit's print), checked by Lean.
import Derived.Test.YtlmmdpdkddmklabQx0
import Derived.Test.YtlmmdpdkddmklabQx2
import Derived.Test.YtlmmdpdkddmklabQx3
import Derived.Test.YtlmmdpdkddmklabHand
namespace Go.Proofs.Ytlmmdpdkddmklab.Q
open Go.RowKit Go.Proofs.YtlmmdpdkddmklabW.PrintWords Go.Proofs.YtlmmdpdkddmklabW.PrintLast Go.Proofs.YtlmmdpdkddmklabW.PrintMore
attribute [local go_sem] max2_int min2_int max_two min_two max_three min_three max_four min_four   -- for this text's walks alone
set_option linter.unusedVariables false
set_option linter.unusedSimpArgs false

/-! ### carillonlaw23_DemandBlock: function 5 -/
mutual
def carillonlaw23_DemandBlock.j0 : Nat → List (S38) → Int → List Int → Bool → Option (Bool)
  | 0, _, _, _, _ => none
  | k + 1, x0, x1, x2, x35 => if x35 = true then ((carillonlaw23_works.f k).bind fun t220 => (some t220)) else (carillonlaw23_DemandBlock.l0 k x0 x1 x2 0 0)
def carillonlaw23_DemandBlock.l0 : Nat → List (S38) → Int → List Int → Int → Int → Option (Bool)
  | 0, _, _, _, _, _ => none
  | k + 1, x0, x1, x2, x7, x8 => if x8 < (x0.length : Int) then (if 0 ≤ x8 then (carillonlaw23_DemandBlock.l0 k x0 x1 x2 (wrap64 (x7 + ((rd_T38 x0 x8).f2))) (wrap64 (x8 + 1))) else (none)) else ((carillonlaw23_copied.f x0).bind fun t222 => ((demand_Worst.f k t222 (wrap64 (Int.tmod x1 9))).bind fun bt225 => (if bt225.2.2.2 = 0 then (if bt225.2.2.1 = true then (carillonlaw23_DemandBlock.j2 k x0 x2 x7 (wrap64 (Int.tmod x1 9)) true) else (carillonlaw23_DemandBlock.j2 k x0 x2 x7 (wrap64 (Int.tmod x1 9)) (decide (x7 > 1000)))) else (some false))))
def carillonlaw23_DemandBlock.j2 : Nat → List (S38) → List Int → Int → Int → Bool → Option (Bool)
  | 0, _, _, _, _, _ => none
  | k + 1, x0, x2, x7, x9, x68 => if x68 = true then ((carillonlaw23_works.f k).bind fun t229 => (some t229)) else (if 0 ≤ (x0.length : Int) then (if ((x0.length : Int) : Int).toNat ≤ 35184372088832 then (carillonlaw23_DemandBlock.l1 k x0 x2 x7 x9 (List.replicate ((x0.length : Int) : Int).toNat 0) 0) else (none)) else (none))
def carillonlaw23_DemandBlock.l1 : Nat → List (S38) → List Int → Int → Int → List Int → Int → Option (Bool)
  | 0, _, _, _, _, _, _ => none
  | k + 1, x0, x2, x7, x9, x14, x15 => if x15 < (x0.length : Int) then (if 0 ≤ x15 then (if x15 < (x14.length : Int) then (carillonlaw23_DemandBlock.l1 k x0 x2 x7 x9 (x14.set (x15 : Int).toNat ((rd_T38 x0 x15).f2)) (wrap64 (x15 + 1))) else (none)) else (none)) else (carillonlaw23_DemandBlock.l2 k x0 x2 x9 x14 0 x7 0)
def carillonlaw23_DemandBlock.l2 : Nat → List (S38) → List Int → Int → List Int → Int → Int → Int → Option (Bool)
  | 0, _, _, _, _, _, _, _ => none
  | k + 1, x0, x2, x9, x14, x16, x17, x18 => if x17 > 0 then (carillonlaw23_DemandBlock.l3 k x0 x2 x9 x14 x16 x17 x18 (-1) 4611686018427387904 0) else ((carillonlaw23_works.f k).bind fun t235 => (some t235))
def carillonlaw23_DemandBlock.l3 : Nat → List (S38) → List Int → Int → List Int → Int → Int → Int → Int → Int → Int → Option (Bool)
  | 0, _, _, _, _, _, _, _, _, _, _ => none
  | k + 1, x0, x2, x9, x14, x16, x17, x18, x19, x20, x21 => if x21 < (x0.length : Int) then (if 0 ≤ x21 then (if x21 < (x14.length : Int) then (if (rd x14 x21) = 0 then (carillonlaw23_DemandBlock.l3 k x0 x2 x9 x14 x16 x17 x18 x19 x20 (wrap64 (x21 + 1))) else (if ((rd_T38 x0 x21).f0) > x16 then (carillonlaw23_DemandBlock.l3 k x0 x2 x9 x14 x16 x17 x18 x19 (mn x20 ((rd_T38 x0 x21).f0)) (wrap64 (x21 + 1))) else (if x19 < 0 then (carillonlaw23_DemandBlock.l3 k x0 x2 x9 x14 x16 x17 x18 x21 x20 (wrap64 (x21 + 1))) else (if 0 ≤ x19 then (if x19 < (x0.length : Int) then (if ((rd_T38 x0 x21).f1) < ((rd_T38 x0 x19).f1) then (carillonlaw23_DemandBlock.l3 k x0 x2 x9 x14 x16 x17 x18 x21 x20 (wrap64 (x21 + 1))) else (carillonlaw23_DemandBlock.l3 k x0 x2 x9 x14 x16 x17 x18 x19 x20 (wrap64 (x21 + 1)))) else (none)) else (none))))) else (none)) else (none)) else (if x19 < 0 then (carillonlaw23_DemandBlock.l2 k x0 x2 x9 x14 x20 x17 x18) else (if x18 < (x2.length : Int) then (if 0 ≤ x18 then (if (wrap64 (x9 + 1)) = 0 then (none) else (if 0 ≤ x19 then (if x19 < (x14.length : Int) then ((some (x14.set (x19 : Int).toNat (wrap64 ((rd x14 x19) - (mn (wrap64 ((Int.tmod (wrap64 (rd x2 x18)) (wrap64 (x9 + 1))) + 1)) (rd x14 x19)))) : List Int)).bind fun y244 => (if (rd y244 x19) = 0 then (if x19 < (x0.length : Int) then (if (wrap64 (x16 + (mn (wrap64 ((Int.tmod (wrap64 (rd x2 x18)) (wrap64 (x9 + 1))) + 1)) (rd x14 x19)))) > ((rd_T38 x0 x19).f1) then (some false) else (carillonlaw23_DemandBlock.l2 k x0 x2 x9 y244 (wrap64 (x16 + (mn (wrap64 ((Int.tmod (wrap64 (rd x2 x18)) (wrap64 (x9 + 1))) + 1)) (rd x14 x19)))) (wrap64 (x17 - (mn (wrap64 ((Int.tmod (wrap64 (rd x2 x18)) (wrap64 (x9 + 1))) + 1)) (rd x14 x19)))) (wrap64 (x18 + 1)))) else (none)) else (carillonlaw23_DemandBlock.l2 k x0 x2 x9 y244 (wrap64 (x16 + (mn (wrap64 ((Int.tmod (wrap64 (rd x2 x18)) (wrap64 (x9 + 1))) + 1)) (rd x14 x19)))) (wrap64 (x17 - (mn (wrap64 ((Int.tmod (wrap64 (rd x2 x18)) (wrap64 (x9 + 1))) + 1)) (rd x14 x19)))) (wrap64 (x18 + 1))))) else (none)) else (none))) else (none)) else (if 0 ≤ x19 then (if x19 < (x14.length : Int) then ((some (x14.set (x19 : Int).toNat (wrap64 ((rd x14 x19) - (mn 1 (rd x14 x19)))) : List Int)).bind fun y249 => (if (rd y249 x19) = 0 then (if x19 < (x0.length : Int) then (if (wrap64 (x16 + (mn 1 (rd x14 x19)))) > ((rd_T38 x0 x19).f1) then (some false) else (carillonlaw23_DemandBlock.l2 k x0 x2 x9 y249 (wrap64 (x16 + (mn 1 (rd x14 x19)))) (wrap64 (x17 - (mn 1 (rd x14 x19)))) (wrap64 (x18 + 1)))) else (none)) else (carillonlaw23_DemandBlock.l2 k x0 x2 x9 y249 (wrap64 (x16 + (mn 1 (rd x14 x19)))) (wrap64 (x17 - (mn 1 (rd x14 x19)))) (wrap64 (x18 + 1))))) else (none)) else (none))))
end
def carillonlaw23_DemandBlock.f (k : Nat) (l0 : List (S38)) (a1 : Int) (l2 : List Int) : Option (Bool) := if (l0.length : Int) > 40 then (carillonlaw23_DemandBlock.j0 k l0 a1 l2 true) else (if (l2.length : Int) > 200 then (carillonlaw23_DemandBlock.j0 k l0 a1 l2 true) else ((carillonref23_May.f k l0).bind fun t219 => (carillonlaw23_DemandBlock.j0 k l0 a1 l2 (!t219))))
theorem carillonlaw23_DemandBlock.mono_l : ∀ k, (∀ y0 y1 y2 y3, LeO (carillonlaw23_DemandBlock.j0 k y0 y1 y2 y3) (carillonlaw23_DemandBlock.j0 (k + 1) y0 y1 y2 y3)) ∧ (∀ y0 y1 y2 y3 y4, LeO (carillonlaw23_DemandBlock.l0 k y0 y1 y2 y3 y4) (carillonlaw23_DemandBlock.l0 (k + 1) y0 y1 y2 y3 y4)) ∧ (∀ y0 y1 y2 y3 y4, LeO (carillonlaw23_DemandBlock.j2 k y0 y1 y2 y3 y4) (carillonlaw23_DemandBlock.j2 (k + 1) y0 y1 y2 y3 y4)) ∧ (∀ y0 y1 y2 y3 y4 y5, LeO (carillonlaw23_DemandBlock.l1 k y0 y1 y2 y3 y4 y5) (carillonlaw23_DemandBlock.l1 (k + 1) y0 y1 y2 y3 y4 y5)) ∧ (∀ y0 y1 y2 y3 y4 y5 y6, LeO (carillonlaw23_DemandBlock.l2 k y0 y1 y2 y3 y4 y5 y6) (carillonlaw23_DemandBlock.l2 (k + 1) y0 y1 y2 y3 y4 y5 y6)) ∧ (∀ y0 y1 y2 y3 y4 y5 y6 y7 y8 y9, LeO (carillonlaw23_DemandBlock.l3 k y0 y1 y2 y3 y4 y5 y6 y7 y8 y9) (carillonlaw23_DemandBlock.l3 (k + 1) y0 y1 y2 y3 y4 y5 y6 y7 y8 y9))
  | 0 => ⟨fun _ _ _ _ r h => by simp [carillonlaw23_DemandBlock.j0] at h, fun _ _ _ _ _ r h => by simp [carillonlaw23_DemandBlock.l0] at h, fun _ _ _ _ _ r h => by simp [carillonlaw23_DemandBlock.j2] at h, fun _ _ _ _ _ _ r h => by simp [carillonlaw23_DemandBlock.l1] at h, fun _ _ _ _ _ _ _ r h => by simp [carillonlaw23_DemandBlock.l2] at h, fun _ _ _ _ _ _ _ _ _ _ r h => by simp [carillonlaw23_DemandBlock.l3] at h⟩
  | k + 1 => by
    obtain ⟨ih0, ih1, ih2, ih3, ih4, ih5⟩ := carillonlaw23_DemandBlock.mono_l k
    refine ⟨?_, ?_, ?_, ?_, ?_, ?_⟩
    · intro y0 y1 y2 y3
      unfold carillonlaw23_DemandBlock.j0
      repeat' first
      | (with_reducible exact ih0 _ _ _ _)
      | (with_reducible exact ih1 _ _ _ _ _)
      | (with_reducible exact ih2 _ _ _ _ _)
      | (with_reducible exact ih3 _ _ _ _ _ _)
      | (with_reducible exact ih4 _ _ _ _ _ _ _)
      | (with_reducible exact ih5 _ _ _ _ _ _ _ _ _ _)
      | (with_reducible exact carillonlaw23_works.mono _)
      | (with_reducible exact carillonref23_May.mono _ _)
      | (with_reducible exact demand_Worst.mono _ _ _)
      | (with_reducible exact LeO.refl _)
      | (with_reducible exact LeO.none _)
      | (with_reducible refine LeO.ite ?_ ?_)
      | (with_reducible refine LeO.bind ?_ (fun _ => ?_))
      | exact ih0 _ _ _ _
      | exact ih1 _ _ _ _ _
      | exact ih2 _ _ _ _ _
      | exact ih3 _ _ _ _ _ _
      | exact ih4 _ _ _ _ _ _ _
      | exact ih5 _ _ _ _ _ _ _ _ _ _
      | exact carillonlaw23_works.mono _
      | exact carillonref23_May.mono _ _
      | exact demand_Worst.mono _ _ _
      | exact LeO.none _
      | refine LeO.ite ?_ ?_
      | refine LeO.bind ?_ (fun _ => ?_)
    · intro y0 y1 y2 y3 y4
      unfold carillonlaw23_DemandBlock.l0
      repeat' first
      | (with_reducible exact ih0 _ _ _ _)
      | (with_reducible exact ih1 _ _ _ _ _)
      | (with_reducible exact ih2 _ _ _ _ _)
      | (with_reducible exact ih3 _ _ _ _ _ _)
      | (with_reducible exact ih4 _ _ _ _ _ _ _)
      | (with_reducible exact ih5 _ _ _ _ _ _ _ _ _ _)
      | (with_reducible exact carillonlaw23_works.mono _)
      | (with_reducible exact carillonref23_May.mono _ _)
      | (with_reducible exact demand_Worst.mono _ _ _)
      | (with_reducible exact LeO.refl _)
      | (with_reducible exact LeO.none _)
      | (with_reducible refine LeO.ite ?_ ?_)
      | (with_reducible refine LeO.bind ?_ (fun _ => ?_))
      | exact ih0 _ _ _ _
      | exact ih1 _ _ _ _ _
      | exact ih2 _ _ _ _ _
      | exact ih3 _ _ _ _ _ _
      | exact ih4 _ _ _ _ _ _ _
      | exact ih5 _ _ _ _ _ _ _ _ _ _
      | exact carillonlaw23_works.mono _
      | exact carillonref23_May.mono _ _
      | exact demand_Worst.mono _ _ _
      | exact LeO.none _
      | refine LeO.ite ?_ ?_
      | refine LeO.bind ?_ (fun _ => ?_)
    · intro y0 y1 y2 y3 y4
      unfold carillonlaw23_DemandBlock.j2
      repeat' first
      | (with_reducible exact ih0 _ _ _ _)
      | (with_reducible exact ih1 _ _ _ _ _)
      | (with_reducible exact ih2 _ _ _ _ _)
      | (with_reducible exact ih3 _ _ _ _ _ _)
      | (with_reducible exact ih4 _ _ _ _ _ _ _)
      | (with_reducible exact ih5 _ _ _ _ _ _ _ _ _ _)
      | (with_reducible exact carillonlaw23_works.mono _)
      | (with_reducible exact carillonref23_May.mono _ _)
      | (with_reducible exact demand_Worst.mono _ _ _)
      | (with_reducible exact LeO.refl _)
      | (with_reducible exact LeO.none _)
      | (with_reducible refine LeO.ite ?_ ?_)
      | (with_reducible refine LeO.bind ?_ (fun _ => ?_))
      | exact ih0 _ _ _ _
      | exact ih1 _ _ _ _ _
      | exact ih2 _ _ _ _ _
      | exact ih3 _ _ _ _ _ _
      | exact ih4 _ _ _ _ _ _ _
      | exact ih5 _ _ _ _ _ _ _ _ _ _
      | exact carillonlaw23_works.mono _
      | exact carillonref23_May.mono _ _
      | exact demand_Worst.mono _ _ _
      | exact LeO.none _
      | refine LeO.ite ?_ ?_
      | refine LeO.bind ?_ (fun _ => ?_)
    · intro y0 y1 y2 y3 y4 y5
      unfold carillonlaw23_DemandBlock.l1
      repeat' first
      | (with_reducible exact ih0 _ _ _ _)
      | (with_reducible exact ih1 _ _ _ _ _)
      | (with_reducible exact ih2 _ _ _ _ _)
      | (with_reducible exact ih3 _ _ _ _ _ _)
      | (with_reducible exact ih4 _ _ _ _ _ _ _)
      | (with_reducible exact ih5 _ _ _ _ _ _ _ _ _ _)
      | (with_reducible exact carillonlaw23_works.mono _)
      | (with_reducible exact carillonref23_May.mono _ _)
      | (with_reducible exact demand_Worst.mono _ _ _)
      | (with_reducible exact LeO.refl _)
      | (with_reducible exact LeO.none _)
      | (with_reducible refine LeO.ite ?_ ?_)
      | (with_reducible refine LeO.bind ?_ (fun _ => ?_))
      | exact ih0 _ _ _ _
      | exact ih1 _ _ _ _ _
      | exact ih2 _ _ _ _ _
      | exact ih3 _ _ _ _ _ _
      | exact ih4 _ _ _ _ _ _ _
      | exact ih5 _ _ _ _ _ _ _ _ _ _
      | exact carillonlaw23_works.mono _
      | exact carillonref23_May.mono _ _
      | exact demand_Worst.mono _ _ _
      | exact LeO.none _
      | refine LeO.ite ?_ ?_
      | refine LeO.bind ?_ (fun _ => ?_)
    · intro y0 y1 y2 y3 y4 y5 y6
      unfold carillonlaw23_DemandBlock.l2
      repeat' first
      | (with_reducible exact ih0 _ _ _ _)
      | (with_reducible exact ih1 _ _ _ _ _)
      | (with_reducible exact ih2 _ _ _ _ _)
      | (with_reducible exact ih3 _ _ _ _ _ _)
      | (with_reducible exact ih4 _ _ _ _ _ _ _)
      | (with_reducible exact ih5 _ _ _ _ _ _ _ _ _ _)
      | (with_reducible exact carillonlaw23_works.mono _)
      | (with_reducible exact carillonref23_May.mono _ _)
      | (with_reducible exact demand_Worst.mono _ _ _)
      | (with_reducible exact LeO.refl _)
      | (with_reducible exact LeO.none _)
      | (with_reducible refine LeO.ite ?_ ?_)
      | (with_reducible refine LeO.bind ?_ (fun _ => ?_))
      | exact ih0 _ _ _ _
      | exact ih1 _ _ _ _ _
      | exact ih2 _ _ _ _ _
      | exact ih3 _ _ _ _ _ _
      | exact ih4 _ _ _ _ _ _ _
      | exact ih5 _ _ _ _ _ _ _ _ _ _
      | exact carillonlaw23_works.mono _
      | exact carillonref23_May.mono _ _
      | exact demand_Worst.mono _ _ _
      | exact LeO.none _
      | refine LeO.ite ?_ ?_
      | refine LeO.bind ?_ (fun _ => ?_)
    · intro y0 y1 y2 y3 y4 y5 y6 y7 y8 y9
      unfold carillonlaw23_DemandBlock.l3
      repeat' first
      | (with_reducible exact ih0 _ _ _ _)
      | (with_reducible exact ih1 _ _ _ _ _)
      | (with_reducible exact ih2 _ _ _ _ _)
      | (with_reducible exact ih3 _ _ _ _ _ _)
      | (with_reducible exact ih4 _ _ _ _ _ _ _)
      | (with_reducible exact ih5 _ _ _ _ _ _ _ _ _ _)
      | (with_reducible exact carillonlaw23_works.mono _)
      | (with_reducible exact carillonref23_May.mono _ _)
      | (with_reducible exact demand_Worst.mono _ _ _)
      | (with_reducible exact LeO.refl _)
      | (with_reducible exact LeO.none _)
      | (with_reducible refine LeO.ite ?_ ?_)
      | (with_reducible refine LeO.bind ?_ (fun _ => ?_))
      | exact ih0 _ _ _ _
      | exact ih1 _ _ _ _ _
      | exact ih2 _ _ _ _ _
      | exact ih3 _ _ _ _ _ _
      | exact ih4 _ _ _ _ _ _ _
      | exact ih5 _ _ _ _ _ _ _ _ _ _
      | exact carillonlaw23_works.mono _
      | exact carillonref23_May.mono _ _
      | exact demand_Worst.mono _ _ _
      | exact LeO.none _
      | refine LeO.ite ?_ ?_
      | refine LeO.bind ?_ (fun _ => ?_)
theorem carillonlaw23_DemandBlock.mono : ∀ a0 a1 a2 k, LeO (carillonlaw23_DemandBlock.f k a0 a1 a2) (carillonlaw23_DemandBlock.f (k + 1) a0 a1 a2) := by
  intro a0 a1 a2 k
  obtain ⟨ih0, ih1, ih2, ih3, ih4, ih5⟩ := carillonlaw23_DemandBlock.mono_l k
  unfold carillonlaw23_DemandBlock.f
  repeat' first
      | (with_reducible exact ih0 _ _ _ _)
      | (with_reducible exact ih1 _ _ _ _ _)
      | (with_reducible exact ih2 _ _ _ _ _)
      | (with_reducible exact ih3 _ _ _ _ _ _)
      | (with_reducible exact ih4 _ _ _ _ _ _ _)
      | (with_reducible exact ih5 _ _ _ _ _ _ _ _ _ _)
      | (with_reducible exact carillonlaw23_works.mono _)
      | (with_reducible exact carillonref23_May.mono _ _)
      | (with_reducible exact demand_Worst.mono _ _ _)
      | (with_reducible exact LeO.refl _)
      | (with_reducible exact LeO.none _)
      | (with_reducible refine LeO.ite ?_ ?_)
      | (with_reducible refine LeO.bind ?_ (fun _ => ?_))
      | exact ih0 _ _ _ _
      | exact ih1 _ _ _ _ _
      | exact ih2 _ _ _ _ _
      | exact ih3 _ _ _ _ _ _
      | exact ih4 _ _ _ _ _ _ _
      | exact ih5 _ _ _ _ _ _ _ _ _ _
      | exact carillonlaw23_works.mono _
      | exact carillonref23_May.mono _ _
      | exact demand_Worst.mono _ _ _
      | exact LeO.none _
      | refine LeO.ite ?_ ?_
      | refine LeO.bind ?_ (fun _ => ?_)
set_option maxHeartbeats 8000000 in
set_option maxRecDepth 100000 in
theorem carillonlaw23_DemandBlock.calls (k : Nat) (A0 : Option Addr) (c0 : Nat) (l0 : List (S38)) (a1 : Int) (A2 : Option Addr) (c2 : Nat) (l2 : List Int) (r : Bool) (w : World) (hr0 : Kd.C k38 w A0 l0.length l0) (hc0 : l0.length ≤ c0) (hr2 : Kd.C (Kd.int .u8) w A2 l2.length l2) (hc2 : l2.length ≤ c2) (h : carillonlaw23_DemandBlock.f k l0 a1 l2 = some r) :
    Calls Try.prog 5 #[.slice A0 l0.length c0, .int .u8 a1, .slice A2 l2.length c2] w fun e w' => e = .returned (.bool r) ∧ Below w.heap.size w w' := by
  have HR0 := Aside0.mk hr0
  have HC0 := Aside0.mk hc0
  clear hr0 hc0
  have HR2 := Aside0.mk hr2
  have HC2 := Aside0.mk hc2
  clear hr2 hc2
  have HB := Aside0.mk (Below.refl w.heap.size w)
  have H : (if (l0.length : Int) > 40 then (carillonlaw23_DemandBlock.j0 k l0 a1 l2 true) else (if (l2.length : Int) > 200 then (carillonlaw23_DemandBlock.j0 k l0 a1 l2 true) else ((carillonref23_May.f k l0).bind fun t219 => (carillonlaw23_DemandBlock.j0 k l0 a1 l2 (!t219))))) = some r := h
  clear h
  have HC4 := Aside0.mk H
  clear H
  go_enter Try.func5, Try.ntmps5
  go_upto_region 1 with (fail)
  repeat (go_quiet (fail); go_upto_region 1 with (fail))
  go_cut [35] (fun v35 wc => ∃ (kq : Nat) (x35_3 : Bool), v35 = .bool x35_3 ∧ Aside0 (carillonlaw23_DemandBlock.j0 kq l0 a1 l2 x35_3 = some r) ∧ Aside0 (kq ≤ k) ∧ Aside0 (Below w.heap.size w wc))
  case first =>
    have H := HC4.out
    clear HC4
    by_cases c5 : (l0.length : Int) > 40
    · rw [if_pos c5] at H
      have c5b0 : decide (40 < (l0.length : Int)) = true := decide_eq_true c5
      have c5b1 : decide (40 < l0.length) = true := decide_eq_true (by omega)
      clear c5
      (first | rw [c5b0] | (simp only [i64_w, i32_w]; rw [c5b0]) | skip)
      have H' := Aside0.mk H
      clear H
      go_wp2
      repeat (go_quiet (fail); try go_wp2)
      go_meet
      case rel => exact ⟨_, (true), (by first | rfl | (simp; done) | (simp [*]; done)), H', ⟨by first | omega | exact Nat.le_refl _⟩, ⟨by repeat (first | (with_reducible first | exact HB.out | apply below_alloc | apply pw_below_drewN | apply below_drew1) | exact HB.out)⟩⟩
    · rw [if_neg c5] at H
      have c5b0 : decide (40 < (l0.length : Int)) = false := decide_eq_false c5
      have c5b1 : decide (40 < l0.length) = false := decide_eq_false (by omega)
      clear c5
      (first | rw [c5b0] | (simp only [i64_w, i32_w]; rw [c5b0]) | skip)
      by_cases c6 : (l2.length : Int) > 200
      · rw [if_pos c6] at H
        have c6b0 : decide (200 < (l2.length : Int)) = true := decide_eq_true c6
        have c6b1 : decide (200 < l2.length) = true := decide_eq_true (by omega)
        clear c6
        have H' := Aside0.mk H
        clear H
        go_wp2
        repeat (go_quiet (fail); try go_wp2)
        go_meet
        case rel => exact ⟨_, (true), (by first | rfl | (simp; done) | (simp [*]; done)), H', ⟨by first | omega | exact Nat.le_refl _⟩, ⟨by repeat (first | (with_reducible first | exact HB.out | apply below_alloc | apply pw_below_drewN | apply below_drew1) | exact HB.out)⟩⟩
      · rw [if_neg c6] at H
        have c6b0 : decide (200 < (l2.length : Int)) = false := decide_eq_false c6
        have c6b1 : decide (200 < l2.length) = false := decide_eq_false (by omega)
        clear c6
        replace H := Option.bind_eq_some_iff.mp H
        obtain ⟨t219, A70, H⟩ := H
        replace H : (carillonlaw23_DemandBlock.j0 k l0 a1 l2 (!t219)) = some r := H
        have A7 := Aside0.mk A70
        clear A70
        have H' := Aside0.mk H
        clear H
        go_wp2_with (first | (go_at_call 14; (with_reducible refine (carillonref23_May.calls k _ _ l0 t219 _ ?side1 ?side2 A7.out).mono ?_); (case side1 => repeat (first | exact (Kd.C_below HR0.out HB.out) | (with_reducible refine Kd.C_alloc ?_ _) | (with_reducible refine Kd.C_drewN ?_ _) | (with_reducible refine Kd.C_drew ?_))); (case side2 => exact HC0.out); rintro e w8 ⟨rfl, hb⟩; have n0_ := Aside0.mk (below_step (by repeat (first | (with_reducible first | exact HB.out | apply below_alloc | apply pw_below_drewN | apply below_drew1) | exact HB.out)) hb); clear HB; have HB := n0_; clear n0_; (try clear hb); (try clear hb2); (try clear hk); (try clear hi)))
        repeat (go_quiet (first | (go_at_call 14; (with_reducible refine (carillonref23_May.calls k _ _ l0 t219 _ ?side1 ?side2 A7.out).mono ?_); (case side1 => repeat (first | exact (Kd.C_below HR0.out HB.out) | (with_reducible refine Kd.C_alloc ?_ _) | (with_reducible refine Kd.C_drewN ?_ _) | (with_reducible refine Kd.C_drew ?_))); (case side2 => exact HC0.out); rintro e w8 ⟨rfl, hb⟩; have n0_ := Aside0.mk (below_step (by repeat (first | (with_reducible first | exact HB.out | apply below_alloc | apply pw_below_drewN | apply below_drew1) | exact HB.out)) hb); clear HB; have HB := n0_; clear n0_; (try clear hb); (try clear hb2); (try clear hk); (try clear hi))); try go_wp2_with (first | (go_at_call 14; (with_reducible refine (carillonref23_May.calls k _ _ l0 t219 _ ?side1 ?side2 A7.out).mono ?_); (case side1 => repeat (first | exact (Kd.C_below HR0.out HB.out) | (with_reducible refine Kd.C_alloc ?_ _) | (with_reducible refine Kd.C_drewN ?_ _) | (with_reducible refine Kd.C_drew ?_))); (case side2 => exact HC0.out); rintro e w8 ⟨rfl, hb⟩; have n0_ := Aside0.mk (below_step (by repeat (first | (with_reducible first | exact HB.out | apply below_alloc | apply pw_below_drewN | apply below_drew1) | exact HB.out)) hb); clear HB; have HB := n0_; clear n0_; (try clear hb); (try clear hb2); (try clear hk); (try clear hi))))
        go_meet
        case rel => exact ⟨_, (!t219), (by first | rfl | (simp; done) | (simp [*]; done)), H', ⟨by first | omega | exact Nat.le_refl _⟩, ⟨by repeat (first | (with_reducible first | exact HB.out | apply below_alloc | apply pw_below_drewN | apply below_drew1) | exact HB.out)⟩⟩
  case rest =>
    clear HC4
    try clear c2
    try clear p2
    try clear c5
    try clear c5b0
    try clear c5b1
    try clear c6
    try clear c6b0
    try clear c6b1
    obtain ⟨kq, x35_3, rfl, HA, HJ3, HB⟩ := hcut
    cases kq with
    | zero => exact absurd HA.out (by simp [carillonlaw23_DemandBlock.j0])
    | succ kj3 =>
      have H := HA.out
      clear HA
      simp only [carillonlaw23_DemandBlock.j0] at H
      by_cases c9 : x35_3 = true
      · subst c9
        have H1 : ((carillonlaw23_works.f kj3).bind fun t220 => (some t220)) = some r := by rw [if_pos rfl] at H; exact H
        clear H
        have H := H1
        clear H1
        replace H := Option.bind_eq_some_iff.mp H
        obtain ⟨t220, A100, H⟩ := H
        replace H : (some t220) = some r := H
        have A10 := Aside0.mk A100
        clear A100
        obtain rfl := Option.some.inj H
        go_wp2_with (first | (go_at_call 8; (with_reducible refine (carillonlaw23_works.calls kj3  t220 _ A10.out).mono ?_); rintro e w11 ⟨rfl, hb⟩; have n0_ := Aside0.mk (below_step (by repeat (first | (with_reducible first | exact HB.out | apply below_alloc | apply pw_below_drewN | apply below_drew1) | exact HB.out)) hb); clear HB; have HB := n0_; clear n0_; (try clear hb); (try clear hb2); (try clear hk); (try clear hi)))
        repeat (go_quiet (first | (go_at_call 8; (with_reducible refine (carillonlaw23_works.calls kj3  t220 _ A10.out).mono ?_); rintro e w11 ⟨rfl, hb⟩; have n0_ := Aside0.mk (below_step (by repeat (first | (with_reducible first | exact HB.out | apply below_alloc | apply pw_below_drewN | apply below_drew1) | exact HB.out)) hb); clear HB; have HB := n0_; clear n0_; (try clear hb); (try clear hb2); (try clear hk); (try clear hi))); try go_wp2_with (first | (go_at_call 8; (with_reducible refine (carillonlaw23_works.calls kj3  t220 _ A10.out).mono ?_); rintro e w11 ⟨rfl, hb⟩; have n0_ := Aside0.mk (below_step (by repeat (first | (with_reducible first | exact HB.out | apply below_alloc | apply pw_below_drewN | apply below_drew1) | exact HB.out)) hb); clear HB; have HB := n0_; clear n0_; (try clear hb); (try clear hb2); (try clear hk); (try clear hi))))
        go_ret
        exact ⟨by first | rfl | (simp [errW_none, errW_some] <;> rfl) | (simp [*, errW_none, errW_some] <;> rfl), by repeat (first | (with_reducible first | exact HB.out | apply below_alloc | apply pw_below_drewN | apply below_drew1) | exact HB.out)⟩
      · replace c9 := Bool.eq_false_iff.mpr c9
        subst c9
        have H1 : (carillonlaw23_DemandBlock.l0 kj3 l0 a1 l2 0 0) = some r := by rw [if_neg (show ¬ (false = true) by decide)] at H; exact H
        clear H
        have H := H1
        clear H1
        have H' := Aside0.mk H
        clear H
        go_wp2
        repeat (go_quiet (fail); try go_wp2)
        go_loopg [7, 8] kj3 (fun kq v7 v8 w' => ∃ (x7_2 : Int) (x8_2 : Int), v7 = .int .i64 x7_2 ∧ v8 = .int .i64 x8_2 ∧ Aside0 (carillonlaw23_DemandBlock.l0 kq l0 a1 l2 x7_2 x8_2 = some r) ∧ Aside0 (kq ≤ kj3) ∧ Aside0 (Below w.heap.size w w'))
        case atStart => exact ⟨(0), (0), (by first | rfl | (simp; done) | (simp [*]; done)), (by first | rfl | (simp; done) | (simp [*]; done)), H', ⟨Nat.le_refl _⟩, ⟨by repeat (first | (with_reducible first | exact HB.out | apply below_alloc | apply pw_below_drewN | apply below_drew1) | exact HB.out)⟩⟩
        case round =>
          clear H'
          try clear c2
          try clear p2
          try clear c5
          try clear c5b0
          try clear c5b1
          try clear c6
          try clear c6b0
          try clear c6b1
          try clear c9
          try clear p2
          obtain ⟨x7_2, x8_2, rfl, rfl, HA, HK2, HB⟩ := hrel
          cases gk with
          | zero => exact absurd HA.out (by simp [carillonlaw23_DemandBlock.l0])
          | succ k2 =>
            have H := HA.out
            clear HA
            simp only [carillonlaw23_DemandBlock.l0] at H
            by_cases c12 : x8_2 < (l0.length : Int)
            · rw [if_pos c12] at H
              have c12b0 : decide (x8_2 < (l0.length : Int)) = true := decide_eq_true c12
              clear c12
              by_cases c13 : 0 ≤ x8_2
              · rw [if_pos c13] at H
                have c13b0 : decide (0 ≤ x8_2) = true := decide_eq_true c13
                clear c13
                have H' := Aside0.mk H
                clear H
                have p221 : 0 ≤ (x8_2 : Int) := of_decide_eq_true (by first | (with_reducible assumption) | assumption)
                have q221 : x8_2 < (l0.length : Int) := of_decide_eq_true (by first | (with_reducible assumption) | assumption)
                obtain ⟨ad221, e221, hx221_0, hx221_1, hx221_2⟩ := at_T38 HR0.out x8_2 p221 q221
                cases e221
                replace hx221_0 := (HB.out.cell (World.block_lt_of_cell? w _ hx221_0)).trans hx221_0
                replace hx221_1 := (HB.out.cell (World.block_lt_of_cell? w _ hx221_1)).trans hx221_1
                replace hx221_2 := (HB.out.cell (World.block_lt_of_cell? w _ hx221_2)).trans hx221_2
                replace p221 := eq_true p221
                replace q221 := eq_true q221
                go_wp2
                repeat (go_quiet (fail); try go_wp2)
                go_roundg k2
                case measure => have := HJ3.out; have := HK2.out; omega
                case rel => exact ⟨(wrap64 (x7_2 + ((rd_T38 l0 x8_2).f2))), (wrap64 (x8_2 + 1)), (by first | rfl | (simp; done) | (simp [*]; done)), (by first | rfl | (simp; done) | (simp [*]; done)), H', ⟨by have := HJ3.out; have := HK2.out; omega⟩, ⟨by repeat (first | (with_reducible first | exact HB.out | apply below_alloc | apply pw_below_drewN | apply below_drew1) | exact HB.out)⟩⟩
              · rw [if_neg c13] at H
                exact absurd H (by simp)
            · rw [if_neg c12] at H
              have c12b0 : decide (x8_2 < (l0.length : Int)) = false := decide_eq_false c12
              clear c12
              replace H := Option.bind_eq_some_iff.mp H
              obtain ⟨t222, A140, H⟩ := H
              replace H : ((demand_Worst.f k2 t222 (wrap64 (Int.tmod a1 9))).bind fun bt225 => (if bt225.2.2.2 = 0 then (if bt225.2.2.1 = true then (carillonlaw23_DemandBlock.j2 k2 l0 l2 x7_2 (wrap64 (Int.tmod a1 9)) true) else (carillonlaw23_DemandBlock.j2 k2 l0 l2 x7_2 (wrap64 (Int.tmod a1 9)) (decide (x7_2 > 1000)))) else (some false))) = some r := H
              have A14 := Aside0.mk A140
              clear A140
              replace H := Option.bind_eq_some_iff.mp H
              obtain ⟨⟨t225, t226, t227, t228⟩, A150, H⟩ := H
              replace H : (if t228 = 0 then (if t227 = true then (carillonlaw23_DemandBlock.j2 k2 l0 l2 x7_2 (wrap64 (Int.tmod a1 9)) true) else (carillonlaw23_DemandBlock.j2 k2 l0 l2 x7_2 (wrap64 (Int.tmod a1 9)) (decide (x7_2 > 1000)))) else (some false)) = some r := H
              have A15 := Aside0.mk A150
              clear A150
              by_cases c16 : t228 = 0
              · rw [if_pos c16] at H
                have c16b0 : (t228 == 0) = true := beq_iff_eq.mpr c16
                have c16b1 : (t228 != 0) = false := bne_eq_false_iff_eq.mpr c16
                clear c16
                have HC17 := Aside0.mk H
                clear H
                go_upto_region 12 with (first | (go_at_call 10; (with_reducible refine (carillonlaw23_copied.calls _ _ l0 t222 _ ?side1 ?side2 A14.out).mono ?_); (case side1 => repeat (first | exact (Kd.C_below HR0.out HB.out) | (with_reducible refine Kd.C_alloc ?_ _) | (with_reducible refine Kd.C_drewN ?_ _) | (with_reducible refine Kd.C_drew ?_))); (case side2 => exact HC0.out); rintro e w18 ⟨v223, rfl, ho0, hb⟩; have n0_ := Aside0.mk (Kd.R_lower ho0 (below_size (by repeat (first | (with_reducible first | exact HB.out | apply below_alloc | apply pw_below_drewN | apply below_drew1) | exact HB.out)))); have n1_ := Aside0.mk (below_step (by repeat (first | (with_reducible first | exact HB.out | apply below_alloc | apply pw_below_drewN | apply below_drew1) | exact HB.out)) hb); clear HB; have HO224 := n0_; have HB := n1_; clear n0_ n1_; (try clear hb); (try clear hb2); (try clear hk); (try clear hi); (try clear ho0); obtain ⟨Ao19, co19, eo19⟩ := Kd.R_slice HO224.out; subst eo19) | (go_at_call 12; (with_reducible refine (demand_Worst.calls k2 _ _ t222 (wrap64 (Int.tmod a1 9)) t225 t226 t227 t228 _ ?side1 ?side2 A15.out).mono ?_); (case side1 => repeat (first | exact (Kd.R_reads' HO224.out).2.2 | (with_reducible refine Kd.C_alloc ?_ _) | (with_reducible refine Kd.C_drewN ?_ _) | (with_reducible refine Kd.C_drew ?_))); (case side2 => exact (Kd.R_reads' HO224.out).2.1); rintro e w20 ⟨rfl, hb⟩; have n0_ := Aside0.mk (Kd.R_below (by (with_reducible repeat (first | apply Kd.R_alloc | apply Kd.R_drewN | apply Kd.R_drew)); exact HO224.out) hb); have n1_ := Aside0.mk (below_step (by repeat (first | (with_reducible first | exact HB.out | apply below_alloc | apply pw_below_drewN | apply below_drew1) | exact HB.out)) hb); clear HO224; clear HB; have HO224 := n0_; have HB := n1_; clear n0_ n1_; (try clear hb); (try clear hb2); (try clear hk); (try clear hi)))
                repeat (go_quiet (first | (go_at_call 10; (with_reducible refine (carillonlaw23_copied.calls _ _ l0 t222 _ ?side1 ?side2 A14.out).mono ?_); (case side1 => repeat (first | exact (Kd.C_below HR0.out HB.out) | (with_reducible refine Kd.C_alloc ?_ _) | (with_reducible refine Kd.C_drewN ?_ _) | (with_reducible refine Kd.C_drew ?_))); (case side2 => exact HC0.out); rintro e w18 ⟨v223, rfl, ho0, hb⟩; have n0_ := Aside0.mk (Kd.R_lower ho0 (below_size (by repeat (first | (with_reducible first | exact HB.out | apply below_alloc | apply pw_below_drewN | apply below_drew1) | exact HB.out)))); have n1_ := Aside0.mk (below_step (by repeat (first | (with_reducible first | exact HB.out | apply below_alloc | apply pw_below_drewN | apply below_drew1) | exact HB.out)) hb); clear HB; have HO224 := n0_; have HB := n1_; clear n0_ n1_; (try clear hb); (try clear hb2); (try clear hk); (try clear hi); (try clear ho0); obtain ⟨Ao19, co19, eo19⟩ := Kd.R_slice HO224.out; subst eo19) | (go_at_call 12; (with_reducible refine (demand_Worst.calls k2 _ _ t222 (wrap64 (Int.tmod a1 9)) t225 t226 t227 t228 _ ?side1 ?side2 A15.out).mono ?_); (case side1 => repeat (first | exact (Kd.R_reads' HO224.out).2.2 | (with_reducible refine Kd.C_alloc ?_ _) | (with_reducible refine Kd.C_drewN ?_ _) | (with_reducible refine Kd.C_drew ?_))); (case side2 => exact (Kd.R_reads' HO224.out).2.1); rintro e w20 ⟨rfl, hb⟩; have n0_ := Aside0.mk (Kd.R_below (by (with_reducible repeat (first | apply Kd.R_alloc | apply Kd.R_drewN | apply Kd.R_drew)); exact HO224.out) hb); have n1_ := Aside0.mk (below_step (by repeat (first | (with_reducible first | exact HB.out | apply below_alloc | apply pw_below_drewN | apply below_drew1) | exact HB.out)) hb); clear HO224; clear HB; have HO224 := n0_; have HB := n1_; clear n0_ n1_; (try clear hb); (try clear hb2); (try clear hk); (try clear hi))); go_upto_region 12 with (first | (go_at_call 10; (with_reducible refine (carillonlaw23_copied.calls _ _ l0 t222 _ ?side1 ?side2 A14.out).mono ?_); (case side1 => repeat (first | exact (Kd.C_below HR0.out HB.out) | (with_reducible refine Kd.C_alloc ?_ _) | (with_reducible refine Kd.C_drewN ?_ _) | (with_reducible refine Kd.C_drew ?_))); (case side2 => exact HC0.out); rintro e w18 ⟨v223, rfl, ho0, hb⟩; have n0_ := Aside0.mk (Kd.R_lower ho0 (below_size (by repeat (first | (with_reducible first | exact HB.out | apply below_alloc | apply pw_below_drewN | apply below_drew1) | exact HB.out)))); have n1_ := Aside0.mk (below_step (by repeat (first | (with_reducible first | exact HB.out | apply below_alloc | apply pw_below_drewN | apply below_drew1) | exact HB.out)) hb); clear HB; have HO224 := n0_; have HB := n1_; clear n0_ n1_; (try clear hb); (try clear hb2); (try clear hk); (try clear hi); (try clear ho0); obtain ⟨Ao19, co19, eo19⟩ := Kd.R_slice HO224.out; subst eo19) | (go_at_call 12; (with_reducible refine (demand_Worst.calls k2 _ _ t222 (wrap64 (Int.tmod a1 9)) t225 t226 t227 t228 _ ?side1 ?side2 A15.out).mono ?_); (case side1 => repeat (first | exact (Kd.R_reads' HO224.out).2.2 | (with_reducible refine Kd.C_alloc ?_ _) | (with_reducible refine Kd.C_drewN ?_ _) | (with_reducible refine Kd.C_drew ?_))); (case side2 => exact (Kd.R_reads' HO224.out).2.1); rintro e w20 ⟨rfl, hb⟩; have n0_ := Aside0.mk (Kd.R_below (by (with_reducible repeat (first | apply Kd.R_alloc | apply Kd.R_drewN | apply Kd.R_drew)); exact HO224.out) hb); have n1_ := Aside0.mk (below_step (by repeat (first | (with_reducible first | exact HB.out | apply below_alloc | apply pw_below_drewN | apply below_drew1) | exact HB.out)) hb); clear HO224; clear HB; have HO224 := n0_; have HB := n1_; clear n0_ n1_; (try clear hb); (try clear hb2); (try clear hk); (try clear hi))))
                (try simp only [Act.put, List.setIfInBounds_toArray, List.set_cons_zero, List.set_cons_succ])
                go_cut [68] (fun v68 wc => ∃ (kq : Nat) (x68_16 : Bool), v68 = .bool x68_16 ∧ Aside0 (carillonlaw23_DemandBlock.j2 kq l0 l2 x7_2 (wrap64 (Int.tmod a1 9)) x68_16 = some r) ∧ Aside0 (kq ≤ k2) ∧ Aside0 (Below w.heap.size w wc))
                case first =>
                  have H := HC17.out
                  clear HC17
                  by_cases c21 : t227 = true
                  · subst c21
                    have H1 : (carillonlaw23_DemandBlock.j2 k2 l0 l2 x7_2 (wrap64 (Int.tmod a1 9)) true) = some r := by rw [if_pos rfl] at H; exact H
                    clear H
                    have H := H1
                    clear H1
                    have H' := Aside0.mk H
                    clear H
                    go_wp2
                    repeat (go_quiet (fail); try go_wp2)
                    go_meet
                    case rel => exact ⟨_, (true), (by first | rfl | (simp; done) | (simp [*]; done)), H', ⟨by have := HJ3.out; have := HK2.out; first | omega | exact Nat.le_refl _⟩, ⟨by repeat (first | (with_reducible first | exact HB.out | apply below_alloc | apply pw_below_drewN | apply below_drew1) | exact HB.out)⟩⟩
                  · replace c21 := Bool.eq_false_iff.mpr c21
                    subst c21
                    have H1 : (carillonlaw23_DemandBlock.j2 k2 l0 l2 x7_2 (wrap64 (Int.tmod a1 9)) (decide (x7_2 > 1000))) = some r := by rw [if_neg (show ¬ (false = true) by decide)] at H; exact H
                    clear H
                    have H := H1
                    clear H1
                    have H' := Aside0.mk H
                    clear H
                    go_wp2
                    repeat (go_quiet (fail); try go_wp2)
                    go_meet
                    case rel => exact ⟨_, (decide (x7_2 > 1000)), (by first | rfl | (simp; done) | (simp [*]; done)), H', ⟨by have := HJ3.out; have := HK2.out; first | omega | exact Nat.le_refl _⟩, ⟨by repeat (first | (with_reducible first | exact HB.out | apply below_alloc | apply pw_below_drewN | apply below_drew1) | exact HB.out)⟩⟩
                case rest =>
                  clear HC17
                  try clear c1
                  try clear c2
                  try clear p2
                  try clear q2
                  try clear hx2
                  try clear c5
                  try clear c5b0
                  try clear c5b1
                  try clear c6
                  try clear c6b0
                  try clear c6b1
                  try clear p6
                  try clear c9
                  try clear c12
                  try clear c12b0
                  try clear c13
                  try clear c13b0
                  try clear c16
                  try clear c16b0
                  try clear c16b1
                  try clear c21
                  try clear hx221_0
                  try clear hx221_1
                  try clear hx221_2
                  try clear p2
                  try clear p221
                  try clear q221
                  obtain ⟨kq, x68_16, rfl, HA, HJ16, HB⟩ := hcut
                  cases kq with
                  | zero => exact absurd HA.out (by simp [carillonlaw23_DemandBlock.j2])
                  | succ kj16 =>
                    have H := HA.out
                    clear HA
                    simp only [carillonlaw23_DemandBlock.j2] at H
                    by_cases c22 : x68_16 = true
                    · subst c22
                      have H1 : ((carillonlaw23_works.f kj16).bind fun t229 => (some t229)) = some r := by rw [if_pos rfl] at H; exact H
                      clear H
                      have H := H1
                      clear H1
                      replace H := Option.bind_eq_some_iff.mp H
                      obtain ⟨t229, A230, H⟩ := H
                      replace H : (some t229) = some r := H
                      have A23 := Aside0.mk A230
                      clear A230
                      obtain rfl := Option.some.inj H
                      go_wp2_with (first | (go_at_call 8; (with_reducible refine (carillonlaw23_works.calls kj16  t229 _ A23.out).mono ?_); rintro e w24 ⟨rfl, hb⟩; have n0_ := Aside0.mk (below_step (by repeat (first | (with_reducible first | exact HB.out | apply below_alloc | apply pw_below_drewN | apply below_drew1) | exact HB.out)) hb); clear HB; have HB := n0_; clear n0_; (try clear hb); (try clear hb2); (try clear hk); (try clear hi)))
                      repeat (go_quiet (first | (go_at_call 8; (with_reducible refine (carillonlaw23_works.calls kj16  t229 _ A23.out).mono ?_); rintro e w24 ⟨rfl, hb⟩; have n0_ := Aside0.mk (below_step (by repeat (first | (with_reducible first | exact HB.out | apply below_alloc | apply pw_below_drewN | apply below_drew1) | exact HB.out)) hb); clear HB; have HB := n0_; clear n0_; (try clear hb); (try clear hb2); (try clear hk); (try clear hi))); try go_wp2_with (first | (go_at_call 8; (with_reducible refine (carillonlaw23_works.calls kj16  t229 _ A23.out).mono ?_); rintro e w24 ⟨rfl, hb⟩; have n0_ := Aside0.mk (below_step (by repeat (first | (with_reducible first | exact HB.out | apply below_alloc | apply pw_below_drewN | apply below_drew1) | exact HB.out)) hb); clear HB; have HB := n0_; clear n0_; (try clear hb); (try clear hb2); (try clear hk); (try clear hi))))
                      go_ret
                      exact ⟨by first | rfl | (simp [errW_none, errW_some] <;> rfl) | (simp [*, errW_none, errW_some] <;> rfl), by repeat (first | (with_reducible first | exact HB.out | apply below_alloc | apply pw_below_drewN | apply below_drew1) | exact HB.out)⟩
                    · replace c22 := Bool.eq_false_iff.mpr c22
                      subst c22
                      have H1 : (if 0 ≤ (l0.length : Int) then (if ((l0.length : Int) : Int).toNat ≤ 35184372088832 then (carillonlaw23_DemandBlock.l1 kj16 l0 l2 x7_2 (wrap64 (Int.tmod a1 9)) (List.replicate ((l0.length : Int) : Int).toNat 0) 0) else (none)) else (none)) = some r := by rw [if_neg (show ¬ (false = true) by decide)] at H; exact H
                      clear H
                      have H := H1
                      clear H1
                      by_cases c25 : 0 ≤ (l0.length : Int)
                      · rw [if_pos c25] at H
                        have c25b0 := eq_true c25
                        have c25b1 : decide (0 ≤ (l0.length : Int)) = true := decide_eq_true c25
                        clear c25
                        by_cases c26 : ((l0.length : Int) : Int).toNat ≤ 35184372088832
                        · rw [if_pos c26] at H
                          have c26b0 := eq_true c26
                          have c26b1 : decide (((l0.length : Int) : Int).toNat ≤ 35184372088832) = true := decide_eq_true c26
                          clear c26
                          obtain ⟨y230, hy230⟩ : ∃ y_ : List Int, y_ = (List.replicate ((l0.length : Int) : Int).toNat 0) := ⟨_, rfl⟩
                          replace H : (carillonlaw23_DemandBlock.l1 kj16 l0 l2 x7_2 (wrap64 (Int.tmod a1 9)) y230 0) = some r := by first | (rw [hy230]; with_reducible exact H) | (have H2_ := (Option.bind_some _ _).symm.trans H; rw [hy230]; with_reducible exact H2_) | (have H2_ := (Option.bind_some _ _).symm.trans H; with_reducible exact H2_) | with_reducible exact H | (rw [hy230]; exact H) | exact H
                          have Ny230 := Aside0.mk hy230
                          clear hy230
                          have H' := Aside0.mk H
                          clear H
                          go_wp2_with (first | ((with_reducible refine gate_dst (N := 72) rfl ?_); (try (refine gate_guard (by rfl) ?_; dsimp only)); refine Kd.R_make (Kd.int .i64) _ 2 rfl (N := 72) rfl 39 _ _ rfl (l0.length : Int) rfl rfl Try.underlying39 (.int .i64 0) 8 info2 rfl (by decide) (by omega) 0 (ok := fun _ => True) (okp := fun _ => True) rfl (fun _ hk => hk) trivial (of_decide_eq_true (by first | (with_reducible assumption) | assumption)) (Nat.le_trans (Nat.mul_le_mul_right _ (of_decide_eq_true (by first | (with_reducible assumption) | assumption) : (l0.length : Int).toNat ≤ 35184372088832)) (by omega)) (Below.refl _ _) (Nat.le_refl _) ?_; intro v231 w27 ho28 hb hg_ hnew_; clear hg_ hnew_; (first | rw [← Ny230.out] at ho28 | (simp only [Int.reduceToNat] at ho28; rw [← Ny230.out] at ho28)); have n0_ := Aside0.mk (Kd.R_lower ho28 (below_size (by repeat (first | (with_reducible first | exact HB.out | apply below_alloc | apply pw_below_drewN | apply below_drew1) | exact HB.out)))); have n1_ := Aside0.mk (below_step (by repeat (first | (with_reducible first | exact HB.out | apply below_alloc | apply pw_below_drewN | apply below_drew1) | exact HB.out)) hb); clear HB; have HO232 := n0_; have HB := n1_; clear n0_ n1_; clear hb ho28))
                          repeat (go_quiet (first | ((with_reducible refine gate_dst (N := 72) rfl ?_); (try (refine gate_guard (by rfl) ?_; dsimp only)); refine Kd.R_make (Kd.int .i64) _ 2 rfl (N := 72) rfl 39 _ _ rfl (l0.length : Int) rfl rfl Try.underlying39 (.int .i64 0) 8 info2 rfl (by decide) (by omega) 0 (ok := fun _ => True) (okp := fun _ => True) rfl (fun _ hk => hk) trivial (of_decide_eq_true (by first | (with_reducible assumption) | assumption)) (Nat.le_trans (Nat.mul_le_mul_right _ (of_decide_eq_true (by first | (with_reducible assumption) | assumption) : (l0.length : Int).toNat ≤ 35184372088832)) (by omega)) (Below.refl _ _) (Nat.le_refl _) ?_; intro v231 w27 ho28 hb hg_ hnew_; clear hg_ hnew_; (first | rw [← Ny230.out] at ho28 | (simp only [Int.reduceToNat] at ho28; rw [← Ny230.out] at ho28)); have n0_ := Aside0.mk (Kd.R_lower ho28 (below_size (by repeat (first | (with_reducible first | exact HB.out | apply below_alloc | apply pw_below_drewN | apply below_drew1) | exact HB.out)))); have n1_ := Aside0.mk (below_step (by repeat (first | (with_reducible first | exact HB.out | apply below_alloc | apply pw_below_drewN | apply below_drew1) | exact HB.out)) hb); clear HB; have HO232 := n0_; have HB := n1_; clear n0_ n1_; clear hb ho28)); try go_wp2_with (first | ((with_reducible refine gate_dst (N := 72) rfl ?_); (try (refine gate_guard (by rfl) ?_; dsimp only)); refine Kd.R_make (Kd.int .i64) _ 2 rfl (N := 72) rfl 39 _ _ rfl (l0.length : Int) rfl rfl Try.underlying39 (.int .i64 0) 8 info2 rfl (by decide) (by omega) 0 (ok := fun _ => True) (okp := fun _ => True) rfl (fun _ hk => hk) trivial (of_decide_eq_true (by first | (with_reducible assumption) | assumption)) (Nat.le_trans (Nat.mul_le_mul_right _ (of_decide_eq_true (by first | (with_reducible assumption) | assumption) : (l0.length : Int).toNat ≤ 35184372088832)) (by omega)) (Below.refl _ _) (Nat.le_refl _) ?_; intro v231 w27 ho28 hb hg_ hnew_; clear hg_ hnew_; (first | rw [← Ny230.out] at ho28 | (simp only [Int.reduceToNat] at ho28; rw [← Ny230.out] at ho28)); have n0_ := Aside0.mk (Kd.R_lower ho28 (below_size (by repeat (first | (with_reducible first | exact HB.out | apply below_alloc | apply pw_below_drewN | apply below_drew1) | exact HB.out)))); have n1_ := Aside0.mk (below_step (by repeat (first | (with_reducible first | exact HB.out | apply below_alloc | apply pw_below_drewN | apply below_drew1) | exact HB.out)) hb); clear HB; have HO232 := n0_; have HB := n1_; clear n0_ n1_; clear hb ho28)))
                          go_loopg [15] kj16 (fun kq v15 w' => ∃ (x14_4 : List Int) (x15_4 : Int), v15 = .int .i64 x15_4 ∧ Aside0 (carillonlaw23_DemandBlock.l1 kq l0 l2 x7_2 (wrap64 (Int.tmod a1 9)) x14_4 x15_4 = some r) ∧ Aside0 (kq ≤ kj16) ∧ Aside0 (Kd.R (Kd.int .i64) 2 w' w.heap.size (fun _ => True) v231 x14_4) ∧ Aside0 (Below w.heap.size w w'))
                          case atStart => exact ⟨(y230), (0), (by first | rfl | (simp; done) | (simp [*]; done)), H', ⟨Nat.le_refl _⟩, ⟨by (with_reducible repeat (first | apply Kd.R_alloc | apply Kd.R_drewN | apply Kd.R_drew)); exact HO232.out⟩, ⟨by repeat (first | (with_reducible first | exact HB.out | apply below_alloc | apply pw_below_drewN | apply below_drew1) | exact HB.out)⟩⟩
                          case round =>
                            clear H'
                            try clear c1
                            try clear c2
                            try clear p2
                            try clear q2
                            try clear hx2
                            try clear c5
                            try clear c5b0
                            try clear c5b1
                            try clear c6
                            try clear c6b0
                            try clear c6b1
                            try clear p6
                            try clear c9
                            try clear c12
                            try clear c12b0
                            try clear c13
                            try clear c13b0
                            try clear c16
                            try clear c16b0
                            try clear c16b1
                            try clear c21
                            try clear c22
                            try clear p22
                            try clear q22
                            try clear hx22
                            try clear c25
                            try clear c25b0
                            try clear c25b1
                            try clear c26
                            try clear c26b0
                            try clear c26b1
                            try clear hx221_0
                            try clear hx221_1
                            try clear hx221_2
                            try clear p2
                            try clear p221
                            try clear p6
                            try clear q2
                            try clear q221
                            obtain ⟨x14_4, x15_4, rfl, HA, HK4, HO_14, HB⟩ := hrel
                            cases gk with
                            | zero => exact absurd HA.out (by simp [carillonlaw23_DemandBlock.l1])
                            | succ k4 =>
                              have H := HA.out
                              clear HA
                              simp only [carillonlaw23_DemandBlock.l1] at H
                              by_cases c29 : x15_4 < (l0.length : Int)
                              · rw [if_pos c29] at H
                                have c29b0 : decide (x15_4 < (l0.length : Int)) = true := decide_eq_true c29
                                clear c29
                                by_cases c30 : 0 ≤ x15_4
                                · rw [if_pos c30] at H
                                  have c30b0 : decide (0 ≤ x15_4) = true := decide_eq_true c30
                                  clear c30
                                  by_cases c31 : x15_4 < (x14_4.length : Int)
                                  · rw [if_pos c31] at H
                                    have c31b0 : decide (x15_4 < (x14_4.length : Int)) = true := decide_eq_true c31
                                    clear c31
                                    obtain ⟨y234, hy234⟩ : ∃ y_ : List Int, y_ = (x14_4.set (x15_4 : Int).toNat ((rd_T38 l0 x15_4).f2)) := ⟨_, rfl⟩
                                    replace H : (carillonlaw23_DemandBlock.l1 k4 l0 l2 x7_2 (wrap64 (Int.tmod a1 9)) y234 (wrap64 (x15_4 + 1))) = some r := by first | (rw [hy234]; with_reducible exact H) | (have H2_ := (Option.bind_some _ _).symm.trans H; rw [hy234]; with_reducible exact H2_) | (have H2_ := (Option.bind_some _ _).symm.trans H; with_reducible exact H2_) | with_reducible exact H | (rw [hy234]; exact H) | exact H
                                    have Ny234 := Aside0.mk hy234
                                    clear hy234
                                    have H' := Aside0.mk H
                                    clear H
                                    have p233 : 0 ≤ (x15_4 : Int) := of_decide_eq_true (by first | (with_reducible assumption) | assumption)
                                    have q233 : x15_4 < (l0.length : Int) := of_decide_eq_true (by first | (with_reducible assumption) | assumption)
                                    obtain ⟨ad233, e233, hx233_0, hx233_1, hx233_2⟩ := at_T38 HR0.out x15_4 p233 q233
                                    cases e233
                                    replace hx233_0 := (HB.out.cell (World.block_lt_of_cell? w _ hx233_0)).trans hx233_0
                                    replace hx233_1 := (HB.out.cell (World.block_lt_of_cell? w _ hx233_1)).trans hx233_1
                                    replace hx233_2 := (HB.out.cell (World.block_lt_of_cell? w _ hx233_2)).trans hx233_2
                                    replace p233 := eq_true p233
                                    replace q233 := eq_true q233
                                    have p32 : 0 ≤ (x15_4 : Int) := of_decide_eq_true (by first | (with_reducible assumption) | assumption)
                                    have q32 : (x15_4 : Int) < ((x14_4.length : Int) : Int) := of_decide_eq_true (by first | (with_reducible assumption) | assumption)
                                    obtain ⟨go32, co32, eo32, gb32, gl32, cl32, HG32⟩ := Kd.R_form HO_14.out (by omega)
                                    (first | cases eo32 | (injection eo32 with ea_ en_ ec_; (first | subst ea_ | (injection ea_ with ea_; subst ea_)); subst ec_; clear en_))
                                    have GB32 := Aside0.mk gb32
                                    have GG32 := Aside0.mk HG32
                                    clear gb32 gl32 HG32
                                    obtain ⟨hx32_0, hf32_0⟩ := Kd.R_celln 0 HO_14.out (x15_4 : Int) p32 q32
                                    replace p32 := eq_true p32
                                    replace q32 := eq_true q32
                                    have HP33 := Kd.R_putg HO_14.out (x15_4 : Int) ((rd_T38 l0 x15_4).f2)
                                    go_wp2_with (first | ((with_reducible refine gate_store (t := 2) (p := 86) rfl ?_); (try (rw [drewN_self wr]; generalize hq_ : World.drewN wr _ = wr; have n0_ := Aside0.mk (Kd.R_at hq_ HO_14.out); have n1_ := Aside0.mk (below_at hq_ HB.out); clear hq_ HO_14 HB; have HO_14 := n0_; have HB := n1_; clear n0_ n1_; (try (have HP33 := Kd.R_putg HO_14.out (x15_4 : Int) ((rd_T38 l0 x15_4).f2))))); refine store_event (t := 2) (p := 86) (v := ?vo_w34) (w1 := (wr.setCell ⟨go32, (x15_4 : Int).toNat, none⟩ (.int .i64 ((rd_T38 l0 x15_4).f2)))) ?hg ?ho ?hn ?hr ?_; (case ho => rfl); (case hg => rfl); (case hn => rfl); (case hr => first | (go_simp; done) | (go_simp; rfl)); intro w34 hw; have hg : wr.grownBy w34 (some go32) := (by rw [hw]; exact HP33.2); have hp_ : Kd.R (Kd.int .i64) 2 w34 w.heap.size (fun _ => True) (.slice (some ⟨go32, 0, none⟩) x14_4.length co32) y234 := (by rw [hw, Ny234.out]; exact HP33.1); clear HP33; have n0_ := Aside0.mk (hp_); have n1_ := Aside0.mk ((by rw [hw]; exact below_set (HB.out) GB32.out : Below w.heap.size w w34)); clear HO_14; clear HB; have HO_14 := n0_; have HB := n1_; clear n0_ n1_; clear hg hw hp_))
                                    repeat (go_quiet (first | ((with_reducible refine gate_store (t := 2) (p := 86) rfl ?_); (try (rw [drewN_self wr]; generalize hq_ : World.drewN wr _ = wr; have n0_ := Aside0.mk (Kd.R_at hq_ HO_14.out); have n1_ := Aside0.mk (below_at hq_ HB.out); clear hq_ HO_14 HB; have HO_14 := n0_; have HB := n1_; clear n0_ n1_; (try (have HP33 := Kd.R_putg HO_14.out (x15_4 : Int) ((rd_T38 l0 x15_4).f2))))); refine store_event (t := 2) (p := 86) (v := ?vo_w34) (w1 := (wr.setCell ⟨go32, (x15_4 : Int).toNat, none⟩ (.int .i64 ((rd_T38 l0 x15_4).f2)))) ?hg ?ho ?hn ?hr ?_; (case ho => rfl); (case hg => rfl); (case hn => rfl); (case hr => first | (go_simp; done) | (go_simp; rfl)); intro w34 hw; have hg : wr.grownBy w34 (some go32) := (by rw [hw]; exact HP33.2); have hp_ : Kd.R (Kd.int .i64) 2 w34 w.heap.size (fun _ => True) (.slice (some ⟨go32, 0, none⟩) x14_4.length co32) y234 := (by rw [hw, Ny234.out]; exact HP33.1); clear HP33; have n0_ := Aside0.mk (hp_); have n1_ := Aside0.mk ((by rw [hw]; exact below_set (HB.out) GB32.out : Below w.heap.size w w34)); clear HO_14; clear HB; have HO_14 := n0_; have HB := n1_; clear n0_ n1_; clear hg hw hp_)); try go_wp2_with (first | ((with_reducible refine gate_store (t := 2) (p := 86) rfl ?_); (try (rw [drewN_self wr]; generalize hq_ : World.drewN wr _ = wr; have n0_ := Aside0.mk (Kd.R_at hq_ HO_14.out); have n1_ := Aside0.mk (below_at hq_ HB.out); clear hq_ HO_14 HB; have HO_14 := n0_; have HB := n1_; clear n0_ n1_; (try (have HP33 := Kd.R_putg HO_14.out (x15_4 : Int) ((rd_T38 l0 x15_4).f2))))); refine store_event (t := 2) (p := 86) (v := ?vo_w34) (w1 := (wr.setCell ⟨go32, (x15_4 : Int).toNat, none⟩ (.int .i64 ((rd_T38 l0 x15_4).f2)))) ?hg ?ho ?hn ?hr ?_; (case ho => rfl); (case hg => rfl); (case hn => rfl); (case hr => first | (go_simp; done) | (go_simp; rfl)); intro w34 hw; have hg : wr.grownBy w34 (some go32) := (by rw [hw]; exact HP33.2); have hp_ : Kd.R (Kd.int .i64) 2 w34 w.heap.size (fun _ => True) (.slice (some ⟨go32, 0, none⟩) x14_4.length co32) y234 := (by rw [hw, Ny234.out]; exact HP33.1); clear HP33; have n0_ := Aside0.mk (hp_); have n1_ := Aside0.mk ((by rw [hw]; exact below_set (HB.out) GB32.out : Below w.heap.size w w34)); clear HO_14; clear HB; have HO_14 := n0_; have HB := n1_; clear n0_ n1_; clear hg hw hp_)))
                                    go_roundg k4
                                    case measure => have := HJ3.out; have := HK2.out; have := HJ16.out; have := HK4.out; omega
                                    case rel => exact ⟨(y234), (wrap64 (x15_4 + 1)), (by first | rfl | (simp; done) | (simp [*]; done)), H', ⟨by have := HJ3.out; have := HK2.out; have := HJ16.out; have := HK4.out; omega⟩, ⟨by (with_reducible repeat (first | apply Kd.R_alloc | apply Kd.R_drewN | apply Kd.R_drew)); exact HO_14.out⟩, ⟨by repeat (first | (with_reducible first | exact HB.out | apply below_alloc | apply pw_below_drewN | apply below_drew1) | exact HB.out)⟩⟩
                                  · rw [if_neg c31] at H
                                    exact absurd H (by simp)
                                · rw [if_neg c30] at H
                                  exact absurd H (by simp)
                              · rw [if_neg c29] at H
                                have c29b0 : decide (x15_4 < (l0.length : Int)) = false := decide_eq_false c29
                                clear c29
                                have H' := Aside0.mk H
                                clear H
                                go_wp2
                                repeat (go_quiet (fail); try go_wp2)
                                go_loopg [16, 17, 18] k4 (fun kq v16 v17 v18 w' => ∃ (x14_5 : List Int) (x16_5 : Int) (x17_5 : Int) (x18_5 : Int), v16 = .int .i64 x16_5 ∧ v17 = .int .i64 x17_5 ∧ v18 = .int .i64 x18_5 ∧ Aside0 (carillonlaw23_DemandBlock.l2 kq l0 l2 (wrap64 (Int.tmod a1 9)) x14_5 x16_5 x17_5 x18_5 = some r) ∧ Aside0 (kq ≤ k4) ∧ Aside0 (Kd.R (Kd.int .i64) 2 w' w.heap.size (fun _ => True) v231 x14_5) ∧ Aside0 (Below w.heap.size w w'))
                                case atStart => exact ⟨(x14_4), (0), (x7_2), (0), (by first | rfl | (simp; done) | (simp [*]; done)), (by first | rfl | (simp; done) | (simp [*]; done)), (by first | rfl | (simp; done) | (simp [*]; done)), H', ⟨Nat.le_refl _⟩, ⟨by (with_reducible repeat (first | apply Kd.R_alloc | apply Kd.R_drewN | apply Kd.R_drew)); exact HO_14.out⟩, ⟨by repeat (first | (with_reducible first | exact HB.out | apply below_alloc | apply pw_below_drewN | apply below_drew1) | exact HB.out)⟩⟩
                                case round =>
                                  clear H'
                                  try clear c1
                                  try clear c2
                                  try clear p2
                                  try clear q2
                                  try clear hx2
                                  try clear c3
                                  try clear p3
                                  try clear q3
                                  try clear hx3
                                  try clear hf3
                                  try clear c5
                                  try clear c5b0
                                  try clear c5b1
                                  try clear c6
                                  try clear c6b0
                                  try clear c6b1
                                  try clear p6
                                  try clear c9
                                  try clear c12
                                  try clear c12b0
                                  try clear c13
                                  try clear c13b0
                                  try clear c16
                                  try clear c16b0
                                  try clear c16b1
                                  try clear c21
                                  try clear c22
                                  try clear p22
                                  try clear q22
                                  try clear hx22
                                  try clear p23
                                  try clear q23
                                  try clear hx23
                                  try clear c25
                                  try clear c25b0
                                  try clear c25b1
                                  try clear c26
                                  try clear c26b0
                                  try clear c26b1
                                  try clear c29
                                  try clear c29b0
                                  try clear c30
                                  try clear c30b0
                                  try clear c31
                                  try clear c31b0
                                  try clear p32
                                  try clear q32
                                  try clear hx32
                                  try clear hf32
                                  try clear hx221_0
                                  try clear hx221_1
                                  try clear hx221_2
                                  try clear hx233_0
                                  try clear hx233_1
                                  try clear hx233_2
                                  try clear hx32_0
                                  try clear p2
                                  try clear p22
                                  try clear p221
                                  try clear p233
                                  try clear p32
                                  try clear p6
                                  try clear q2
                                  try clear q22
                                  try clear q221
                                  try clear q233
                                  try clear q32
                                  obtain ⟨x14_5, x16_5, x17_5, x18_5, rfl, rfl, rfl, HA, HK5, HO_14, HB⟩ := hrel
                                  cases gk with
                                  | zero => exact absurd HA.out (by simp [carillonlaw23_DemandBlock.l2])
                                  | succ k5 =>
                                    have H := HA.out
                                    clear HA
                                    simp only [carillonlaw23_DemandBlock.l2] at H
                                    by_cases c35 : x17_5 > 0
                                    · rw [if_pos c35] at H
                                      have c35b0 : decide (0 < x17_5) = true := decide_eq_true c35
                                      clear c35
                                      have H' := Aside0.mk H
                                      clear H
                                      go_wp2
                                      repeat (go_quiet (fail); try go_wp2)
                                      go_loopg [19, 20, 21] k5 (fun kq v19 v20 v21 w' => ∃ (x19_6 : Int) (x20_6 : Int) (x21_6 : Int), v19 = .int .i64 x19_6 ∧ v20 = .int .i64 x20_6 ∧ v21 = .int .i64 x21_6 ∧ Aside0 (carillonlaw23_DemandBlock.l3 kq l0 l2 (wrap64 (Int.tmod a1 9)) x14_5 x16_5 x17_5 x18_5 x19_6 x20_6 x21_6 = some r) ∧ Aside0 (kq ≤ k5) ∧ Aside0 (Kd.R (Kd.int .i64) 2 w' w.heap.size (fun _ => True) v231 x14_5) ∧ Aside0 (Below w.heap.size w w'))
                                      case atStart => exact ⟨((-1)), (4611686018427387904), (0), (by first | rfl | (simp; done) | (simp [*]; done)), (by first | rfl | (simp; done) | (simp [*]; done)), (by first | rfl | (simp; done) | (simp [*]; done)), H', ⟨Nat.le_refl _⟩, ⟨by (with_reducible repeat (first | apply Kd.R_alloc | apply Kd.R_drewN | apply Kd.R_drew)); exact HO_14.out⟩, ⟨by repeat (first | (with_reducible first | exact HB.out | apply below_alloc | apply pw_below_drewN | apply below_drew1) | exact HB.out)⟩⟩
                                      case round =>
                                        clear H'
                                        try clear c1
                                        try clear c2
                                        try clear p2
                                        try clear q2
                                        try clear hx2
                                        try clear c3
                                        try clear p3
                                        try clear q3
                                        try clear hx3
                                        try clear hf3
                                        try clear c5
                                        try clear c5b0
                                        try clear c5b1
                                        try clear c6
                                        try clear c6b0
                                        try clear c6b1
                                        try clear p6
                                        try clear c9
                                        try clear c12
                                        try clear c12b0
                                        try clear c13
                                        try clear c13b0
                                        try clear c16
                                        try clear c16b0
                                        try clear c16b1
                                        try clear c21
                                        try clear c22
                                        try clear p22
                                        try clear q22
                                        try clear hx22
                                        try clear p23
                                        try clear q23
                                        try clear hx23
                                        try clear c25
                                        try clear c25b0
                                        try clear c25b1
                                        try clear c26
                                        try clear c26b0
                                        try clear c26b1
                                        try clear c29
                                        try clear c29b0
                                        try clear c30
                                        try clear c30b0
                                        try clear c31
                                        try clear c31b0
                                        try clear p32
                                        try clear q32
                                        try clear hx32
                                        try clear hf32
                                        try clear c35
                                        try clear c35b0
                                        try clear hx221_0
                                        try clear hx221_1
                                        try clear hx221_2
                                        try clear hx233_0
                                        try clear hx233_1
                                        try clear hx233_2
                                        try clear hx32_0
                                        try clear p2
                                        try clear p22
                                        try clear p221
                                        try clear p23
                                        try clear p233
                                        try clear p3
                                        try clear p32
                                        try clear p6
                                        try clear q2
                                        try clear q22
                                        try clear q221
                                        try clear q23
                                        try clear q233
                                        try clear q3
                                        try clear q32
                                        obtain ⟨x19_6, x20_6, x21_6, rfl, rfl, rfl, HA, HK6, HO_14, HB⟩ := hrel
                                        cases gk with
                                        | zero => exact absurd HA.out (by simp [carillonlaw23_DemandBlock.l3])
                                        | succ k6 =>
                                          have H := HA.out
                                          clear HA
                                          simp only [carillonlaw23_DemandBlock.l3] at H
                                          by_cases c36 : x21_6 < (l0.length : Int)
                                          · rw [if_pos c36] at H
                                            have c36b0 : decide (x21_6 < (l0.length : Int)) = true := decide_eq_true c36
                                            clear c36
                                            by_cases c37 : 0 ≤ x21_6
                                            · rw [if_pos c37] at H
                                              have c37b0 : decide (0 ≤ x21_6) = true := decide_eq_true c37
                                              clear c37
                                              by_cases c38 : x21_6 < (x14_5.length : Int)
                                              · rw [if_pos c38] at H
                                                have c38b0 : decide (x21_6 < (x14_5.length : Int)) = true := decide_eq_true c38
                                                clear c38
                                                by_cases c39 : (rd x14_5 x21_6) = 0
                                                · rw [if_pos c39] at H
                                                  have c39b0 : ((rd x14_5 x21_6) == 0) = true := beq_iff_eq.mpr c39
                                                  have c39b1 : ((rd x14_5 x21_6) != 0) = false := bne_eq_false_iff_eq.mpr c39
                                                  clear c39
                                                  have H' := Aside0.mk H
                                                  clear H
                                                  obtain ⟨Ao40, co40, eo40⟩ := Kd.R_slice HO_14.out
                                                  subst eo40
                                                  have p236 : 0 ≤ (x21_6 : Int) := of_decide_eq_true (by first | (with_reducible assumption) | assumption)
                                                  have q236 : x21_6 < (x14_5.length : Int) := of_decide_eq_true (by first | (with_reducible assumption) | assumption)
                                                  obtain ⟨ad236, e236, hx236_0⟩ := Kd.at_int (Kd.R_reads' HO_14.out).2.2 x21_6 p236 q236
                                                  cases e236
                                                  replace p236 := eq_true p236
                                                  replace q236 := eq_true q236
                                                  go_wp2
                                                  repeat (go_quiet (fail); try go_wp2)
                                                  go_roundg k6
                                                  case measure => have := HJ3.out; have := HK2.out; have := HJ16.out; have := HK4.out; have := HK5.out; have := HK6.out; omega
                                                  case rel => exact ⟨(x19_6), (x20_6), (wrap64 (x21_6 + 1)), (by first | rfl | (simp; done) | (simp [*]; done)), (by first | rfl | (simp; done) | (simp [*]; done)), (by first | rfl | (simp; done) | (simp [*]; done)), H', ⟨by have := HJ3.out; have := HK2.out; have := HJ16.out; have := HK4.out; have := HK5.out; have := HK6.out; omega⟩, ⟨by (with_reducible repeat (first | apply Kd.R_alloc | apply Kd.R_drewN | apply Kd.R_drew)); exact HO_14.out⟩, ⟨by repeat (first | (with_reducible first | exact HB.out | apply below_alloc | apply pw_below_drewN | apply below_drew1) | exact HB.out)⟩⟩
                                                · rw [if_neg c39] at H
                                                  have c39b0 : ((rd x14_5 x21_6) == 0) = false := beq_eq_false_iff_ne.mpr c39
                                                  have c39b1 : ((rd x14_5 x21_6) != 0) = true := bne_iff_ne.mpr c39
                                                  by_cases c41 : ((rd_T38 l0 x21_6).f0) > x16_5
                                                  · rw [if_pos c41] at H
                                                    have c41b0 : decide (x16_5 < ((rd_T38 l0 x21_6).f0)) = true := decide_eq_true c41
                                                    clear c41
                                                    obtain ⟨ji42, hji42⟩ : ∃ j_ : Int, (mn x20_6 ((rd_T38 l0 x21_6).f0)) = j_ := ⟨_, rfl⟩
                                                    replace H : (carillonlaw23_DemandBlock.l3 k6 l0 l2 (wrap64 (Int.tmod a1 9)) x14_5 x16_5 x17_5 x18_5 x19_6 ji42 (wrap64 (x21_6 + 1))) = some r := by first | (rw [hji42] at H; exact H) | (simp only [hji42] at H ⊢; exact H)
                                                    have hji42_ : (if ((rd_T38 l0 x21_6).f0) < x20_6 then ((rd_T38 l0 x21_6).f0) else x20_6) = ji42 := hji42
                                                    have H' := Aside0.mk H
                                                    clear H
                                                    obtain ⟨Ao43, co43, eo43⟩ := Kd.R_slice HO_14.out
                                                    subst eo43
                                                    have p236 : 0 ≤ (x21_6 : Int) := of_decide_eq_true (by first | (with_reducible assumption) | assumption)
                                                    have q236 : x21_6 < (x14_5.length : Int) := of_decide_eq_true (by first | (with_reducible assumption) | assumption)
                                                    obtain ⟨ad236, e236, hx236_0⟩ := Kd.at_int (Kd.R_reads' HO_14.out).2.2 x21_6 p236 q236
                                                    cases e236
                                                    replace p236 := eq_true p236
                                                    replace q236 := eq_true q236
                                                    have p237 : 0 ≤ (x21_6 : Int) := of_decide_eq_true (by first | (with_reducible assumption) | assumption)
                                                    have q237 : x21_6 < (l0.length : Int) := of_decide_eq_true (by first | (with_reducible assumption) | assumption)
                                                    obtain ⟨ad237, e237, hx237_0, hx237_1, hx237_2⟩ := at_T38 HR0.out x21_6 p237 q237
                                                    cases e237
                                                    replace hx237_0 := (HB.out.cell (World.block_lt_of_cell? w _ hx237_0)).trans hx237_0
                                                    replace hx237_1 := (HB.out.cell (World.block_lt_of_cell? w _ hx237_1)).trans hx237_1
                                                    replace hx237_2 := (HB.out.cell (World.block_lt_of_cell? w _ hx237_2)).trans hx237_2
                                                    replace p237 := eq_true p237
                                                    replace q237 := eq_true q237
                                                    have p238 : 0 ≤ (x21_6 : Int) := of_decide_eq_true (by first | (with_reducible assumption) | assumption)
                                                    have q238 : x21_6 < (l0.length : Int) := of_decide_eq_true (by first | (with_reducible assumption) | assumption)
                                                    obtain ⟨ad238, e238, hx238_0, hx238_1, hx238_2⟩ := at_T38 HR0.out x21_6 p238 q238
                                                    obtain rfl : ad237 = ad238 := (by injection e238)
                                                    replace hx238_0 := (HB.out.cell (World.block_lt_of_cell? w _ hx238_0)).trans hx238_0
                                                    replace hx238_1 := (HB.out.cell (World.block_lt_of_cell? w _ hx238_1)).trans hx238_1
                                                    replace hx238_2 := (HB.out.cell (World.block_lt_of_cell? w _ hx238_2)).trans hx238_2
                                                    replace p238 := eq_true p238
                                                    replace q238 := eq_true q238
                                                    go_wp2
                                                    repeat (go_quiet (fail); try go_wp2)
                                                    go_roundg k6
                                                    case measure => have := HJ3.out; have := HK2.out; have := HJ16.out; have := HK4.out; have := HK5.out; have := HK6.out; omega
                                                    case rel => exact ⟨(x19_6), (ji42), (wrap64 (x21_6 + 1)), (by first | rfl | (simp; done) | (simp [*]; done)), (by first | rfl | (simp; done) | (simp only [← hji42] <;> (first | rfl | simp)) | (simp [*]; done)), (by first | rfl | (simp; done) | (simp [*]; done)), H', ⟨by have := HJ3.out; have := HK2.out; have := HJ16.out; have := HK4.out; have := HK5.out; have := HK6.out; omega⟩, ⟨by (with_reducible repeat (first | apply Kd.R_alloc | apply Kd.R_drewN | apply Kd.R_drew)); exact HO_14.out⟩, ⟨by repeat (first | (with_reducible first | exact HB.out | apply below_alloc | apply pw_below_drewN | apply below_drew1) | exact HB.out)⟩⟩
                                                  · rw [if_neg c41] at H
                                                    have c41b0 : decide (x16_5 < ((rd_T38 l0 x21_6).f0)) = false := decide_eq_false c41
                                                    clear c41
                                                    by_cases c44 : x19_6 < 0
                                                    · rw [if_pos c44] at H
                                                      have c44b0 : decide (x19_6 < 0) = true := decide_eq_true c44
                                                      clear c44
                                                      have H' := Aside0.mk H
                                                      clear H
                                                      obtain ⟨Ao45, co45, eo45⟩ := Kd.R_slice HO_14.out
                                                      subst eo45
                                                      have p236 : 0 ≤ (x21_6 : Int) := of_decide_eq_true (by first | (with_reducible assumption) | assumption)
                                                      have q236 : x21_6 < (x14_5.length : Int) := of_decide_eq_true (by first | (with_reducible assumption) | assumption)
                                                      obtain ⟨ad236, e236, hx236_0⟩ := Kd.at_int (Kd.R_reads' HO_14.out).2.2 x21_6 p236 q236
                                                      cases e236
                                                      replace p236 := eq_true p236
                                                      replace q236 := eq_true q236
                                                      have p237 : 0 ≤ (x21_6 : Int) := of_decide_eq_true (by first | (with_reducible assumption) | assumption)
                                                      have q237 : x21_6 < (l0.length : Int) := of_decide_eq_true (by first | (with_reducible assumption) | assumption)
                                                      obtain ⟨ad237, e237, hx237_0, hx237_1, hx237_2⟩ := at_T38 HR0.out x21_6 p237 q237
                                                      cases e237
                                                      replace hx237_0 := (HB.out.cell (World.block_lt_of_cell? w _ hx237_0)).trans hx237_0
                                                      replace hx237_1 := (HB.out.cell (World.block_lt_of_cell? w _ hx237_1)).trans hx237_1
                                                      replace hx237_2 := (HB.out.cell (World.block_lt_of_cell? w _ hx237_2)).trans hx237_2
                                                      replace p237 := eq_true p237
                                                      replace q237 := eq_true q237
                                                      go_wp2
                                                      repeat (go_quiet (fail); try go_wp2)
                                                      go_roundg k6
                                                      case measure => have := HJ3.out; have := HK2.out; have := HJ16.out; have := HK4.out; have := HK5.out; have := HK6.out; omega
                                                      case rel => exact ⟨(x21_6), (x20_6), (wrap64 (x21_6 + 1)), (by first | rfl | (simp; done) | (simp [*]; done)), (by first | rfl | (simp; done) | (simp [*]; done)), (by first | rfl | (simp; done) | (simp [*]; done)), H', ⟨by have := HJ3.out; have := HK2.out; have := HJ16.out; have := HK4.out; have := HK5.out; have := HK6.out; omega⟩, ⟨by (with_reducible repeat (first | apply Kd.R_alloc | apply Kd.R_drewN | apply Kd.R_drew)); exact HO_14.out⟩, ⟨by repeat (first | (with_reducible first | exact HB.out | apply below_alloc | apply pw_below_drewN | apply below_drew1) | exact HB.out)⟩⟩
                                                    · rw [if_neg c44] at H
                                                      have c44b0 : decide (x19_6 < 0) = false := decide_eq_false c44
                                                      clear c44
                                                      by_cases c46 : 0 ≤ x19_6
                                                      · rw [if_pos c46] at H
                                                        have c46b0 : decide (0 ≤ x19_6) = true := decide_eq_true c46
                                                        clear c46
                                                        by_cases c47 : x19_6 < (l0.length : Int)
                                                        · rw [if_pos c47] at H
                                                          have c47b0 : decide (x19_6 < (l0.length : Int)) = true := decide_eq_true c47
                                                          clear c47
                                                          by_cases c48 : ((rd_T38 l0 x21_6).f1) < ((rd_T38 l0 x19_6).f1)
                                                          · rw [if_pos c48] at H
                                                            have c48b0 : decide (((rd_T38 l0 x21_6).f1) < ((rd_T38 l0 x19_6).f1)) = true := decide_eq_true c48
                                                            clear c48
                                                            have H' := Aside0.mk H
                                                            clear H
                                                            obtain ⟨Ao49, co49, eo49⟩ := Kd.R_slice HO_14.out
                                                            subst eo49
                                                            have p236 : 0 ≤ (x21_6 : Int) := of_decide_eq_true (by first | (with_reducible assumption) | assumption)
                                                            have q236 : x21_6 < (x14_5.length : Int) := of_decide_eq_true (by first | (with_reducible assumption) | assumption)
                                                            obtain ⟨ad236, e236, hx236_0⟩ := Kd.at_int (Kd.R_reads' HO_14.out).2.2 x21_6 p236 q236
                                                            cases e236
                                                            replace p236 := eq_true p236
                                                            replace q236 := eq_true q236
                                                            have p237 : 0 ≤ (x21_6 : Int) := of_decide_eq_true (by first | (with_reducible assumption) | assumption)
                                                            have q237 : x21_6 < (l0.length : Int) := of_decide_eq_true (by first | (with_reducible assumption) | assumption)
                                                            obtain ⟨ad237, e237, hx237_0, hx237_1, hx237_2⟩ := at_T38 HR0.out x21_6 p237 q237
                                                            cases e237
                                                            replace hx237_0 := (HB.out.cell (World.block_lt_of_cell? w _ hx237_0)).trans hx237_0
                                                            replace hx237_1 := (HB.out.cell (World.block_lt_of_cell? w _ hx237_1)).trans hx237_1
                                                            replace hx237_2 := (HB.out.cell (World.block_lt_of_cell? w _ hx237_2)).trans hx237_2
                                                            replace p237 := eq_true p237
                                                            replace q237 := eq_true q237
                                                            have p239 : 0 ≤ (x21_6 : Int) := of_decide_eq_true (by first | (with_reducible assumption) | assumption)
                                                            have q239 : x21_6 < (l0.length : Int) := of_decide_eq_true (by first | (with_reducible assumption) | assumption)
                                                            obtain ⟨ad239, e239, hx239_0, hx239_1, hx239_2⟩ := at_T38 HR0.out x21_6 p239 q239
                                                            obtain rfl : ad237 = ad239 := (by injection e239)
                                                            replace hx239_0 := (HB.out.cell (World.block_lt_of_cell? w _ hx239_0)).trans hx239_0
                                                            replace hx239_1 := (HB.out.cell (World.block_lt_of_cell? w _ hx239_1)).trans hx239_1
                                                            replace hx239_2 := (HB.out.cell (World.block_lt_of_cell? w _ hx239_2)).trans hx239_2
                                                            replace p239 := eq_true p239
                                                            replace q239 := eq_true q239
                                                            have p240 : 0 ≤ (x19_6 : Int) := of_decide_eq_true (by first | (with_reducible assumption) | assumption)
                                                            have q240 : x19_6 < (l0.length : Int) := of_decide_eq_true (by first | (with_reducible assumption) | assumption)
                                                            obtain ⟨ad240, e240, hx240_0, hx240_1, hx240_2⟩ := at_T38 HR0.out x19_6 p240 q240
                                                            obtain rfl : ad237 = ad240 := (by injection e240)
                                                            replace hx240_0 := (HB.out.cell (World.block_lt_of_cell? w _ hx240_0)).trans hx240_0
                                                            replace hx240_1 := (HB.out.cell (World.block_lt_of_cell? w _ hx240_1)).trans hx240_1
                                                            replace hx240_2 := (HB.out.cell (World.block_lt_of_cell? w _ hx240_2)).trans hx240_2
                                                            replace p240 := eq_true p240
                                                            replace q240 := eq_true q240
                                                            go_wp2
                                                            repeat (go_quiet (fail); try go_wp2)
                                                            go_roundg k6
                                                            case measure => have := HJ3.out; have := HK2.out; have := HJ16.out; have := HK4.out; have := HK5.out; have := HK6.out; omega
                                                            case rel => exact ⟨(x21_6), (x20_6), (wrap64 (x21_6 + 1)), (by first | rfl | (simp; done) | (simp [*]; done)), (by first | rfl | (simp; done) | (simp [*]; done)), (by first | rfl | (simp; done) | (simp [*]; done)), H', ⟨by have := HJ3.out; have := HK2.out; have := HJ16.out; have := HK4.out; have := HK5.out; have := HK6.out; omega⟩, ⟨by (with_reducible repeat (first | apply Kd.R_alloc | apply Kd.R_drewN | apply Kd.R_drew)); exact HO_14.out⟩, ⟨by repeat (first | (with_reducible first | exact HB.out | apply below_alloc | apply pw_below_drewN | apply below_drew1) | exact HB.out)⟩⟩
                                                          · rw [if_neg c48] at H
                                                            have c48b0 : decide (((rd_T38 l0 x21_6).f1) < ((rd_T38 l0 x19_6).f1)) = false := decide_eq_false c48
                                                            clear c48
                                                            have H' := Aside0.mk H
                                                            clear H
                                                            obtain ⟨Ao50, co50, eo50⟩ := Kd.R_slice HO_14.out
                                                            subst eo50
                                                            have p236 : 0 ≤ (x21_6 : Int) := of_decide_eq_true (by first | (with_reducible assumption) | assumption)
                                                            have q236 : x21_6 < (x14_5.length : Int) := of_decide_eq_true (by first | (with_reducible assumption) | assumption)
                                                            obtain ⟨ad236, e236, hx236_0⟩ := Kd.at_int (Kd.R_reads' HO_14.out).2.2 x21_6 p236 q236
                                                            cases e236
                                                            replace p236 := eq_true p236
                                                            replace q236 := eq_true q236
                                                            have p237 : 0 ≤ (x21_6 : Int) := of_decide_eq_true (by first | (with_reducible assumption) | assumption)
                                                            have q237 : x21_6 < (l0.length : Int) := of_decide_eq_true (by first | (with_reducible assumption) | assumption)
                                                            obtain ⟨ad237, e237, hx237_0, hx237_1, hx237_2⟩ := at_T38 HR0.out x21_6 p237 q237
                                                            cases e237
                                                            replace hx237_0 := (HB.out.cell (World.block_lt_of_cell? w _ hx237_0)).trans hx237_0
                                                            replace hx237_1 := (HB.out.cell (World.block_lt_of_cell? w _ hx237_1)).trans hx237_1
                                                            replace hx237_2 := (HB.out.cell (World.block_lt_of_cell? w _ hx237_2)).trans hx237_2
                                                            replace p237 := eq_true p237
                                                            replace q237 := eq_true q237
                                                            have p239 : 0 ≤ (x21_6 : Int) := of_decide_eq_true (by first | (with_reducible assumption) | assumption)
                                                            have q239 : x21_6 < (l0.length : Int) := of_decide_eq_true (by first | (with_reducible assumption) | assumption)
                                                            obtain ⟨ad239, e239, hx239_0, hx239_1, hx239_2⟩ := at_T38 HR0.out x21_6 p239 q239
                                                            obtain rfl : ad237 = ad239 := (by injection e239)
                                                            replace hx239_0 := (HB.out.cell (World.block_lt_of_cell? w _ hx239_0)).trans hx239_0
                                                            replace hx239_1 := (HB.out.cell (World.block_lt_of_cell? w _ hx239_1)).trans hx239_1
                                                            replace hx239_2 := (HB.out.cell (World.block_lt_of_cell? w _ hx239_2)).trans hx239_2
                                                            replace p239 := eq_true p239
                                                            replace q239 := eq_true q239
                                                            have p240 : 0 ≤ (x19_6 : Int) := of_decide_eq_true (by first | (with_reducible assumption) | assumption)
                                                            have q240 : x19_6 < (l0.length : Int) := of_decide_eq_true (by first | (with_reducible assumption) | assumption)
                                                            obtain ⟨ad240, e240, hx240_0, hx240_1, hx240_2⟩ := at_T38 HR0.out x19_6 p240 q240
                                                            obtain rfl : ad237 = ad240 := (by injection e240)
                                                            replace hx240_0 := (HB.out.cell (World.block_lt_of_cell? w _ hx240_0)).trans hx240_0
                                                            replace hx240_1 := (HB.out.cell (World.block_lt_of_cell? w _ hx240_1)).trans hx240_1
                                                            replace hx240_2 := (HB.out.cell (World.block_lt_of_cell? w _ hx240_2)).trans hx240_2
                                                            replace p240 := eq_true p240
                                                            replace q240 := eq_true q240
                                                            go_wp2
                                                            repeat (go_quiet (fail); try go_wp2)
                                                            go_roundg k6
                                                            case measure => have := HJ3.out; have := HK2.out; have := HJ16.out; have := HK4.out; have := HK5.out; have := HK6.out; omega
                                                            case rel => exact ⟨(x19_6), (x20_6), (wrap64 (x21_6 + 1)), (by first | rfl | (simp; done) | (simp [*]; done)), (by first | rfl | (simp; done) | (simp [*]; done)), (by first | rfl | (simp; done) | (simp [*]; done)), H', ⟨by have := HJ3.out; have := HK2.out; have := HJ16.out; have := HK4.out; have := HK5.out; have := HK6.out; omega⟩, ⟨by (with_reducible repeat (first | apply Kd.R_alloc | apply Kd.R_drewN | apply Kd.R_drew)); exact HO_14.out⟩, ⟨by repeat (first | (with_reducible first | exact HB.out | apply below_alloc | apply pw_below_drewN | apply below_drew1) | exact HB.out)⟩⟩
                                                        · rw [if_neg c47] at H
                                                          exact absurd H (by simp)
                                                      · rw [if_neg c46] at H
                                                        exact absurd H (by simp)
                                              · rw [if_neg c38] at H
                                                exact absurd H (by simp)
                                            · rw [if_neg c37] at H
                                              exact absurd H (by simp)
                                          · rw [if_neg c36] at H
                                            have c36b0 : decide (x21_6 < (l0.length : Int)) = false := decide_eq_false c36
                                            clear c36
                                            by_cases c51 : x19_6 < 0
                                            · rw [if_pos c51] at H
                                              have c51b0 : decide (x19_6 < 0) = true := decide_eq_true c51
                                              clear c51
                                              have H' := Aside0.mk H
                                              clear H
                                              go_wp2
                                              repeat (go_quiet (fail); try go_wp2)
                                              go_roundg k6
                                              case measure => have := HJ3.out; have := HK2.out; have := HJ16.out; have := HK4.out; have := HK5.out; have := HK6.out; omega
                                              case rel => exact ⟨(x14_5), (x20_6), (x17_5), (x18_5), (by first | rfl | (simp; done) | (simp [*]; done)), (by first | rfl | (simp; done) | (simp [*]; done)), (by first | rfl | (simp; done) | (simp [*]; done)), H', ⟨by have := HJ3.out; have := HK2.out; have := HJ16.out; have := HK4.out; have := HK5.out; have := HK6.out; omega⟩, ⟨by (with_reducible repeat (first | apply Kd.R_alloc | apply Kd.R_drewN | apply Kd.R_drew)); exact HO_14.out⟩, ⟨by repeat (first | (with_reducible first | exact HB.out | apply below_alloc | apply pw_below_drewN | apply below_drew1) | exact HB.out)⟩⟩
                                            · rw [if_neg c51] at H
                                              have c51b0 : decide (x19_6 < 0) = false := decide_eq_false c51
                                              clear c51
                                              by_cases c52 : x18_5 < (l2.length : Int)
                                              · rw [if_pos c52] at H
                                                have c52b0 : decide (x18_5 < (l2.length : Int)) = true := decide_eq_true c52
                                                clear c52
                                                by_cases c53 : 0 ≤ x18_5
                                                · rw [if_pos c53] at H
                                                  have c53b0 : decide (0 ≤ x18_5) = true := decide_eq_true c53
                                                  clear c53
                                                  by_cases c54 : (wrap64 ((wrap64 (Int.tmod a1 9)) + 1)) = 0
                                                  · rw [if_pos c54] at H
                                                    exact absurd H (by simp)
                                                  · rw [if_neg c54] at H
                                                    have c54b0 : ((wrap64 ((wrap64 (Int.tmod a1 9)) + 1)) == 0) = false := beq_eq_false_iff_ne.mpr c54
                                                    have c54b1 : ((wrap64 ((wrap64 (Int.tmod a1 9)) + 1)) != 0) = true := bne_iff_ne.mpr c54
                                                    by_cases c55 : 0 ≤ x19_6
                                                    · rw [if_pos c55] at H
                                                      have c55b0 : decide (0 ≤ x19_6) = true := decide_eq_true c55
                                                      clear c55
                                                      by_cases c56 : x19_6 < (x14_5.length : Int)
                                                      · rw [if_pos c56] at H
                                                        have c56b0 : decide (x19_6 < (x14_5.length : Int)) = true := decide_eq_true c56
                                                        clear c56
                                                        obtain ⟨ji57, hji57⟩ : ∃ j_ : Int, (mn (wrap64 ((Int.tmod (wrap64 (rd l2 x18_5)) (wrap64 ((wrap64 (Int.tmod a1 9)) + 1))) + 1)) (rd x14_5 x19_6)) = j_ := ⟨_, rfl⟩
                                                        replace H : ((some (x14_5.set (x19_6 : Int).toNat (wrap64 ((rd x14_5 x19_6) - (ji57))) : List Int)).bind fun y244 => (if (rd y244 x19_6) = 0 then (if x19_6 < (l0.length : Int) then (if (wrap64 (x16_5 + (ji57))) > ((rd_T38 l0 x19_6).f1) then (some false) else (carillonlaw23_DemandBlock.l2 k6 l0 l2 (wrap64 (Int.tmod a1 9)) y244 (wrap64 (x16_5 + (ji57))) (wrap64 (x17_5 - (ji57))) (wrap64 (x18_5 + 1)))) else (none)) else (carillonlaw23_DemandBlock.l2 k6 l0 l2 (wrap64 (Int.tmod a1 9)) y244 (wrap64 (x16_5 + (ji57))) (wrap64 (x17_5 - (ji57))) (wrap64 (x18_5 + 1))))) = some r := by first | (rw [hji57] at H; exact H) | (simp only [hji57] at H ⊢; exact H)
                                                        have hji57_ : (if (rd x14_5 x19_6) < (wrap64 ((Int.tmod (wrap64 (rd l2 x18_5)) (wrap64 ((wrap64 (Int.tmod a1 9)) + 1))) + 1)) then (rd x14_5 x19_6) else (wrap64 ((Int.tmod (wrap64 (rd l2 x18_5)) (wrap64 ((wrap64 (Int.tmod a1 9)) + 1))) + 1))) = ji57 := hji57
                                                        obtain ⟨y244, hy244⟩ : ∃ y_ : List Int, y_ = (x14_5.set (x19_6 : Int).toNat (wrap64 ((rd x14_5 x19_6) - (ji57)))) := ⟨_, rfl⟩
                                                        replace H : (if (rd y244 x19_6) = 0 then (if x19_6 < (l0.length : Int) then (if (wrap64 (x16_5 + (ji57))) > ((rd_T38 l0 x19_6).f1) then (some false) else (carillonlaw23_DemandBlock.l2 k6 l0 l2 (wrap64 (Int.tmod a1 9)) y244 (wrap64 (x16_5 + (ji57))) (wrap64 (x17_5 - (ji57))) (wrap64 (x18_5 + 1)))) else (none)) else (carillonlaw23_DemandBlock.l2 k6 l0 l2 (wrap64 (Int.tmod a1 9)) y244 (wrap64 (x16_5 + (ji57))) (wrap64 (x17_5 - (ji57))) (wrap64 (x18_5 + 1)))) = some r := by first | (rw [hy244]; with_reducible exact H) | (have H2_ := (Option.bind_some _ _).symm.trans H; rw [hy244]; with_reducible exact H2_) | (have H2_ := (Option.bind_some _ _).symm.trans H; with_reducible exact H2_) | with_reducible exact H | (rw [hy244]; exact H) | exact H
                                                        have Ny244 := Aside0.mk hy244
                                                        clear hy244
                                                        by_cases c59 : (rd y244 x19_6) = 0
                                                        · rw [if_pos c59] at H
                                                          have c59b0 : ((rd y244 x19_6) == 0) = true := beq_iff_eq.mpr c59
                                                          have c59b1 : ((rd y244 x19_6) != 0) = false := bne_eq_false_iff_eq.mpr c59
                                                          clear c59
                                                          by_cases c60 : x19_6 < (l0.length : Int)
                                                          · rw [if_pos c60] at H
                                                            have c60b0 : decide (x19_6 < (l0.length : Int)) = true := decide_eq_true c60
                                                            clear c60
                                                            by_cases c61 : (wrap64 (x16_5 + (ji57))) > ((rd_T38 l0 x19_6).f1)
                                                            · rw [if_pos c61] at H
                                                              have c61b0 : decide (((rd_T38 l0 x19_6).f1) < (wrap64 (x16_5 + (ji57)))) = true := decide_eq_true c61
                                                              clear c61
                                                              obtain rfl := Option.some.inj H
                                                              have p241 : 0 ≤ (x18_5 : Int) := of_decide_eq_true (by first | (with_reducible assumption) | assumption)
                                                              have q241 : x18_5 < (l2.length : Int) := of_decide_eq_true (by first | (with_reducible assumption) | assumption)
                                                              obtain ⟨ad241, e241, hx241_0⟩ := Kd.at_int HR2.out x18_5 p241 q241
                                                              cases e241
                                                              replace hx241_0 := (HB.out.cell (World.block_lt_of_cell? w _ hx241_0)).trans hx241_0
                                                              replace p241 := eq_true p241
                                                              replace q241 := eq_true q241
                                                              obtain ⟨Ao62, co62, eo62⟩ := Kd.R_slice HO_14.out
                                                              subst eo62
                                                              have p242 : 0 ≤ (x19_6 : Int) := of_decide_eq_true (by first | (with_reducible assumption) | assumption)
                                                              have q242 : x19_6 < (x14_5.length : Int) := of_decide_eq_true (by first | (with_reducible assumption) | assumption)
                                                              obtain ⟨ad242, e242, hx242_0⟩ := Kd.at_int (Kd.R_reads' HO_14.out).2.2 x19_6 p242 q242
                                                              cases e242
                                                              replace p242 := eq_true p242
                                                              replace q242 := eq_true q242
                                                              have p243 : 0 ≤ (x19_6 : Int) := of_decide_eq_true (by first | (with_reducible assumption) | assumption)
                                                              have q243 : x19_6 < (x14_5.length : Int) := of_decide_eq_true (by first | (with_reducible assumption) | assumption)
                                                              obtain ⟨ad243, e243, hx243_0⟩ := Kd.at_int (Kd.R_reads' HO_14.out).2.2 x19_6 p243 q243
                                                              obtain rfl : ad242 = ad243 := (by injection e243)
                                                              replace p243 := eq_true p243
                                                              replace q243 := eq_true q243
                                                              have p58 : 0 ≤ (x19_6 : Int) := of_decide_eq_true (by first | (with_reducible assumption) | assumption)
                                                              have q58 : (x19_6 : Int) < ((x14_5.length : Int) : Int) := of_decide_eq_true (by first | (with_reducible assumption) | assumption)
                                                              obtain ⟨go58, co58, eo58, gb58, gl58, cl58, HG58⟩ := Kd.R_form HO_14.out (by omega)
                                                              (first | cases eo58 | (injection eo58 with ea_ en_ ec_; (first | subst ea_ | (injection ea_ with ea_; subst ea_)); subst ec_; clear en_))
                                                              have GB58 := Aside0.mk gb58
                                                              have GG58 := Aside0.mk HG58
                                                              clear gb58 gl58 HG58
                                                              (first | simp only [add_plain] at hx242_0 | skip)
                                                              (first | simp only [add_plain] at hx243_0 | skip)
                                                              obtain ⟨hx58_0, hf58_0⟩ := Kd.R_celln 0 HO_14.out (x19_6 : Int) p58 q58
                                                              replace p58 := eq_true p58
                                                              replace q58 := eq_true q58
                                                              have HP63 := Kd.R_putg HO_14.out (x19_6 : Int) (wrap64 ((rd x14_5 x19_6) - (ji57)))
                                                              go_wp2_with (first | ((with_reducible refine gate_store (t := 2) (p := 166) rfl ?_); (try (rw [drewN_self wr]; generalize hq_ : World.drewN wr _ = wr; have n0_ := Aside0.mk (Kd.R_at hq_ HO_14.out); have n1_ := Aside0.mk (below_at hq_ HB.out); clear hq_ HO_14 HB; have HO_14 := n0_; have HB := n1_; clear n0_ n1_; (try (have HP63 := Kd.R_putg HO_14.out (x19_6 : Int) (wrap64 ((rd x14_5 x19_6) - (ji57))))))); refine store_event (t := 2) (p := 166) (v := ?vo_w64) (w1 := (wr.setCell ⟨go58, (x19_6 : Int).toNat, none⟩ (.int .i64 (wrap64 ((rd x14_5 x19_6) - (ji57)))))) ?hg ?ho ?hn ?hr ?_; (case ho => rfl); (case hg => rfl); (case hn => rfl); (case hr => first | (go_simp; done) | (go_simp; rfl)); intro w64 hw; have hg : wr.grownBy w64 (some go58) := (by rw [hw]; exact HP63.2); have hp_ : Kd.R (Kd.int .i64) 2 w64 w.heap.size (fun _ => True) (.slice (some ⟨go58, 0, none⟩) x14_5.length co62) y244 := (by rw [hw, Ny244.out]; exact HP63.1); clear HP63; have n0_ := Aside0.mk (hp_); have n1_ := Aside0.mk ((by rw [hw]; exact below_set (HB.out) GB58.out : Below w.heap.size w w64)); clear HO_14; clear HB; have HO_14 := n0_; have HB := n1_; clear n0_ n1_; clear hg hw hp_; have p245 : 0 ≤ (x19_6 : Int) := of_decide_eq_true (by first | (with_reducible assumption) | assumption); have q245 : x19_6 < (y244.length : Int) := (by have h_ : (x19_6 : Int) < ((x14_5.length : Int) : Int) := of_decide_eq_true (by first | (with_reducible assumption) | assumption); first | (have e_ := (Kd.R_reads' HO_14.out).1; omega) | simpa only [Ny244.out, List.length_set] using h_); have ql245 : ((x19_6 : Int) < ((x14_5.length : Int) : Int)) = True := eq_true (of_decide_eq_true (by first | (with_reducible assumption) | assumption)); obtain ⟨ad245, e245, hx245_0⟩ := Kd.at_int (Kd.R_reads' HO_14.out).2.2 x19_6 p245 q245; obtain rfl : (⟨go58, 0, none⟩ : Addr) = ad245 := (by injection e245); (first | simp only [add_plain] at hx245_0 | simp only [add_at] at hx245_0 | simp only [Addr.add, Nat.zero_add] at hx245_0 | skip); replace p245 := eq_true p245; replace q245 := eq_true q245; have p246 : 0 ≤ (x19_6 : Int) := of_decide_eq_true (by first | (with_reducible assumption) | assumption); have q246 : x19_6 < (l0.length : Int) := of_decide_eq_true (by first | (with_reducible assumption) | assumption); obtain ⟨ad246, e246, hx246_0, hx246_1, hx246_2⟩ := at_T38 HR0.out x19_6 p246 q246; cases e246; replace hx246_0 := (HB.out.cell (World.block_lt_of_cell? w _ hx246_0)).trans hx246_0; replace hx246_1 := (HB.out.cell (World.block_lt_of_cell? w _ hx246_1)).trans hx246_1; replace hx246_2 := (HB.out.cell (World.block_lt_of_cell? w _ hx246_2)).trans hx246_2; replace p246 := eq_true p246; replace q246 := eq_true q246))
                                                              repeat (go_quiet (first | ((with_reducible refine gate_store (t := 2) (p := 166) rfl ?_); (try (rw [drewN_self wr]; generalize hq_ : World.drewN wr _ = wr; have n0_ := Aside0.mk (Kd.R_at hq_ HO_14.out); have n1_ := Aside0.mk (below_at hq_ HB.out); clear hq_ HO_14 HB; have HO_14 := n0_; have HB := n1_; clear n0_ n1_; (try (have HP63 := Kd.R_putg HO_14.out (x19_6 : Int) (wrap64 ((rd x14_5 x19_6) - (ji57))))))); refine store_event (t := 2) (p := 166) (v := ?vo_w64) (w1 := (wr.setCell ⟨go58, (x19_6 : Int).toNat, none⟩ (.int .i64 (wrap64 ((rd x14_5 x19_6) - (ji57)))))) ?hg ?ho ?hn ?hr ?_; (case ho => rfl); (case hg => rfl); (case hn => rfl); (case hr => first | (go_simp; done) | (go_simp; rfl)); intro w64 hw; have hg : wr.grownBy w64 (some go58) := (by rw [hw]; exact HP63.2); have hp_ : Kd.R (Kd.int .i64) 2 w64 w.heap.size (fun _ => True) (.slice (some ⟨go58, 0, none⟩) x14_5.length co62) y244 := (by rw [hw, Ny244.out]; exact HP63.1); clear HP63; have n0_ := Aside0.mk (hp_); have n1_ := Aside0.mk ((by rw [hw]; exact below_set (HB.out) GB58.out : Below w.heap.size w w64)); clear HO_14; clear HB; have HO_14 := n0_; have HB := n1_; clear n0_ n1_; clear hg hw hp_; have p245 : 0 ≤ (x19_6 : Int) := of_decide_eq_true (by first | (with_reducible assumption) | assumption); have q245 : x19_6 < (y244.length : Int) := (by have h_ : (x19_6 : Int) < ((x14_5.length : Int) : Int) := of_decide_eq_true (by first | (with_reducible assumption) | assumption); first | (have e_ := (Kd.R_reads' HO_14.out).1; omega) | simpa only [Ny244.out, List.length_set] using h_); have ql245 : ((x19_6 : Int) < ((x14_5.length : Int) : Int)) = True := eq_true (of_decide_eq_true (by first | (with_reducible assumption) | assumption)); obtain ⟨ad245, e245, hx245_0⟩ := Kd.at_int (Kd.R_reads' HO_14.out).2.2 x19_6 p245 q245; obtain rfl : (⟨go58, 0, none⟩ : Addr) = ad245 := (by injection e245); (first | simp only [add_plain] at hx245_0 | simp only [add_at] at hx245_0 | simp only [Addr.add, Nat.zero_add] at hx245_0 | skip); replace p245 := eq_true p245; replace q245 := eq_true q245; have p246 : 0 ≤ (x19_6 : Int) := of_decide_eq_true (by first | (with_reducible assumption) | assumption); have q246 : x19_6 < (l0.length : Int) := of_decide_eq_true (by first | (with_reducible assumption) | assumption); obtain ⟨ad246, e246, hx246_0, hx246_1, hx246_2⟩ := at_T38 HR0.out x19_6 p246 q246; cases e246; replace hx246_0 := (HB.out.cell (World.block_lt_of_cell? w _ hx246_0)).trans hx246_0; replace hx246_1 := (HB.out.cell (World.block_lt_of_cell? w _ hx246_1)).trans hx246_1; replace hx246_2 := (HB.out.cell (World.block_lt_of_cell? w _ hx246_2)).trans hx246_2; replace p246 := eq_true p246; replace q246 := eq_true q246)); try go_wp2_with (first | ((with_reducible refine gate_store (t := 2) (p := 166) rfl ?_); (try (rw [drewN_self wr]; generalize hq_ : World.drewN wr _ = wr; have n0_ := Aside0.mk (Kd.R_at hq_ HO_14.out); have n1_ := Aside0.mk (below_at hq_ HB.out); clear hq_ HO_14 HB; have HO_14 := n0_; have HB := n1_; clear n0_ n1_; (try (have HP63 := Kd.R_putg HO_14.out (x19_6 : Int) (wrap64 ((rd x14_5 x19_6) - (ji57))))))); refine store_event (t := 2) (p := 166) (v := ?vo_w64) (w1 := (wr.setCell ⟨go58, (x19_6 : Int).toNat, none⟩ (.int .i64 (wrap64 ((rd x14_5 x19_6) - (ji57)))))) ?hg ?ho ?hn ?hr ?_; (case ho => rfl); (case hg => rfl); (case hn => rfl); (case hr => first | (go_simp; done) | (go_simp; rfl)); intro w64 hw; have hg : wr.grownBy w64 (some go58) := (by rw [hw]; exact HP63.2); have hp_ : Kd.R (Kd.int .i64) 2 w64 w.heap.size (fun _ => True) (.slice (some ⟨go58, 0, none⟩) x14_5.length co62) y244 := (by rw [hw, Ny244.out]; exact HP63.1); clear HP63; have n0_ := Aside0.mk (hp_); have n1_ := Aside0.mk ((by rw [hw]; exact below_set (HB.out) GB58.out : Below w.heap.size w w64)); clear HO_14; clear HB; have HO_14 := n0_; have HB := n1_; clear n0_ n1_; clear hg hw hp_; have p245 : 0 ≤ (x19_6 : Int) := of_decide_eq_true (by first | (with_reducible assumption) | assumption); have q245 : x19_6 < (y244.length : Int) := (by have h_ : (x19_6 : Int) < ((x14_5.length : Int) : Int) := of_decide_eq_true (by first | (with_reducible assumption) | assumption); first | (have e_ := (Kd.R_reads' HO_14.out).1; omega) | simpa only [Ny244.out, List.length_set] using h_); have ql245 : ((x19_6 : Int) < ((x14_5.length : Int) : Int)) = True := eq_true (of_decide_eq_true (by first | (with_reducible assumption) | assumption)); obtain ⟨ad245, e245, hx245_0⟩ := Kd.at_int (Kd.R_reads' HO_14.out).2.2 x19_6 p245 q245; obtain rfl : (⟨go58, 0, none⟩ : Addr) = ad245 := (by injection e245); (first | simp only [add_plain] at hx245_0 | simp only [add_at] at hx245_0 | simp only [Addr.add, Nat.zero_add] at hx245_0 | skip); replace p245 := eq_true p245; replace q245 := eq_true q245; have p246 : 0 ≤ (x19_6 : Int) := of_decide_eq_true (by first | (with_reducible assumption) | assumption); have q246 : x19_6 < (l0.length : Int) := of_decide_eq_true (by first | (with_reducible assumption) | assumption); obtain ⟨ad246, e246, hx246_0, hx246_1, hx246_2⟩ := at_T38 HR0.out x19_6 p246 q246; cases e246; replace hx246_0 := (HB.out.cell (World.block_lt_of_cell? w _ hx246_0)).trans hx246_0; replace hx246_1 := (HB.out.cell (World.block_lt_of_cell? w _ hx246_1)).trans hx246_1; replace hx246_2 := (HB.out.cell (World.block_lt_of_cell? w _ hx246_2)).trans hx246_2; replace p246 := eq_true p246; replace q246 := eq_true q246)))
                                                              go_ret
                                                              exact ⟨by first | rfl | (simp [errW_none, errW_some] <;> rfl) | (simp only [← hji57]; first | rfl | (simp [errW_none, errW_some] <;> rfl)) | (simp [*, errW_none, errW_some] <;> rfl), by repeat (first | (with_reducible first | exact HB.out | apply below_alloc | apply pw_below_drewN | apply below_drew1) | exact HB.out)⟩
                                                            · rw [if_neg c61] at H
                                                              have c61b0 : decide (((rd_T38 l0 x19_6).f1) < (wrap64 (x16_5 + (ji57)))) = false := decide_eq_false c61
                                                              clear c61
                                                              have H' := Aside0.mk H
                                                              clear H
                                                              have p241 : 0 ≤ (x18_5 : Int) := of_decide_eq_true (by first | (with_reducible assumption) | assumption)
                                                              have q241 : x18_5 < (l2.length : Int) := of_decide_eq_true (by first | (with_reducible assumption) | assumption)
                                                              obtain ⟨ad241, e241, hx241_0⟩ := Kd.at_int HR2.out x18_5 p241 q241
                                                              cases e241
                                                              replace hx241_0 := (HB.out.cell (World.block_lt_of_cell? w _ hx241_0)).trans hx241_0
                                                              replace p241 := eq_true p241
                                                              replace q241 := eq_true q241
                                                              obtain ⟨Ao65, co65, eo65⟩ := Kd.R_slice HO_14.out
                                                              subst eo65
                                                              have p242 : 0 ≤ (x19_6 : Int) := of_decide_eq_true (by first | (with_reducible assumption) | assumption)
                                                              have q242 : x19_6 < (x14_5.length : Int) := of_decide_eq_true (by first | (with_reducible assumption) | assumption)
                                                              obtain ⟨ad242, e242, hx242_0⟩ := Kd.at_int (Kd.R_reads' HO_14.out).2.2 x19_6 p242 q242
                                                              cases e242
                                                              replace p242 := eq_true p242
                                                              replace q242 := eq_true q242
                                                              have p243 : 0 ≤ (x19_6 : Int) := of_decide_eq_true (by first | (with_reducible assumption) | assumption)
                                                              have q243 : x19_6 < (x14_5.length : Int) := of_decide_eq_true (by first | (with_reducible assumption) | assumption)
                                                              obtain ⟨ad243, e243, hx243_0⟩ := Kd.at_int (Kd.R_reads' HO_14.out).2.2 x19_6 p243 q243
                                                              obtain rfl : ad242 = ad243 := (by injection e243)
                                                              replace p243 := eq_true p243
                                                              replace q243 := eq_true q243
                                                              have p58 : 0 ≤ (x19_6 : Int) := of_decide_eq_true (by first | (with_reducible assumption) | assumption)
                                                              have q58 : (x19_6 : Int) < ((x14_5.length : Int) : Int) := of_decide_eq_true (by first | (with_reducible assumption) | assumption)
                                                              obtain ⟨go58, co58, eo58, gb58, gl58, cl58, HG58⟩ := Kd.R_form HO_14.out (by omega)
                                                              (first | cases eo58 | (injection eo58 with ea_ en_ ec_; (first | subst ea_ | (injection ea_ with ea_; subst ea_)); subst ec_; clear en_))
                                                              have GB58 := Aside0.mk gb58
                                                              have GG58 := Aside0.mk HG58
                                                              clear gb58 gl58 HG58
                                                              (first | simp only [add_plain] at hx242_0 | skip)
                                                              (first | simp only [add_plain] at hx243_0 | skip)
                                                              obtain ⟨hx58_0, hf58_0⟩ := Kd.R_celln 0 HO_14.out (x19_6 : Int) p58 q58
                                                              replace p58 := eq_true p58
                                                              replace q58 := eq_true q58
                                                              have HP66 := Kd.R_putg HO_14.out (x19_6 : Int) (wrap64 ((rd x14_5 x19_6) - (ji57)))
                                                              go_wp2_with (first | ((with_reducible refine gate_store (t := 2) (p := 166) rfl ?_); (try (rw [drewN_self wr]; generalize hq_ : World.drewN wr _ = wr; have n0_ := Aside0.mk (Kd.R_at hq_ HO_14.out); have n1_ := Aside0.mk (below_at hq_ HB.out); clear hq_ HO_14 HB; have HO_14 := n0_; have HB := n1_; clear n0_ n1_; (try (have HP66 := Kd.R_putg HO_14.out (x19_6 : Int) (wrap64 ((rd x14_5 x19_6) - (ji57))))))); refine store_event (t := 2) (p := 166) (v := ?vo_w67) (w1 := (wr.setCell ⟨go58, (x19_6 : Int).toNat, none⟩ (.int .i64 (wrap64 ((rd x14_5 x19_6) - (ji57)))))) ?hg ?ho ?hn ?hr ?_; (case ho => rfl); (case hg => rfl); (case hn => rfl); (case hr => first | (go_simp; done) | (go_simp; rfl)); intro w67 hw; have hg : wr.grownBy w67 (some go58) := (by rw [hw]; exact HP66.2); have hp_ : Kd.R (Kd.int .i64) 2 w67 w.heap.size (fun _ => True) (.slice (some ⟨go58, 0, none⟩) x14_5.length co65) y244 := (by rw [hw, Ny244.out]; exact HP66.1); clear HP66; have n0_ := Aside0.mk (hp_); have n1_ := Aside0.mk ((by rw [hw]; exact below_set (HB.out) GB58.out : Below w.heap.size w w67)); clear HO_14; clear HB; have HO_14 := n0_; have HB := n1_; clear n0_ n1_; clear hg hw hp_; have p245 : 0 ≤ (x19_6 : Int) := of_decide_eq_true (by first | (with_reducible assumption) | assumption); have q245 : x19_6 < (y244.length : Int) := (by have h_ : (x19_6 : Int) < ((x14_5.length : Int) : Int) := of_decide_eq_true (by first | (with_reducible assumption) | assumption); first | (have e_ := (Kd.R_reads' HO_14.out).1; omega) | simpa only [Ny244.out, List.length_set] using h_); have ql245 : ((x19_6 : Int) < ((x14_5.length : Int) : Int)) = True := eq_true (of_decide_eq_true (by first | (with_reducible assumption) | assumption)); obtain ⟨ad245, e245, hx245_0⟩ := Kd.at_int (Kd.R_reads' HO_14.out).2.2 x19_6 p245 q245; obtain rfl : (⟨go58, 0, none⟩ : Addr) = ad245 := (by injection e245); (first | simp only [add_plain] at hx245_0 | simp only [add_at] at hx245_0 | simp only [Addr.add, Nat.zero_add] at hx245_0 | skip); replace p245 := eq_true p245; replace q245 := eq_true q245; have p246 : 0 ≤ (x19_6 : Int) := of_decide_eq_true (by first | (with_reducible assumption) | assumption); have q246 : x19_6 < (l0.length : Int) := of_decide_eq_true (by first | (with_reducible assumption) | assumption); obtain ⟨ad246, e246, hx246_0, hx246_1, hx246_2⟩ := at_T38 HR0.out x19_6 p246 q246; cases e246; replace hx246_0 := (HB.out.cell (World.block_lt_of_cell? w _ hx246_0)).trans hx246_0; replace hx246_1 := (HB.out.cell (World.block_lt_of_cell? w _ hx246_1)).trans hx246_1; replace hx246_2 := (HB.out.cell (World.block_lt_of_cell? w _ hx246_2)).trans hx246_2; replace p246 := eq_true p246; replace q246 := eq_true q246))
                                                              repeat (go_quiet (first | ((with_reducible refine gate_store (t := 2) (p := 166) rfl ?_); (try (rw [drewN_self wr]; generalize hq_ : World.drewN wr _ = wr; have n0_ := Aside0.mk (Kd.R_at hq_ HO_14.out); have n1_ := Aside0.mk (below_at hq_ HB.out); clear hq_ HO_14 HB; have HO_14 := n0_; have HB := n1_; clear n0_ n1_; (try (have HP66 := Kd.R_putg HO_14.out (x19_6 : Int) (wrap64 ((rd x14_5 x19_6) - (ji57))))))); refine store_event (t := 2) (p := 166) (v := ?vo_w67) (w1 := (wr.setCell ⟨go58, (x19_6 : Int).toNat, none⟩ (.int .i64 (wrap64 ((rd x14_5 x19_6) - (ji57)))))) ?hg ?ho ?hn ?hr ?_; (case ho => rfl); (case hg => rfl); (case hn => rfl); (case hr => first | (go_simp; done) | (go_simp; rfl)); intro w67 hw; have hg : wr.grownBy w67 (some go58) := (by rw [hw]; exact HP66.2); have hp_ : Kd.R (Kd.int .i64) 2 w67 w.heap.size (fun _ => True) (.slice (some ⟨go58, 0, none⟩) x14_5.length co65) y244 := (by rw [hw, Ny244.out]; exact HP66.1); clear HP66; have n0_ := Aside0.mk (hp_); have n1_ := Aside0.mk ((by rw [hw]; exact below_set (HB.out) GB58.out : Below w.heap.size w w67)); clear HO_14; clear HB; have HO_14 := n0_; have HB := n1_; clear n0_ n1_; clear hg hw hp_; have p245 : 0 ≤ (x19_6 : Int) := of_decide_eq_true (by first | (with_reducible assumption) | assumption); have q245 : x19_6 < (y244.length : Int) := (by have h_ : (x19_6 : Int) < ((x14_5.length : Int) : Int) := of_decide_eq_true (by first | (with_reducible assumption) | assumption); first | (have e_ := (Kd.R_reads' HO_14.out).1; omega) | simpa only [Ny244.out, List.length_set] using h_); have ql245 : ((x19_6 : Int) < ((x14_5.length : Int) : Int)) = True := eq_true (of_decide_eq_true (by first | (with_reducible assumption) | assumption)); obtain ⟨ad245, e245, hx245_0⟩ := Kd.at_int (Kd.R_reads' HO_14.out).2.2 x19_6 p245 q245; obtain rfl : (⟨go58, 0, none⟩ : Addr) = ad245 := (by injection e245); (first | simp only [add_plain] at hx245_0 | simp only [add_at] at hx245_0 | simp only [Addr.add, Nat.zero_add] at hx245_0 | skip); replace p245 := eq_true p245; replace q245 := eq_true q245; have p246 : 0 ≤ (x19_6 : Int) := of_decide_eq_true (by first | (with_reducible assumption) | assumption); have q246 : x19_6 < (l0.length : Int) := of_decide_eq_true (by first | (with_reducible assumption) | assumption); obtain ⟨ad246, e246, hx246_0, hx246_1, hx246_2⟩ := at_T38 HR0.out x19_6 p246 q246; cases e246; replace hx246_0 := (HB.out.cell (World.block_lt_of_cell? w _ hx246_0)).trans hx246_0; replace hx246_1 := (HB.out.cell (World.block_lt_of_cell? w _ hx246_1)).trans hx246_1; replace hx246_2 := (HB.out.cell (World.block_lt_of_cell? w _ hx246_2)).trans hx246_2; replace p246 := eq_true p246; replace q246 := eq_true q246)); try go_wp2_with (first | ((with_reducible refine gate_store (t := 2) (p := 166) rfl ?_); (try (rw [drewN_self wr]; generalize hq_ : World.drewN wr _ = wr; have n0_ := Aside0.mk (Kd.R_at hq_ HO_14.out); have n1_ := Aside0.mk (below_at hq_ HB.out); clear hq_ HO_14 HB; have HO_14 := n0_; have HB := n1_; clear n0_ n1_; (try (have HP66 := Kd.R_putg HO_14.out (x19_6 : Int) (wrap64 ((rd x14_5 x19_6) - (ji57))))))); refine store_event (t := 2) (p := 166) (v := ?vo_w67) (w1 := (wr.setCell ⟨go58, (x19_6 : Int).toNat, none⟩ (.int .i64 (wrap64 ((rd x14_5 x19_6) - (ji57)))))) ?hg ?ho ?hn ?hr ?_; (case ho => rfl); (case hg => rfl); (case hn => rfl); (case hr => first | (go_simp; done) | (go_simp; rfl)); intro w67 hw; have hg : wr.grownBy w67 (some go58) := (by rw [hw]; exact HP66.2); have hp_ : Kd.R (Kd.int .i64) 2 w67 w.heap.size (fun _ => True) (.slice (some ⟨go58, 0, none⟩) x14_5.length co65) y244 := (by rw [hw, Ny244.out]; exact HP66.1); clear HP66; have n0_ := Aside0.mk (hp_); have n1_ := Aside0.mk ((by rw [hw]; exact below_set (HB.out) GB58.out : Below w.heap.size w w67)); clear HO_14; clear HB; have HO_14 := n0_; have HB := n1_; clear n0_ n1_; clear hg hw hp_; have p245 : 0 ≤ (x19_6 : Int) := of_decide_eq_true (by first | (with_reducible assumption) | assumption); have q245 : x19_6 < (y244.length : Int) := (by have h_ : (x19_6 : Int) < ((x14_5.length : Int) : Int) := of_decide_eq_true (by first | (with_reducible assumption) | assumption); first | (have e_ := (Kd.R_reads' HO_14.out).1; omega) | simpa only [Ny244.out, List.length_set] using h_); have ql245 : ((x19_6 : Int) < ((x14_5.length : Int) : Int)) = True := eq_true (of_decide_eq_true (by first | (with_reducible assumption) | assumption)); obtain ⟨ad245, e245, hx245_0⟩ := Kd.at_int (Kd.R_reads' HO_14.out).2.2 x19_6 p245 q245; obtain rfl : (⟨go58, 0, none⟩ : Addr) = ad245 := (by injection e245); (first | simp only [add_plain] at hx245_0 | simp only [add_at] at hx245_0 | simp only [Addr.add, Nat.zero_add] at hx245_0 | skip); replace p245 := eq_true p245; replace q245 := eq_true q245; have p246 : 0 ≤ (x19_6 : Int) := of_decide_eq_true (by first | (with_reducible assumption) | assumption); have q246 : x19_6 < (l0.length : Int) := of_decide_eq_true (by first | (with_reducible assumption) | assumption); obtain ⟨ad246, e246, hx246_0, hx246_1, hx246_2⟩ := at_T38 HR0.out x19_6 p246 q246; cases e246; replace hx246_0 := (HB.out.cell (World.block_lt_of_cell? w _ hx246_0)).trans hx246_0; replace hx246_1 := (HB.out.cell (World.block_lt_of_cell? w _ hx246_1)).trans hx246_1; replace hx246_2 := (HB.out.cell (World.block_lt_of_cell? w _ hx246_2)).trans hx246_2; replace p246 := eq_true p246; replace q246 := eq_true q246)))
                                                              go_roundg k6
                                                              case measure => have := HJ3.out; have := HK2.out; have := HJ16.out; have := HK4.out; have := HK5.out; have := HK6.out; omega
                                                              case rel => exact ⟨(y244), (wrap64 (x16_5 + (ji57))), (wrap64 (x17_5 - (ji57))), (wrap64 (x18_5 + 1)), (by first | rfl | (simp; done) | (simp only [← hji57] <;> (first | rfl | simp)) | (simp [*]; done)), (by first | rfl | (simp; done) | (simp only [← hji57] <;> (first | rfl | simp)) | (simp [*]; done)), (by first | rfl | (simp; done) | (simp [*]; done)), H', ⟨by have := HJ3.out; have := HK2.out; have := HJ16.out; have := HK4.out; have := HK5.out; have := HK6.out; omega⟩, ⟨by (with_reducible repeat (first | apply Kd.R_alloc | apply Kd.R_drewN | apply Kd.R_drew)); exact HO_14.out⟩, ⟨by repeat (first | (with_reducible first | exact HB.out | apply below_alloc | apply pw_below_drewN | apply below_drew1) | exact HB.out)⟩⟩
                                                          · rw [if_neg c60] at H
                                                            exact absurd H (by simp)
                                                        · rw [if_neg c59] at H
                                                          have c59b0 : ((rd y244 x19_6) == 0) = false := beq_eq_false_iff_ne.mpr c59
                                                          have c59b1 : ((rd y244 x19_6) != 0) = true := bne_iff_ne.mpr c59
                                                          have H' := Aside0.mk H
                                                          clear H
                                                          have p241 : 0 ≤ (x18_5 : Int) := of_decide_eq_true (by first | (with_reducible assumption) | assumption)
                                                          have q241 : x18_5 < (l2.length : Int) := of_decide_eq_true (by first | (with_reducible assumption) | assumption)
                                                          obtain ⟨ad241, e241, hx241_0⟩ := Kd.at_int HR2.out x18_5 p241 q241
                                                          cases e241
                                                          replace hx241_0 := (HB.out.cell (World.block_lt_of_cell? w _ hx241_0)).trans hx241_0
                                                          replace p241 := eq_true p241
                                                          replace q241 := eq_true q241
                                                          obtain ⟨Ao68, co68, eo68⟩ := Kd.R_slice HO_14.out
                                                          subst eo68
                                                          have p242 : 0 ≤ (x19_6 : Int) := of_decide_eq_true (by first | (with_reducible assumption) | assumption)
                                                          have q242 : x19_6 < (x14_5.length : Int) := of_decide_eq_true (by first | (with_reducible assumption) | assumption)
                                                          obtain ⟨ad242, e242, hx242_0⟩ := Kd.at_int (Kd.R_reads' HO_14.out).2.2 x19_6 p242 q242
                                                          cases e242
                                                          replace p242 := eq_true p242
                                                          replace q242 := eq_true q242
                                                          have p243 : 0 ≤ (x19_6 : Int) := of_decide_eq_true (by first | (with_reducible assumption) | assumption)
                                                          have q243 : x19_6 < (x14_5.length : Int) := of_decide_eq_true (by first | (with_reducible assumption) | assumption)
                                                          obtain ⟨ad243, e243, hx243_0⟩ := Kd.at_int (Kd.R_reads' HO_14.out).2.2 x19_6 p243 q243
                                                          obtain rfl : ad242 = ad243 := (by injection e243)
                                                          replace p243 := eq_true p243
                                                          replace q243 := eq_true q243
                                                          have p58 : 0 ≤ (x19_6 : Int) := of_decide_eq_true (by first | (with_reducible assumption) | assumption)
                                                          have q58 : (x19_6 : Int) < ((x14_5.length : Int) : Int) := of_decide_eq_true (by first | (with_reducible assumption) | assumption)
                                                          obtain ⟨go58, co58, eo58, gb58, gl58, cl58, HG58⟩ := Kd.R_form HO_14.out (by omega)
                                                          (first | cases eo58 | (injection eo58 with ea_ en_ ec_; (first | subst ea_ | (injection ea_ with ea_; subst ea_)); subst ec_; clear en_))
                                                          have GB58 := Aside0.mk gb58
                                                          have GG58 := Aside0.mk HG58
                                                          clear gb58 gl58 HG58
                                                          (first | simp only [add_plain] at hx242_0 | skip)
                                                          (first | simp only [add_plain] at hx243_0 | skip)
                                                          obtain ⟨hx58_0, hf58_0⟩ := Kd.R_celln 0 HO_14.out (x19_6 : Int) p58 q58
                                                          replace p58 := eq_true p58
                                                          replace q58 := eq_true q58
                                                          have HP69 := Kd.R_putg HO_14.out (x19_6 : Int) (wrap64 ((rd x14_5 x19_6) - (ji57)))
                                                          go_wp2_with (first | ((with_reducible refine gate_store (t := 2) (p := 166) rfl ?_); (try (rw [drewN_self wr]; generalize hq_ : World.drewN wr _ = wr; have n0_ := Aside0.mk (Kd.R_at hq_ HO_14.out); have n1_ := Aside0.mk (below_at hq_ HB.out); clear hq_ HO_14 HB; have HO_14 := n0_; have HB := n1_; clear n0_ n1_; (try (have HP69 := Kd.R_putg HO_14.out (x19_6 : Int) (wrap64 ((rd x14_5 x19_6) - (ji57))))))); refine store_event (t := 2) (p := 166) (v := ?vo_w70) (w1 := (wr.setCell ⟨go58, (x19_6 : Int).toNat, none⟩ (.int .i64 (wrap64 ((rd x14_5 x19_6) - (ji57)))))) ?hg ?ho ?hn ?hr ?_; (case ho => rfl); (case hg => rfl); (case hn => rfl); (case hr => first | (go_simp; done) | (go_simp; rfl)); intro w70 hw; have hg : wr.grownBy w70 (some go58) := (by rw [hw]; exact HP69.2); have hp_ : Kd.R (Kd.int .i64) 2 w70 w.heap.size (fun _ => True) (.slice (some ⟨go58, 0, none⟩) x14_5.length co68) y244 := (by rw [hw, Ny244.out]; exact HP69.1); clear HP69; have n0_ := Aside0.mk (hp_); have n1_ := Aside0.mk ((by rw [hw]; exact below_set (HB.out) GB58.out : Below w.heap.size w w70)); clear HO_14; clear HB; have HO_14 := n0_; have HB := n1_; clear n0_ n1_; clear hg hw hp_; have p245 : 0 ≤ (x19_6 : Int) := of_decide_eq_true (by first | (with_reducible assumption) | assumption); have q245 : x19_6 < (y244.length : Int) := (by have h_ : (x19_6 : Int) < ((x14_5.length : Int) : Int) := of_decide_eq_true (by first | (with_reducible assumption) | assumption); first | (have e_ := (Kd.R_reads' HO_14.out).1; omega) | simpa only [Ny244.out, List.length_set] using h_); have ql245 : ((x19_6 : Int) < ((x14_5.length : Int) : Int)) = True := eq_true (of_decide_eq_true (by first | (with_reducible assumption) | assumption)); obtain ⟨ad245, e245, hx245_0⟩ := Kd.at_int (Kd.R_reads' HO_14.out).2.2 x19_6 p245 q245; obtain rfl : (⟨go58, 0, none⟩ : Addr) = ad245 := (by injection e245); (first | simp only [add_plain] at hx245_0 | simp only [add_at] at hx245_0 | simp only [Addr.add, Nat.zero_add] at hx245_0 | skip); replace p245 := eq_true p245; replace q245 := eq_true q245))
                                                          repeat (go_quiet (first | ((with_reducible refine gate_store (t := 2) (p := 166) rfl ?_); (try (rw [drewN_self wr]; generalize hq_ : World.drewN wr _ = wr; have n0_ := Aside0.mk (Kd.R_at hq_ HO_14.out); have n1_ := Aside0.mk (below_at hq_ HB.out); clear hq_ HO_14 HB; have HO_14 := n0_; have HB := n1_; clear n0_ n1_; (try (have HP69 := Kd.R_putg HO_14.out (x19_6 : Int) (wrap64 ((rd x14_5 x19_6) - (ji57))))))); refine store_event (t := 2) (p := 166) (v := ?vo_w70) (w1 := (wr.setCell ⟨go58, (x19_6 : Int).toNat, none⟩ (.int .i64 (wrap64 ((rd x14_5 x19_6) - (ji57)))))) ?hg ?ho ?hn ?hr ?_; (case ho => rfl); (case hg => rfl); (case hn => rfl); (case hr => first | (go_simp; done) | (go_simp; rfl)); intro w70 hw; have hg : wr.grownBy w70 (some go58) := (by rw [hw]; exact HP69.2); have hp_ : Kd.R (Kd.int .i64) 2 w70 w.heap.size (fun _ => True) (.slice (some ⟨go58, 0, none⟩) x14_5.length co68) y244 := (by rw [hw, Ny244.out]; exact HP69.1); clear HP69; have n0_ := Aside0.mk (hp_); have n1_ := Aside0.mk ((by rw [hw]; exact below_set (HB.out) GB58.out : Below w.heap.size w w70)); clear HO_14; clear HB; have HO_14 := n0_; have HB := n1_; clear n0_ n1_; clear hg hw hp_; have p245 : 0 ≤ (x19_6 : Int) := of_decide_eq_true (by first | (with_reducible assumption) | assumption); have q245 : x19_6 < (y244.length : Int) := (by have h_ : (x19_6 : Int) < ((x14_5.length : Int) : Int) := of_decide_eq_true (by first | (with_reducible assumption) | assumption); first | (have e_ := (Kd.R_reads' HO_14.out).1; omega) | simpa only [Ny244.out, List.length_set] using h_); have ql245 : ((x19_6 : Int) < ((x14_5.length : Int) : Int)) = True := eq_true (of_decide_eq_true (by first | (with_reducible assumption) | assumption)); obtain ⟨ad245, e245, hx245_0⟩ := Kd.at_int (Kd.R_reads' HO_14.out).2.2 x19_6 p245 q245; obtain rfl : (⟨go58, 0, none⟩ : Addr) = ad245 := (by injection e245); (first | simp only [add_plain] at hx245_0 | simp only [add_at] at hx245_0 | simp only [Addr.add, Nat.zero_add] at hx245_0 | skip); replace p245 := eq_true p245; replace q245 := eq_true q245)); try go_wp2_with (first | ((with_reducible refine gate_store (t := 2) (p := 166) rfl ?_); (try (rw [drewN_self wr]; generalize hq_ : World.drewN wr _ = wr; have n0_ := Aside0.mk (Kd.R_at hq_ HO_14.out); have n1_ := Aside0.mk (below_at hq_ HB.out); clear hq_ HO_14 HB; have HO_14 := n0_; have HB := n1_; clear n0_ n1_; (try (have HP69 := Kd.R_putg HO_14.out (x19_6 : Int) (wrap64 ((rd x14_5 x19_6) - (ji57))))))); refine store_event (t := 2) (p := 166) (v := ?vo_w70) (w1 := (wr.setCell ⟨go58, (x19_6 : Int).toNat, none⟩ (.int .i64 (wrap64 ((rd x14_5 x19_6) - (ji57)))))) ?hg ?ho ?hn ?hr ?_; (case ho => rfl); (case hg => rfl); (case hn => rfl); (case hr => first | (go_simp; done) | (go_simp; rfl)); intro w70 hw; have hg : wr.grownBy w70 (some go58) := (by rw [hw]; exact HP69.2); have hp_ : Kd.R (Kd.int .i64) 2 w70 w.heap.size (fun _ => True) (.slice (some ⟨go58, 0, none⟩) x14_5.length co68) y244 := (by rw [hw, Ny244.out]; exact HP69.1); clear HP69; have n0_ := Aside0.mk (hp_); have n1_ := Aside0.mk ((by rw [hw]; exact below_set (HB.out) GB58.out : Below w.heap.size w w70)); clear HO_14; clear HB; have HO_14 := n0_; have HB := n1_; clear n0_ n1_; clear hg hw hp_; have p245 : 0 ≤ (x19_6 : Int) := of_decide_eq_true (by first | (with_reducible assumption) | assumption); have q245 : x19_6 < (y244.length : Int) := (by have h_ : (x19_6 : Int) < ((x14_5.length : Int) : Int) := of_decide_eq_true (by first | (with_reducible assumption) | assumption); first | (have e_ := (Kd.R_reads' HO_14.out).1; omega) | simpa only [Ny244.out, List.length_set] using h_); have ql245 : ((x19_6 : Int) < ((x14_5.length : Int) : Int)) = True := eq_true (of_decide_eq_true (by first | (with_reducible assumption) | assumption)); obtain ⟨ad245, e245, hx245_0⟩ := Kd.at_int (Kd.R_reads' HO_14.out).2.2 x19_6 p245 q245; obtain rfl : (⟨go58, 0, none⟩ : Addr) = ad245 := (by injection e245); (first | simp only [add_plain] at hx245_0 | simp only [add_at] at hx245_0 | simp only [Addr.add, Nat.zero_add] at hx245_0 | skip); replace p245 := eq_true p245; replace q245 := eq_true q245)))
                                                          go_roundg k6
                                                          case measure => have := HJ3.out; have := HK2.out; have := HJ16.out; have := HK4.out; have := HK5.out; have := HK6.out; omega
                                                          case rel => exact ⟨(y244), (wrap64 (x16_5 + (ji57))), (wrap64 (x17_5 - (ji57))), (wrap64 (x18_5 + 1)), (by first | rfl | (simp; done) | (simp only [← hji57] <;> (first | rfl | simp)) | (simp [*]; done)), (by first | rfl | (simp; done) | (simp only [← hji57] <;> (first | rfl | simp)) | (simp [*]; done)), (by first | rfl | (simp; done) | (simp [*]; done)), H', ⟨by have := HJ3.out; have := HK2.out; have := HJ16.out; have := HK4.out; have := HK5.out; have := HK6.out; omega⟩, ⟨by (with_reducible repeat (first | apply Kd.R_alloc | apply Kd.R_drewN | apply Kd.R_drew)); exact HO_14.out⟩, ⟨by repeat (first | (with_reducible first | exact HB.out | apply below_alloc | apply pw_below_drewN | apply below_drew1) | exact HB.out)⟩⟩
                                                      · rw [if_neg c56] at H
                                                        exact absurd H (by simp)
                                                    · rw [if_neg c55] at H
                                                      exact absurd H (by simp)
                                                · rw [if_neg c53] at H
                                                  exact absurd H (by simp)
                                              · rw [if_neg c52] at H
                                                have c52b0 : decide (x18_5 < (l2.length : Int)) = false := decide_eq_false c52
                                                clear c52
                                                by_cases c71 : 0 ≤ x19_6
                                                · rw [if_pos c71] at H
                                                  have c71b0 : decide (0 ≤ x19_6) = true := decide_eq_true c71
                                                  clear c71
                                                  by_cases c72 : x19_6 < (x14_5.length : Int)
                                                  · rw [if_pos c72] at H
                                                    have c72b0 : decide (x19_6 < (x14_5.length : Int)) = true := decide_eq_true c72
                                                    clear c72
                                                    obtain ⟨ji73, hji73⟩ : ∃ j_ : Int, (mn 1 (rd x14_5 x19_6)) = j_ := ⟨_, rfl⟩
                                                    replace H : ((some (x14_5.set (x19_6 : Int).toNat (wrap64 ((rd x14_5 x19_6) - (ji73))) : List Int)).bind fun y249 => (if (rd y249 x19_6) = 0 then (if x19_6 < (l0.length : Int) then (if (wrap64 (x16_5 + (ji73))) > ((rd_T38 l0 x19_6).f1) then (some false) else (carillonlaw23_DemandBlock.l2 k6 l0 l2 (wrap64 (Int.tmod a1 9)) y249 (wrap64 (x16_5 + (ji73))) (wrap64 (x17_5 - (ji73))) (wrap64 (x18_5 + 1)))) else (none)) else (carillonlaw23_DemandBlock.l2 k6 l0 l2 (wrap64 (Int.tmod a1 9)) y249 (wrap64 (x16_5 + (ji73))) (wrap64 (x17_5 - (ji73))) (wrap64 (x18_5 + 1))))) = some r := by first | (rw [hji73] at H; exact H) | (simp only [hji73] at H ⊢; exact H)
                                                    have hji73_ : (if (rd x14_5 x19_6) < 1 then (rd x14_5 x19_6) else 1) = ji73 := hji73
                                                    obtain ⟨y249, hy249⟩ : ∃ y_ : List Int, y_ = (x14_5.set (x19_6 : Int).toNat (wrap64 ((rd x14_5 x19_6) - (ji73)))) := ⟨_, rfl⟩
                                                    replace H : (if (rd y249 x19_6) = 0 then (if x19_6 < (l0.length : Int) then (if (wrap64 (x16_5 + (ji73))) > ((rd_T38 l0 x19_6).f1) then (some false) else (carillonlaw23_DemandBlock.l2 k6 l0 l2 (wrap64 (Int.tmod a1 9)) y249 (wrap64 (x16_5 + (ji73))) (wrap64 (x17_5 - (ji73))) (wrap64 (x18_5 + 1)))) else (none)) else (carillonlaw23_DemandBlock.l2 k6 l0 l2 (wrap64 (Int.tmod a1 9)) y249 (wrap64 (x16_5 + (ji73))) (wrap64 (x17_5 - (ji73))) (wrap64 (x18_5 + 1)))) = some r := by first | (rw [hy249]; with_reducible exact H) | (have H2_ := (Option.bind_some _ _).symm.trans H; rw [hy249]; with_reducible exact H2_) | (have H2_ := (Option.bind_some _ _).symm.trans H; with_reducible exact H2_) | with_reducible exact H | (rw [hy249]; exact H) | exact H
                                                    have Ny249 := Aside0.mk hy249
                                                    clear hy249
                                                    by_cases c75 : (rd y249 x19_6) = 0
                                                    · rw [if_pos c75] at H
                                                      have c75b0 : ((rd y249 x19_6) == 0) = true := beq_iff_eq.mpr c75
                                                      have c75b1 : ((rd y249 x19_6) != 0) = false := bne_eq_false_iff_eq.mpr c75
                                                      clear c75
                                                      by_cases c76 : x19_6 < (l0.length : Int)
                                                      · rw [if_pos c76] at H
                                                        have c76b0 : decide (x19_6 < (l0.length : Int)) = true := decide_eq_true c76
                                                        clear c76
                                                        by_cases c77 : (wrap64 (x16_5 + (ji73))) > ((rd_T38 l0 x19_6).f1)
                                                        · rw [if_pos c77] at H
                                                          have c77b0 : decide (((rd_T38 l0 x19_6).f1) < (wrap64 (x16_5 + (ji73)))) = true := decide_eq_true c77
                                                          clear c77
                                                          obtain rfl := Option.some.inj H
                                                          obtain ⟨Ao78, co78, eo78⟩ := Kd.R_slice HO_14.out
                                                          subst eo78
                                                          have p247 : 0 ≤ (x19_6 : Int) := of_decide_eq_true (by first | (with_reducible assumption) | assumption)
                                                          have q247 : x19_6 < (x14_5.length : Int) := of_decide_eq_true (by first | (with_reducible assumption) | assumption)
                                                          obtain ⟨ad247, e247, hx247_0⟩ := Kd.at_int (Kd.R_reads' HO_14.out).2.2 x19_6 p247 q247
                                                          cases e247
                                                          replace p247 := eq_true p247
                                                          replace q247 := eq_true q247
                                                          have p248 : 0 ≤ (x19_6 : Int) := of_decide_eq_true (by first | (with_reducible assumption) | assumption)
                                                          have q248 : x19_6 < (x14_5.length : Int) := of_decide_eq_true (by first | (with_reducible assumption) | assumption)
                                                          obtain ⟨ad248, e248, hx248_0⟩ := Kd.at_int (Kd.R_reads' HO_14.out).2.2 x19_6 p248 q248
                                                          obtain rfl : ad247 = ad248 := (by injection e248)
                                                          replace p248 := eq_true p248
                                                          replace q248 := eq_true q248
                                                          have p74 : 0 ≤ (x19_6 : Int) := of_decide_eq_true (by first | (with_reducible assumption) | assumption)
                                                          have q74 : (x19_6 : Int) < ((x14_5.length : Int) : Int) := of_decide_eq_true (by first | (with_reducible assumption) | assumption)
                                                          obtain ⟨go74, co74, eo74, gb74, gl74, cl74, HG74⟩ := Kd.R_form HO_14.out (by omega)
                                                          (first | cases eo74 | (injection eo74 with ea_ en_ ec_; (first | subst ea_ | (injection ea_ with ea_; subst ea_)); subst ec_; clear en_))
                                                          have GB74 := Aside0.mk gb74
                                                          have GG74 := Aside0.mk HG74
                                                          clear gb74 gl74 HG74
                                                          (first | simp only [add_plain] at hx247_0 | skip)
                                                          (first | simp only [add_plain] at hx248_0 | skip)
                                                          obtain ⟨hx74_0, hf74_0⟩ := Kd.R_celln 0 HO_14.out (x19_6 : Int) p74 q74
                                                          replace p74 := eq_true p74
                                                          replace q74 := eq_true q74
                                                          have HP79 := Kd.R_putg HO_14.out (x19_6 : Int) (wrap64 ((rd x14_5 x19_6) - (ji73)))
                                                          go_wp2_with (first | ((with_reducible refine gate_store (t := 2) (p := 166) rfl ?_); (try (rw [drewN_self wr]; generalize hq_ : World.drewN wr _ = wr; have n0_ := Aside0.mk (Kd.R_at hq_ HO_14.out); have n1_ := Aside0.mk (below_at hq_ HB.out); clear hq_ HO_14 HB; have HO_14 := n0_; have HB := n1_; clear n0_ n1_; (try (have HP79 := Kd.R_putg HO_14.out (x19_6 : Int) (wrap64 ((rd x14_5 x19_6) - (ji73))))))); refine store_event (t := 2) (p := 166) (v := ?vo_w80) (w1 := (wr.setCell ⟨go74, (x19_6 : Int).toNat, none⟩ (.int .i64 (wrap64 ((rd x14_5 x19_6) - (ji73)))))) ?hg ?ho ?hn ?hr ?_; (case ho => rfl); (case hg => rfl); (case hn => rfl); (case hr => first | (go_simp; done) | (go_simp; rfl)); intro w80 hw; have hg : wr.grownBy w80 (some go74) := (by rw [hw]; exact HP79.2); have hp_ : Kd.R (Kd.int .i64) 2 w80 w.heap.size (fun _ => True) (.slice (some ⟨go74, 0, none⟩) x14_5.length co78) y249 := (by rw [hw, Ny249.out]; exact HP79.1); clear HP79; have n0_ := Aside0.mk (hp_); have n1_ := Aside0.mk ((by rw [hw]; exact below_set (HB.out) GB74.out : Below w.heap.size w w80)); clear HO_14; clear HB; have HO_14 := n0_; have HB := n1_; clear n0_ n1_; clear hg hw hp_; have p250 : 0 ≤ (x19_6 : Int) := of_decide_eq_true (by first | (with_reducible assumption) | assumption); have q250 : x19_6 < (y249.length : Int) := (by have h_ : (x19_6 : Int) < ((x14_5.length : Int) : Int) := of_decide_eq_true (by first | (with_reducible assumption) | assumption); first | (have e_ := (Kd.R_reads' HO_14.out).1; omega) | simpa only [Ny249.out, List.length_set] using h_); have ql250 : ((x19_6 : Int) < ((x14_5.length : Int) : Int)) = True := eq_true (of_decide_eq_true (by first | (with_reducible assumption) | assumption)); obtain ⟨ad250, e250, hx250_0⟩ := Kd.at_int (Kd.R_reads' HO_14.out).2.2 x19_6 p250 q250; obtain rfl : (⟨go74, 0, none⟩ : Addr) = ad250 := (by injection e250); (first | simp only [add_plain] at hx250_0 | simp only [add_at] at hx250_0 | simp only [Addr.add, Nat.zero_add] at hx250_0 | skip); replace p250 := eq_true p250; replace q250 := eq_true q250; have p251 : 0 ≤ (x19_6 : Int) := of_decide_eq_true (by first | (with_reducible assumption) | assumption); have q251 : x19_6 < (l0.length : Int) := of_decide_eq_true (by first | (with_reducible assumption) | assumption); obtain ⟨ad251, e251, hx251_0, hx251_1, hx251_2⟩ := at_T38 HR0.out x19_6 p251 q251; cases e251; replace hx251_0 := (HB.out.cell (World.block_lt_of_cell? w _ hx251_0)).trans hx251_0; replace hx251_1 := (HB.out.cell (World.block_lt_of_cell? w _ hx251_1)).trans hx251_1; replace hx251_2 := (HB.out.cell (World.block_lt_of_cell? w _ hx251_2)).trans hx251_2; replace p251 := eq_true p251; replace q251 := eq_true q251))
                                                          repeat (go_quiet (first | ((with_reducible refine gate_store (t := 2) (p := 166) rfl ?_); (try (rw [drewN_self wr]; generalize hq_ : World.drewN wr _ = wr; have n0_ := Aside0.mk (Kd.R_at hq_ HO_14.out); have n1_ := Aside0.mk (below_at hq_ HB.out); clear hq_ HO_14 HB; have HO_14 := n0_; have HB := n1_; clear n0_ n1_; (try (have HP79 := Kd.R_putg HO_14.out (x19_6 : Int) (wrap64 ((rd x14_5 x19_6) - (ji73))))))); refine store_event (t := 2) (p := 166) (v := ?vo_w80) (w1 := (wr.setCell ⟨go74, (x19_6 : Int).toNat, none⟩ (.int .i64 (wrap64 ((rd x14_5 x19_6) - (ji73)))))) ?hg ?ho ?hn ?hr ?_; (case ho => rfl); (case hg => rfl); (case hn => rfl); (case hr => first | (go_simp; done) | (go_simp; rfl)); intro w80 hw; have hg : wr.grownBy w80 (some go74) := (by rw [hw]; exact HP79.2); have hp_ : Kd.R (Kd.int .i64) 2 w80 w.heap.size (fun _ => True) (.slice (some ⟨go74, 0, none⟩) x14_5.length co78) y249 := (by rw [hw, Ny249.out]; exact HP79.1); clear HP79; have n0_ := Aside0.mk (hp_); have n1_ := Aside0.mk ((by rw [hw]; exact below_set (HB.out) GB74.out : Below w.heap.size w w80)); clear HO_14; clear HB; have HO_14 := n0_; have HB := n1_; clear n0_ n1_; clear hg hw hp_; have p250 : 0 ≤ (x19_6 : Int) := of_decide_eq_true (by first | (with_reducible assumption) | assumption); have q250 : x19_6 < (y249.length : Int) := (by have h_ : (x19_6 : Int) < ((x14_5.length : Int) : Int) := of_decide_eq_true (by first | (with_reducible assumption) | assumption); first | (have e_ := (Kd.R_reads' HO_14.out).1; omega) | simpa only [Ny249.out, List.length_set] using h_); have ql250 : ((x19_6 : Int) < ((x14_5.length : Int) : Int)) = True := eq_true (of_decide_eq_true (by first | (with_reducible assumption) | assumption)); obtain ⟨ad250, e250, hx250_0⟩ := Kd.at_int (Kd.R_reads' HO_14.out).2.2 x19_6 p250 q250; obtain rfl : (⟨go74, 0, none⟩ : Addr) = ad250 := (by injection e250); (first | simp only [add_plain] at hx250_0 | simp only [add_at] at hx250_0 | simp only [Addr.add, Nat.zero_add] at hx250_0 | skip); replace p250 := eq_true p250; replace q250 := eq_true q250; have p251 : 0 ≤ (x19_6 : Int) := of_decide_eq_true (by first | (with_reducible assumption) | assumption); have q251 : x19_6 < (l0.length : Int) := of_decide_eq_true (by first | (with_reducible assumption) | assumption); obtain ⟨ad251, e251, hx251_0, hx251_1, hx251_2⟩ := at_T38 HR0.out x19_6 p251 q251; cases e251; replace hx251_0 := (HB.out.cell (World.block_lt_of_cell? w _ hx251_0)).trans hx251_0; replace hx251_1 := (HB.out.cell (World.block_lt_of_cell? w _ hx251_1)).trans hx251_1; replace hx251_2 := (HB.out.cell (World.block_lt_of_cell? w _ hx251_2)).trans hx251_2; replace p251 := eq_true p251; replace q251 := eq_true q251)); try go_wp2_with (first | ((with_reducible refine gate_store (t := 2) (p := 166) rfl ?_); (try (rw [drewN_self wr]; generalize hq_ : World.drewN wr _ = wr; have n0_ := Aside0.mk (Kd.R_at hq_ HO_14.out); have n1_ := Aside0.mk (below_at hq_ HB.out); clear hq_ HO_14 HB; have HO_14 := n0_; have HB := n1_; clear n0_ n1_; (try (have HP79 := Kd.R_putg HO_14.out (x19_6 : Int) (wrap64 ((rd x14_5 x19_6) - (ji73))))))); refine store_event (t := 2) (p := 166) (v := ?vo_w80) (w1 := (wr.setCell ⟨go74, (x19_6 : Int).toNat, none⟩ (.int .i64 (wrap64 ((rd x14_5 x19_6) - (ji73)))))) ?hg ?ho ?hn ?hr ?_; (case ho => rfl); (case hg => rfl); (case hn => rfl); (case hr => first | (go_simp; done) | (go_simp; rfl)); intro w80 hw; have hg : wr.grownBy w80 (some go74) := (by rw [hw]; exact HP79.2); have hp_ : Kd.R (Kd.int .i64) 2 w80 w.heap.size (fun _ => True) (.slice (some ⟨go74, 0, none⟩) x14_5.length co78) y249 := (by rw [hw, Ny249.out]; exact HP79.1); clear HP79; have n0_ := Aside0.mk (hp_); have n1_ := Aside0.mk ((by rw [hw]; exact below_set (HB.out) GB74.out : Below w.heap.size w w80)); clear HO_14; clear HB; have HO_14 := n0_; have HB := n1_; clear n0_ n1_; clear hg hw hp_; have p250 : 0 ≤ (x19_6 : Int) := of_decide_eq_true (by first | (with_reducible assumption) | assumption); have q250 : x19_6 < (y249.length : Int) := (by have h_ : (x19_6 : Int) < ((x14_5.length : Int) : Int) := of_decide_eq_true (by first | (with_reducible assumption) | assumption); first | (have e_ := (Kd.R_reads' HO_14.out).1; omega) | simpa only [Ny249.out, List.length_set] using h_); have ql250 : ((x19_6 : Int) < ((x14_5.length : Int) : Int)) = True := eq_true (of_decide_eq_true (by first | (with_reducible assumption) | assumption)); obtain ⟨ad250, e250, hx250_0⟩ := Kd.at_int (Kd.R_reads' HO_14.out).2.2 x19_6 p250 q250; obtain rfl : (⟨go74, 0, none⟩ : Addr) = ad250 := (by injection e250); (first | simp only [add_plain] at hx250_0 | simp only [add_at] at hx250_0 | simp only [Addr.add, Nat.zero_add] at hx250_0 | skip); replace p250 := eq_true p250; replace q250 := eq_true q250; have p251 : 0 ≤ (x19_6 : Int) := of_decide_eq_true (by first | (with_reducible assumption) | assumption); have q251 : x19_6 < (l0.length : Int) := of_decide_eq_true (by first | (with_reducible assumption) | assumption); obtain ⟨ad251, e251, hx251_0, hx251_1, hx251_2⟩ := at_T38 HR0.out x19_6 p251 q251; cases e251; replace hx251_0 := (HB.out.cell (World.block_lt_of_cell? w _ hx251_0)).trans hx251_0; replace hx251_1 := (HB.out.cell (World.block_lt_of_cell? w _ hx251_1)).trans hx251_1; replace hx251_2 := (HB.out.cell (World.block_lt_of_cell? w _ hx251_2)).trans hx251_2; replace p251 := eq_true p251; replace q251 := eq_true q251)))
                                                          go_ret
                                                          exact ⟨by first | rfl | (simp [errW_none, errW_some] <;> rfl) | (simp only [← hji73]; first | rfl | (simp [errW_none, errW_some] <;> rfl)) | (simp [*, errW_none, errW_some] <;> rfl), by repeat (first | (with_reducible first | exact HB.out | apply below_alloc | apply pw_below_drewN | apply below_drew1) | exact HB.out)⟩
                                                        · rw [if_neg c77] at H
                                                          have c77b0 : decide (((rd_T38 l0 x19_6).f1) < (wrap64 (x16_5 + (ji73)))) = false := decide_eq_false c77
                                                          clear c77
                                                          have H' := Aside0.mk H
                                                          clear H
                                                          obtain ⟨Ao81, co81, eo81⟩ := Kd.R_slice HO_14.out
                                                          subst eo81
                                                          have p247 : 0 ≤ (x19_6 : Int) := of_decide_eq_true (by first | (with_reducible assumption) | assumption)
                                                          have q247 : x19_6 < (x14_5.length : Int) := of_decide_eq_true (by first | (with_reducible assumption) | assumption)
                                                          obtain ⟨ad247, e247, hx247_0⟩ := Kd.at_int (Kd.R_reads' HO_14.out).2.2 x19_6 p247 q247
                                                          cases e247
                                                          replace p247 := eq_true p247
                                                          replace q247 := eq_true q247
                                                          have p248 : 0 ≤ (x19_6 : Int) := of_decide_eq_true (by first | (with_reducible assumption) | assumption)
                                                          have q248 : x19_6 < (x14_5.length : Int) := of_decide_eq_true (by first | (with_reducible assumption) | assumption)
                                                          obtain ⟨ad248, e248, hx248_0⟩ := Kd.at_int (Kd.R_reads' HO_14.out).2.2 x19_6 p248 q248
                                                          obtain rfl : ad247 = ad248 := (by injection e248)
                                                          replace p248 := eq_true p248
                                                          replace q248 := eq_true q248
                                                          have p74 : 0 ≤ (x19_6 : Int) := of_decide_eq_true (by first | (with_reducible assumption) | assumption)
                                                          have q74 : (x19_6 : Int) < ((x14_5.length : Int) : Int) := of_decide_eq_true (by first | (with_reducible assumption) | assumption)
                                                          obtain ⟨go74, co74, eo74, gb74, gl74, cl74, HG74⟩ := Kd.R_form HO_14.out (by omega)
                                                          (first | cases eo74 | (injection eo74 with ea_ en_ ec_; (first | subst ea_ | (injection ea_ with ea_; subst ea_)); subst ec_; clear en_))
                                                          have GB74 := Aside0.mk gb74
                                                          have GG74 := Aside0.mk HG74
                                                          clear gb74 gl74 HG74
                                                          (first | simp only [add_plain] at hx247_0 | skip)
                                                          (first | simp only [add_plain] at hx248_0 | skip)
                                                          obtain ⟨hx74_0, hf74_0⟩ := Kd.R_celln 0 HO_14.out (x19_6 : Int) p74 q74
                                                          replace p74 := eq_true p74
                                                          replace q74 := eq_true q74
                                                          have HP82 := Kd.R_putg HO_14.out (x19_6 : Int) (wrap64 ((rd x14_5 x19_6) - (ji73)))
                                                          go_wp2_with (first | ((with_reducible refine gate_store (t := 2) (p := 166) rfl ?_); (try (rw [drewN_self wr]; generalize hq_ : World.drewN wr _ = wr; have n0_ := Aside0.mk (Kd.R_at hq_ HO_14.out); have n1_ := Aside0.mk (below_at hq_ HB.out); clear hq_ HO_14 HB; have HO_14 := n0_; have HB := n1_; clear n0_ n1_; (try (have HP82 := Kd.R_putg HO_14.out (x19_6 : Int) (wrap64 ((rd x14_5 x19_6) - (ji73))))))); refine store_event (t := 2) (p := 166) (v := ?vo_w83) (w1 := (wr.setCell ⟨go74, (x19_6 : Int).toNat, none⟩ (.int .i64 (wrap64 ((rd x14_5 x19_6) - (ji73)))))) ?hg ?ho ?hn ?hr ?_; (case ho => rfl); (case hg => rfl); (case hn => rfl); (case hr => first | (go_simp; done) | (go_simp; rfl)); intro w83 hw; have hg : wr.grownBy w83 (some go74) := (by rw [hw]; exact HP82.2); have hp_ : Kd.R (Kd.int .i64) 2 w83 w.heap.size (fun _ => True) (.slice (some ⟨go74, 0, none⟩) x14_5.length co81) y249 := (by rw [hw, Ny249.out]; exact HP82.1); clear HP82; have n0_ := Aside0.mk (hp_); have n1_ := Aside0.mk ((by rw [hw]; exact below_set (HB.out) GB74.out : Below w.heap.size w w83)); clear HO_14; clear HB; have HO_14 := n0_; have HB := n1_; clear n0_ n1_; clear hg hw hp_; have p250 : 0 ≤ (x19_6 : Int) := of_decide_eq_true (by first | (with_reducible assumption) | assumption); have q250 : x19_6 < (y249.length : Int) := (by have h_ : (x19_6 : Int) < ((x14_5.length : Int) : Int) := of_decide_eq_true (by first | (with_reducible assumption) | assumption); first | (have e_ := (Kd.R_reads' HO_14.out).1; omega) | simpa only [Ny249.out, List.length_set] using h_); have ql250 : ((x19_6 : Int) < ((x14_5.length : Int) : Int)) = True := eq_true (of_decide_eq_true (by first | (with_reducible assumption) | assumption)); obtain ⟨ad250, e250, hx250_0⟩ := Kd.at_int (Kd.R_reads' HO_14.out).2.2 x19_6 p250 q250; obtain rfl : (⟨go74, 0, none⟩ : Addr) = ad250 := (by injection e250); (first | simp only [add_plain] at hx250_0 | simp only [add_at] at hx250_0 | simp only [Addr.add, Nat.zero_add] at hx250_0 | skip); replace p250 := eq_true p250; replace q250 := eq_true q250; have p251 : 0 ≤ (x19_6 : Int) := of_decide_eq_true (by first | (with_reducible assumption) | assumption); have q251 : x19_6 < (l0.length : Int) := of_decide_eq_true (by first | (with_reducible assumption) | assumption); obtain ⟨ad251, e251, hx251_0, hx251_1, hx251_2⟩ := at_T38 HR0.out x19_6 p251 q251; cases e251; replace hx251_0 := (HB.out.cell (World.block_lt_of_cell? w _ hx251_0)).trans hx251_0; replace hx251_1 := (HB.out.cell (World.block_lt_of_cell? w _ hx251_1)).trans hx251_1; replace hx251_2 := (HB.out.cell (World.block_lt_of_cell? w _ hx251_2)).trans hx251_2; replace p251 := eq_true p251; replace q251 := eq_true q251))
                                                          repeat (go_quiet (first | ((with_reducible refine gate_store (t := 2) (p := 166) rfl ?_); (try (rw [drewN_self wr]; generalize hq_ : World.drewN wr _ = wr; have n0_ := Aside0.mk (Kd.R_at hq_ HO_14.out); have n1_ := Aside0.mk (below_at hq_ HB.out); clear hq_ HO_14 HB; have HO_14 := n0_; have HB := n1_; clear n0_ n1_; (try (have HP82 := Kd.R_putg HO_14.out (x19_6 : Int) (wrap64 ((rd x14_5 x19_6) - (ji73))))))); refine store_event (t := 2) (p := 166) (v := ?vo_w83) (w1 := (wr.setCell ⟨go74, (x19_6 : Int).toNat, none⟩ (.int .i64 (wrap64 ((rd x14_5 x19_6) - (ji73)))))) ?hg ?ho ?hn ?hr ?_; (case ho => rfl); (case hg => rfl); (case hn => rfl); (case hr => first | (go_simp; done) | (go_simp; rfl)); intro w83 hw; have hg : wr.grownBy w83 (some go74) := (by rw [hw]; exact HP82.2); have hp_ : Kd.R (Kd.int .i64) 2 w83 w.heap.size (fun _ => True) (.slice (some ⟨go74, 0, none⟩) x14_5.length co81) y249 := (by rw [hw, Ny249.out]; exact HP82.1); clear HP82; have n0_ := Aside0.mk (hp_); have n1_ := Aside0.mk ((by rw [hw]; exact below_set (HB.out) GB74.out : Below w.heap.size w w83)); clear HO_14; clear HB; have HO_14 := n0_; have HB := n1_; clear n0_ n1_; clear hg hw hp_; have p250 : 0 ≤ (x19_6 : Int) := of_decide_eq_true (by first | (with_reducible assumption) | assumption); have q250 : x19_6 < (y249.length : Int) := (by have h_ : (x19_6 : Int) < ((x14_5.length : Int) : Int) := of_decide_eq_true (by first | (with_reducible assumption) | assumption); first | (have e_ := (Kd.R_reads' HO_14.out).1; omega) | simpa only [Ny249.out, List.length_set] using h_); have ql250 : ((x19_6 : Int) < ((x14_5.length : Int) : Int)) = True := eq_true (of_decide_eq_true (by first | (with_reducible assumption) | assumption)); obtain ⟨ad250, e250, hx250_0⟩ := Kd.at_int (Kd.R_reads' HO_14.out).2.2 x19_6 p250 q250; obtain rfl : (⟨go74, 0, none⟩ : Addr) = ad250 := (by injection e250); (first | simp only [add_plain] at hx250_0 | simp only [add_at] at hx250_0 | simp only [Addr.add, Nat.zero_add] at hx250_0 | skip); replace p250 := eq_true p250; replace q250 := eq_true q250; have p251 : 0 ≤ (x19_6 : Int) := of_decide_eq_true (by first | (with_reducible assumption) | assumption); have q251 : x19_6 < (l0.length : Int) := of_decide_eq_true (by first | (with_reducible assumption) | assumption); obtain ⟨ad251, e251, hx251_0, hx251_1, hx251_2⟩ := at_T38 HR0.out x19_6 p251 q251; cases e251; replace hx251_0 := (HB.out.cell (World.block_lt_of_cell? w _ hx251_0)).trans hx251_0; replace hx251_1 := (HB.out.cell (World.block_lt_of_cell? w _ hx251_1)).trans hx251_1; replace hx251_2 := (HB.out.cell (World.block_lt_of_cell? w _ hx251_2)).trans hx251_2; replace p251 := eq_true p251; replace q251 := eq_true q251)); try go_wp2_with (first | ((with_reducible refine gate_store (t := 2) (p := 166) rfl ?_); (try (rw [drewN_self wr]; generalize hq_ : World.drewN wr _ = wr; have n0_ := Aside0.mk (Kd.R_at hq_ HO_14.out); have n1_ := Aside0.mk (below_at hq_ HB.out); clear hq_ HO_14 HB; have HO_14 := n0_; have HB := n1_; clear n0_ n1_; (try (have HP82 := Kd.R_putg HO_14.out (x19_6 : Int) (wrap64 ((rd x14_5 x19_6) - (ji73))))))); refine store_event (t := 2) (p := 166) (v := ?vo_w83) (w1 := (wr.setCell ⟨go74, (x19_6 : Int).toNat, none⟩ (.int .i64 (wrap64 ((rd x14_5 x19_6) - (ji73)))))) ?hg ?ho ?hn ?hr ?_; (case ho => rfl); (case hg => rfl); (case hn => rfl); (case hr => first | (go_simp; done) | (go_simp; rfl)); intro w83 hw; have hg : wr.grownBy w83 (some go74) := (by rw [hw]; exact HP82.2); have hp_ : Kd.R (Kd.int .i64) 2 w83 w.heap.size (fun _ => True) (.slice (some ⟨go74, 0, none⟩) x14_5.length co81) y249 := (by rw [hw, Ny249.out]; exact HP82.1); clear HP82; have n0_ := Aside0.mk (hp_); have n1_ := Aside0.mk ((by rw [hw]; exact below_set (HB.out) GB74.out : Below w.heap.size w w83)); clear HO_14; clear HB; have HO_14 := n0_; have HB := n1_; clear n0_ n1_; clear hg hw hp_; have p250 : 0 ≤ (x19_6 : Int) := of_decide_eq_true (by first | (with_reducible assumption) | assumption); have q250 : x19_6 < (y249.length : Int) := (by have h_ : (x19_6 : Int) < ((x14_5.length : Int) : Int) := of_decide_eq_true (by first | (with_reducible assumption) | assumption); first | (have e_ := (Kd.R_reads' HO_14.out).1; omega) | simpa only [Ny249.out, List.length_set] using h_); have ql250 : ((x19_6 : Int) < ((x14_5.length : Int) : Int)) = True := eq_true (of_decide_eq_true (by first | (with_reducible assumption) | assumption)); obtain ⟨ad250, e250, hx250_0⟩ := Kd.at_int (Kd.R_reads' HO_14.out).2.2 x19_6 p250 q250; obtain rfl : (⟨go74, 0, none⟩ : Addr) = ad250 := (by injection e250); (first | simp only [add_plain] at hx250_0 | simp only [add_at] at hx250_0 | simp only [Addr.add, Nat.zero_add] at hx250_0 | skip); replace p250 := eq_true p250; replace q250 := eq_true q250; have p251 : 0 ≤ (x19_6 : Int) := of_decide_eq_true (by first | (with_reducible assumption) | assumption); have q251 : x19_6 < (l0.length : Int) := of_decide_eq_true (by first | (with_reducible assumption) | assumption); obtain ⟨ad251, e251, hx251_0, hx251_1, hx251_2⟩ := at_T38 HR0.out x19_6 p251 q251; cases e251; replace hx251_0 := (HB.out.cell (World.block_lt_of_cell? w _ hx251_0)).trans hx251_0; replace hx251_1 := (HB.out.cell (World.block_lt_of_cell? w _ hx251_1)).trans hx251_1; replace hx251_2 := (HB.out.cell (World.block_lt_of_cell? w _ hx251_2)).trans hx251_2; replace p251 := eq_true p251; replace q251 := eq_true q251)))
                                                          go_roundg k6
                                                          case measure => have := HJ3.out; have := HK2.out; have := HJ16.out; have := HK4.out; have := HK5.out; have := HK6.out; omega
                                                          case rel => exact ⟨(y249), (wrap64 (x16_5 + (ji73))), (wrap64 (x17_5 - (ji73))), (wrap64 (x18_5 + 1)), (by first | rfl | (simp; done) | (simp only [← hji73] <;> (first | rfl | simp)) | (simp [*]; done)), (by first | rfl | (simp; done) | (simp only [← hji73] <;> (first | rfl | simp)) | (simp [*]; done)), (by first | rfl | (simp; done) | (simp [*]; done)), H', ⟨by have := HJ3.out; have := HK2.out; have := HJ16.out; have := HK4.out; have := HK5.out; have := HK6.out; omega⟩, ⟨by (with_reducible repeat (first | apply Kd.R_alloc | apply Kd.R_drewN | apply Kd.R_drew)); exact HO_14.out⟩, ⟨by repeat (first | (with_reducible first | exact HB.out | apply below_alloc | apply pw_below_drewN | apply below_drew1) | exact HB.out)⟩⟩
                                                      · rw [if_neg c76] at H
                                                        exact absurd H (by simp)
                                                    · rw [if_neg c75] at H
                                                      have c75b0 : ((rd y249 x19_6) == 0) = false := beq_eq_false_iff_ne.mpr c75
                                                      have c75b1 : ((rd y249 x19_6) != 0) = true := bne_iff_ne.mpr c75
                                                      have H' := Aside0.mk H
                                                      clear H
                                                      obtain ⟨Ao84, co84, eo84⟩ := Kd.R_slice HO_14.out
                                                      subst eo84
                                                      have p247 : 0 ≤ (x19_6 : Int) := of_decide_eq_true (by first | (with_reducible assumption) | assumption)
                                                      have q247 : x19_6 < (x14_5.length : Int) := of_decide_eq_true (by first | (with_reducible assumption) | assumption)
                                                      obtain ⟨ad247, e247, hx247_0⟩ := Kd.at_int (Kd.R_reads' HO_14.out).2.2 x19_6 p247 q247
                                                      cases e247
                                                      replace p247 := eq_true p247
                                                      replace q247 := eq_true q247
                                                      have p248 : 0 ≤ (x19_6 : Int) := of_decide_eq_true (by first | (with_reducible assumption) | assumption)
                                                      have q248 : x19_6 < (x14_5.length : Int) := of_decide_eq_true (by first | (with_reducible assumption) | assumption)
                                                      obtain ⟨ad248, e248, hx248_0⟩ := Kd.at_int (Kd.R_reads' HO_14.out).2.2 x19_6 p248 q248
                                                      obtain rfl : ad247 = ad248 := (by injection e248)
                                                      replace p248 := eq_true p248
                                                      replace q248 := eq_true q248
                                                      have p74 : 0 ≤ (x19_6 : Int) := of_decide_eq_true (by first | (with_reducible assumption) | assumption)
                                                      have q74 : (x19_6 : Int) < ((x14_5.length : Int) : Int) := of_decide_eq_true (by first | (with_reducible assumption) | assumption)
                                                      obtain ⟨go74, co74, eo74, gb74, gl74, cl74, HG74⟩ := Kd.R_form HO_14.out (by omega)
                                                      (first | cases eo74 | (injection eo74 with ea_ en_ ec_; (first | subst ea_ | (injection ea_ with ea_; subst ea_)); subst ec_; clear en_))
                                                      have GB74 := Aside0.mk gb74
                                                      have GG74 := Aside0.mk HG74
                                                      clear gb74 gl74 HG74
                                                      (first | simp only [add_plain] at hx247_0 | skip)
                                                      (first | simp only [add_plain] at hx248_0 | skip)
                                                      obtain ⟨hx74_0, hf74_0⟩ := Kd.R_celln 0 HO_14.out (x19_6 : Int) p74 q74
                                                      replace p74 := eq_true p74
                                                      replace q74 := eq_true q74
                                                      have HP85 := Kd.R_putg HO_14.out (x19_6 : Int) (wrap64 ((rd x14_5 x19_6) - (ji73)))
                                                      go_wp2_with (first | ((with_reducible refine gate_store (t := 2) (p := 166) rfl ?_); (try (rw [drewN_self wr]; generalize hq_ : World.drewN wr _ = wr; have n0_ := Aside0.mk (Kd.R_at hq_ HO_14.out); have n1_ := Aside0.mk (below_at hq_ HB.out); clear hq_ HO_14 HB; have HO_14 := n0_; have HB := n1_; clear n0_ n1_; (try (have HP85 := Kd.R_putg HO_14.out (x19_6 : Int) (wrap64 ((rd x14_5 x19_6) - (ji73))))))); refine store_event (t := 2) (p := 166) (v := ?vo_w86) (w1 := (wr.setCell ⟨go74, (x19_6 : Int).toNat, none⟩ (.int .i64 (wrap64 ((rd x14_5 x19_6) - (ji73)))))) ?hg ?ho ?hn ?hr ?_; (case ho => rfl); (case hg => rfl); (case hn => rfl); (case hr => first | (go_simp; done) | (go_simp; rfl)); intro w86 hw; have hg : wr.grownBy w86 (some go74) := (by rw [hw]; exact HP85.2); have hp_ : Kd.R (Kd.int .i64) 2 w86 w.heap.size (fun _ => True) (.slice (some ⟨go74, 0, none⟩) x14_5.length co84) y249 := (by rw [hw, Ny249.out]; exact HP85.1); clear HP85; have n0_ := Aside0.mk (hp_); have n1_ := Aside0.mk ((by rw [hw]; exact below_set (HB.out) GB74.out : Below w.heap.size w w86)); clear HO_14; clear HB; have HO_14 := n0_; have HB := n1_; clear n0_ n1_; clear hg hw hp_; have p250 : 0 ≤ (x19_6 : Int) := of_decide_eq_true (by first | (with_reducible assumption) | assumption); have q250 : x19_6 < (y249.length : Int) := (by have h_ : (x19_6 : Int) < ((x14_5.length : Int) : Int) := of_decide_eq_true (by first | (with_reducible assumption) | assumption); first | (have e_ := (Kd.R_reads' HO_14.out).1; omega) | simpa only [Ny249.out, List.length_set] using h_); have ql250 : ((x19_6 : Int) < ((x14_5.length : Int) : Int)) = True := eq_true (of_decide_eq_true (by first | (with_reducible assumption) | assumption)); obtain ⟨ad250, e250, hx250_0⟩ := Kd.at_int (Kd.R_reads' HO_14.out).2.2 x19_6 p250 q250; obtain rfl : (⟨go74, 0, none⟩ : Addr) = ad250 := (by injection e250); (first | simp only [add_plain] at hx250_0 | simp only [add_at] at hx250_0 | simp only [Addr.add, Nat.zero_add] at hx250_0 | skip); replace p250 := eq_true p250; replace q250 := eq_true q250))
                                                      repeat (go_quiet (first | ((with_reducible refine gate_store (t := 2) (p := 166) rfl ?_); (try (rw [drewN_self wr]; generalize hq_ : World.drewN wr _ = wr; have n0_ := Aside0.mk (Kd.R_at hq_ HO_14.out); have n1_ := Aside0.mk (below_at hq_ HB.out); clear hq_ HO_14 HB; have HO_14 := n0_; have HB := n1_; clear n0_ n1_; (try (have HP85 := Kd.R_putg HO_14.out (x19_6 : Int) (wrap64 ((rd x14_5 x19_6) - (ji73))))))); refine store_event (t := 2) (p := 166) (v := ?vo_w86) (w1 := (wr.setCell ⟨go74, (x19_6 : Int).toNat, none⟩ (.int .i64 (wrap64 ((rd x14_5 x19_6) - (ji73)))))) ?hg ?ho ?hn ?hr ?_; (case ho => rfl); (case hg => rfl); (case hn => rfl); (case hr => first | (go_simp; done) | (go_simp; rfl)); intro w86 hw; have hg : wr.grownBy w86 (some go74) := (by rw [hw]; exact HP85.2); have hp_ : Kd.R (Kd.int .i64) 2 w86 w.heap.size (fun _ => True) (.slice (some ⟨go74, 0, none⟩) x14_5.length co84) y249 := (by rw [hw, Ny249.out]; exact HP85.1); clear HP85; have n0_ := Aside0.mk (hp_); have n1_ := Aside0.mk ((by rw [hw]; exact below_set (HB.out) GB74.out : Below w.heap.size w w86)); clear HO_14; clear HB; have HO_14 := n0_; have HB := n1_; clear n0_ n1_; clear hg hw hp_; have p250 : 0 ≤ (x19_6 : Int) := of_decide_eq_true (by first | (with_reducible assumption) | assumption); have q250 : x19_6 < (y249.length : Int) := (by have h_ : (x19_6 : Int) < ((x14_5.length : Int) : Int) := of_decide_eq_true (by first | (with_reducible assumption) | assumption); first | (have e_ := (Kd.R_reads' HO_14.out).1; omega) | simpa only [Ny249.out, List.length_set] using h_); have ql250 : ((x19_6 : Int) < ((x14_5.length : Int) : Int)) = True := eq_true (of_decide_eq_true (by first | (with_reducible assumption) | assumption)); obtain ⟨ad250, e250, hx250_0⟩ := Kd.at_int (Kd.R_reads' HO_14.out).2.2 x19_6 p250 q250; obtain rfl : (⟨go74, 0, none⟩ : Addr) = ad250 := (by injection e250); (first | simp only [add_plain] at hx250_0 | simp only [add_at] at hx250_0 | simp only [Addr.add, Nat.zero_add] at hx250_0 | skip); replace p250 := eq_true p250; replace q250 := eq_true q250)); try go_wp2_with (first | ((with_reducible refine gate_store (t := 2) (p := 166) rfl ?_); (try (rw [drewN_self wr]; generalize hq_ : World.drewN wr _ = wr; have n0_ := Aside0.mk (Kd.R_at hq_ HO_14.out); have n1_ := Aside0.mk (below_at hq_ HB.out); clear hq_ HO_14 HB; have HO_14 := n0_; have HB := n1_; clear n0_ n1_; (try (have HP85 := Kd.R_putg HO_14.out (x19_6 : Int) (wrap64 ((rd x14_5 x19_6) - (ji73))))))); refine store_event (t := 2) (p := 166) (v := ?vo_w86) (w1 := (wr.setCell ⟨go74, (x19_6 : Int).toNat, none⟩ (.int .i64 (wrap64 ((rd x14_5 x19_6) - (ji73)))))) ?hg ?ho ?hn ?hr ?_; (case ho => rfl); (case hg => rfl); (case hn => rfl); (case hr => first | (go_simp; done) | (go_simp; rfl)); intro w86 hw; have hg : wr.grownBy w86 (some go74) := (by rw [hw]; exact HP85.2); have hp_ : Kd.R (Kd.int .i64) 2 w86 w.heap.size (fun _ => True) (.slice (some ⟨go74, 0, none⟩) x14_5.length co84) y249 := (by rw [hw, Ny249.out]; exact HP85.1); clear HP85; have n0_ := Aside0.mk (hp_); have n1_ := Aside0.mk ((by rw [hw]; exact below_set (HB.out) GB74.out : Below w.heap.size w w86)); clear HO_14; clear HB; have HO_14 := n0_; have HB := n1_; clear n0_ n1_; clear hg hw hp_; have p250 : 0 ≤ (x19_6 : Int) := of_decide_eq_true (by first | (with_reducible assumption) | assumption); have q250 : x19_6 < (y249.length : Int) := (by have h_ : (x19_6 : Int) < ((x14_5.length : Int) : Int) := of_decide_eq_true (by first | (with_reducible assumption) | assumption); first | (have e_ := (Kd.R_reads' HO_14.out).1; omega) | simpa only [Ny249.out, List.length_set] using h_); have ql250 : ((x19_6 : Int) < ((x14_5.length : Int) : Int)) = True := eq_true (of_decide_eq_true (by first | (with_reducible assumption) | assumption)); obtain ⟨ad250, e250, hx250_0⟩ := Kd.at_int (Kd.R_reads' HO_14.out).2.2 x19_6 p250 q250; obtain rfl : (⟨go74, 0, none⟩ : Addr) = ad250 := (by injection e250); (first | simp only [add_plain] at hx250_0 | simp only [add_at] at hx250_0 | simp only [Addr.add, Nat.zero_add] at hx250_0 | skip); replace p250 := eq_true p250; replace q250 := eq_true q250)))
                                                      go_roundg k6
                                                      case measure => have := HJ3.out; have := HK2.out; have := HJ16.out; have := HK4.out; have := HK5.out; have := HK6.out; omega
                                                      case rel => exact ⟨(y249), (wrap64 (x16_5 + (ji73))), (wrap64 (x17_5 - (ji73))), (wrap64 (x18_5 + 1)), (by first | rfl | (simp; done) | (simp only [← hji73] <;> (first | rfl | simp)) | (simp [*]; done)), (by first | rfl | (simp; done) | (simp only [← hji73] <;> (first | rfl | simp)) | (simp [*]; done)), (by first | rfl | (simp; done) | (simp [*]; done)), H', ⟨by have := HJ3.out; have := HK2.out; have := HJ16.out; have := HK4.out; have := HK5.out; have := HK6.out; omega⟩, ⟨by (with_reducible repeat (first | apply Kd.R_alloc | apply Kd.R_drewN | apply Kd.R_drew)); exact HO_14.out⟩, ⟨by repeat (first | (with_reducible first | exact HB.out | apply below_alloc | apply pw_below_drewN | apply below_drew1) | exact HB.out)⟩⟩
                                                  · rw [if_neg c72] at H
                                                    exact absurd H (by simp)
                                                · rw [if_neg c71] at H
                                                  exact absurd H (by simp)
                                    · rw [if_neg c35] at H
                                      have c35b0 : decide (0 < x17_5) = false := decide_eq_false c35
                                      clear c35
                                      replace H := Option.bind_eq_some_iff.mp H
                                      obtain ⟨t235, A870, H⟩ := H
                                      replace H : (some t235) = some r := H
                                      have A87 := Aside0.mk A870
                                      clear A870
                                      obtain rfl := Option.some.inj H
                                      go_wp2_with (first | (go_at_call 8; (with_reducible refine (carillonlaw23_works.calls k5  t235 _ A87.out).mono ?_); rintro e w88 ⟨rfl, hb⟩; have n0_ := Aside0.mk (Kd.R_below (by (with_reducible repeat (first | apply Kd.R_alloc | apply Kd.R_drewN | apply Kd.R_drew)); exact HO_14.out) hb); have n1_ := Aside0.mk (below_step (by repeat (first | (with_reducible first | exact HB.out | apply below_alloc | apply pw_below_drewN | apply below_drew1) | exact HB.out)) hb); clear HO_14; clear HB; have HO_14 := n0_; have HB := n1_; clear n0_ n1_; (try clear hb); (try clear hb2); (try clear hk); (try clear hi)))
                                      repeat (go_quiet (first | (go_at_call 8; (with_reducible refine (carillonlaw23_works.calls k5  t235 _ A87.out).mono ?_); rintro e w88 ⟨rfl, hb⟩; have n0_ := Aside0.mk (Kd.R_below (by (with_reducible repeat (first | apply Kd.R_alloc | apply Kd.R_drewN | apply Kd.R_drew)); exact HO_14.out) hb); have n1_ := Aside0.mk (below_step (by repeat (first | (with_reducible first | exact HB.out | apply below_alloc | apply pw_below_drewN | apply below_drew1) | exact HB.out)) hb); clear HO_14; clear HB; have HO_14 := n0_; have HB := n1_; clear n0_ n1_; (try clear hb); (try clear hb2); (try clear hk); (try clear hi))); try go_wp2_with (first | (go_at_call 8; (with_reducible refine (carillonlaw23_works.calls k5  t235 _ A87.out).mono ?_); rintro e w88 ⟨rfl, hb⟩; have n0_ := Aside0.mk (Kd.R_below (by (with_reducible repeat (first | apply Kd.R_alloc | apply Kd.R_drewN | apply Kd.R_drew)); exact HO_14.out) hb); have n1_ := Aside0.mk (below_step (by repeat (first | (with_reducible first | exact HB.out | apply below_alloc | apply pw_below_drewN | apply below_drew1) | exact HB.out)) hb); clear HO_14; clear HB; have HO_14 := n0_; have HB := n1_; clear n0_ n1_; (try clear hb); (try clear hb2); (try clear hk); (try clear hi))))
                                      go_ret
                                      exact ⟨by first | rfl | (simp [errW_none, errW_some] <;> rfl) | (simp [*, errW_none, errW_some] <;> rfl), by repeat (first | (with_reducible first | exact HB.out | apply below_alloc | apply pw_below_drewN | apply below_drew1) | exact HB.out)⟩
                        · rw [if_neg c26] at H
                          exact absurd H (by simp)
                      · rw [if_neg c25] at H
                        exact absurd H (by simp)
              · rw [if_neg c16] at H
                have c16b0 : (t228 == 0) = false := beq_eq_false_iff_ne.mpr c16
                have c16b1 : (t228 != 0) = true := bne_iff_ne.mpr c16
                obtain rfl := Option.some.inj H
                go_wp2_with (first | (go_at_call 10; (with_reducible refine (carillonlaw23_copied.calls _ _ l0 t222 _ ?side1 ?side2 A14.out).mono ?_); (case side1 => repeat (first | exact (Kd.C_below HR0.out HB.out) | (with_reducible refine Kd.C_alloc ?_ _) | (with_reducible refine Kd.C_drewN ?_ _) | (with_reducible refine Kd.C_drew ?_))); (case side2 => exact HC0.out); rintro e w89 ⟨v223, rfl, ho0, hb⟩; have n0_ := Aside0.mk (Kd.R_lower ho0 (below_size (by repeat (first | (with_reducible first | exact HB.out | apply below_alloc | apply pw_below_drewN | apply below_drew1) | exact HB.out)))); have n1_ := Aside0.mk (below_step (by repeat (first | (with_reducible first | exact HB.out | apply below_alloc | apply pw_below_drewN | apply below_drew1) | exact HB.out)) hb); clear HB; have HO224 := n0_; have HB := n1_; clear n0_ n1_; (try clear hb); (try clear hb2); (try clear hk); (try clear hi); (try clear ho0); obtain ⟨Ao90, co90, eo90⟩ := Kd.R_slice HO224.out; subst eo90) | (go_at_call 12; (with_reducible refine (demand_Worst.calls k2 _ _ t222 (wrap64 (Int.tmod a1 9)) t225 t226 t227 t228 _ ?side1 ?side2 A15.out).mono ?_); (case side1 => repeat (first | exact (Kd.R_reads' HO224.out).2.2 | (with_reducible refine Kd.C_alloc ?_ _) | (with_reducible refine Kd.C_drewN ?_ _) | (with_reducible refine Kd.C_drew ?_))); (case side2 => exact (Kd.R_reads' HO224.out).2.1); rintro e w91 ⟨rfl, hb⟩; have n0_ := Aside0.mk (Kd.R_below (by (with_reducible repeat (first | apply Kd.R_alloc | apply Kd.R_drewN | apply Kd.R_drew)); exact HO224.out) hb); have n1_ := Aside0.mk (below_step (by repeat (first | (with_reducible first | exact HB.out | apply below_alloc | apply pw_below_drewN | apply below_drew1) | exact HB.out)) hb); clear HO224; clear HB; have HO224 := n0_; have HB := n1_; clear n0_ n1_; (try clear hb); (try clear hb2); (try clear hk); (try clear hi)))
                repeat (go_quiet (first | (go_at_call 10; (with_reducible refine (carillonlaw23_copied.calls _ _ l0 t222 _ ?side1 ?side2 A14.out).mono ?_); (case side1 => repeat (first | exact (Kd.C_below HR0.out HB.out) | (with_reducible refine Kd.C_alloc ?_ _) | (with_reducible refine Kd.C_drewN ?_ _) | (with_reducible refine Kd.C_drew ?_))); (case side2 => exact HC0.out); rintro e w89 ⟨v223, rfl, ho0, hb⟩; have n0_ := Aside0.mk (Kd.R_lower ho0 (below_size (by repeat (first | (with_reducible first | exact HB.out | apply below_alloc | apply pw_below_drewN | apply below_drew1) | exact HB.out)))); have n1_ := Aside0.mk (below_step (by repeat (first | (with_reducible first | exact HB.out | apply below_alloc | apply pw_below_drewN | apply below_drew1) | exact HB.out)) hb); clear HB; have HO224 := n0_; have HB := n1_; clear n0_ n1_; (try clear hb); (try clear hb2); (try clear hk); (try clear hi); (try clear ho0); obtain ⟨Ao90, co90, eo90⟩ := Kd.R_slice HO224.out; subst eo90) | (go_at_call 12; (with_reducible refine (demand_Worst.calls k2 _ _ t222 (wrap64 (Int.tmod a1 9)) t225 t226 t227 t228 _ ?side1 ?side2 A15.out).mono ?_); (case side1 => repeat (first | exact (Kd.R_reads' HO224.out).2.2 | (with_reducible refine Kd.C_alloc ?_ _) | (with_reducible refine Kd.C_drewN ?_ _) | (with_reducible refine Kd.C_drew ?_))); (case side2 => exact (Kd.R_reads' HO224.out).2.1); rintro e w91 ⟨rfl, hb⟩; have n0_ := Aside0.mk (Kd.R_below (by (with_reducible repeat (first | apply Kd.R_alloc | apply Kd.R_drewN | apply Kd.R_drew)); exact HO224.out) hb); have n1_ := Aside0.mk (below_step (by repeat (first | (with_reducible first | exact HB.out | apply below_alloc | apply pw_below_drewN | apply below_drew1) | exact HB.out)) hb); clear HO224; clear HB; have HO224 := n0_; have HB := n1_; clear n0_ n1_; (try clear hb); (try clear hb2); (try clear hk); (try clear hi))); try go_wp2_with (first | (go_at_call 10; (with_reducible refine (carillonlaw23_copied.calls _ _ l0 t222 _ ?side1 ?side2 A14.out).mono ?_); (case side1 => repeat (first | exact (Kd.C_below HR0.out HB.out) | (with_reducible refine Kd.C_alloc ?_ _) | (with_reducible refine Kd.C_drewN ?_ _) | (with_reducible refine Kd.C_drew ?_))); (case side2 => exact HC0.out); rintro e w89 ⟨v223, rfl, ho0, hb⟩; have n0_ := Aside0.mk (Kd.R_lower ho0 (below_size (by repeat (first | (with_reducible first | exact HB.out | apply below_alloc | apply pw_below_drewN | apply below_drew1) | exact HB.out)))); have n1_ := Aside0.mk (below_step (by repeat (first | (with_reducible first | exact HB.out | apply below_alloc | apply pw_below_drewN | apply below_drew1) | exact HB.out)) hb); clear HB; have HO224 := n0_; have HB := n1_; clear n0_ n1_; (try clear hb); (try clear hb2); (try clear hk); (try clear hi); (try clear ho0); obtain ⟨Ao90, co90, eo90⟩ := Kd.R_slice HO224.out; subst eo90) | (go_at_call 12; (with_reducible refine (demand_Worst.calls k2 _ _ t222 (wrap64 (Int.tmod a1 9)) t225 t226 t227 t228 _ ?side1 ?side2 A15.out).mono ?_); (case side1 => repeat (first | exact (Kd.R_reads' HO224.out).2.2 | (with_reducible refine Kd.C_alloc ?_ _) | (with_reducible refine Kd.C_drewN ?_ _) | (with_reducible refine Kd.C_drew ?_))); (case side2 => exact (Kd.R_reads' HO224.out).2.1); rintro e w91 ⟨rfl, hb⟩; have n0_ := Aside0.mk (Kd.R_below (by (with_reducible repeat (first | apply Kd.R_alloc | apply Kd.R_drewN | apply Kd.R_drew)); exact HO224.out) hb); have n1_ := Aside0.mk (below_step (by repeat (first | (with_reducible first | exact HB.out | apply below_alloc | apply pw_below_drewN | apply below_drew1) | exact HB.out)) hb); clear HO224; clear HB; have HO224 := n0_; have HB := n1_; clear n0_ n1_; (try clear hb); (try clear hb2); (try clear hk); (try clear hi))))
                go_ret
                exact ⟨by first | rfl | (simp [errW_none, errW_some] <;> rfl) | (simp [*, errW_none, errW_some] <;> rfl), by repeat (first | (with_reducible first | exact HB.out | apply below_alloc | apply pw_below_drewN | apply below_drew1) | exact HB.out)⟩

end Go.Proofs.Ytlmmdpdkddmklab.Q
