import Derived.Test.YtfondhcppjkchaaGreatC3
import Derived.Test.YtfondhcppjkchaaGreatC4
set_option maxHeartbeats 40000000
set_option maxRecDepth 100000
set_option linter.unusedVariables false
set_option linter.unusedSimpArgs false
namespace Go.Proofs.YtfondhcppjkchaaGreat.Q
open Go.RowKit Go.Proofs.YtfondhcppjkchaaGreatW.PrintWords Go.Proofs.YtfondhcppjkchaaGreatW.PrintLast Go.Proofs.YtfondhcppjkchaaGreatW.PrintMore
attribute [local go_sem] max2_int min2_int max_two min_two max_three min_three max_four min_four
def tasks_mayTask.j0 : Nat → Int → Bool → Int → Int → Int → Int → Int → List (S75) → Int → Option (Bool)
 | 0, _, _, _, _, _, _, _, _, _ => none
 | k + 1, x3, x31, x196000, x196001, x196002, x196003, x196004, x196005, x196006 => if x31 = true then (some false) else (if x196004 = (-1) then (if x196003 ≥ 0 then (if x196006 ≥ 1 then (some (decide (x196006 ≤ 32))) else (some false)) else (some false)) else (if x196003 = (-1) then (if x196004 ≥ 0 then (if x196006 = 0 then (some (x3 == 1)) else (some false)) else (some false)) else (some false)))
def tasks_mayTask.f (k : Nat) (a0_0 : Int) (a0_1 : Int) (a0_2 : Int) (a0_3 : Int) (a0_4 : Int) (l0_5 : List (S75)) (a0_6 : Int) : Option (Bool) := (tasks_mayClock.f k a0_0 a0_1).bind fun t196 => (if t196 = true then (if a0_2 < 1 then (tasks_mayTask.j0 k (l0_5.length : Int) true a0_0 a0_1 a0_2 a0_3 a0_4 l0_5 a0_6) else (if a0_2 > a0_0 then (tasks_mayTask.j0 k (l0_5.length : Int) true a0_0 a0_1 a0_2 a0_3 a0_4 l0_5 a0_6) else (if (l0_5.length : Int) < 1 then (tasks_mayTask.j0 k (l0_5.length : Int) true a0_0 a0_1 a0_2 a0_3 a0_4 l0_5 a0_6) else (tasks_mayTask.j0 k (l0_5.length : Int) (decide ((l0_5.length : Int) > 32)) a0_0 a0_1 a0_2 a0_3 a0_4 l0_5 a0_6)))) else (tasks_mayTask.j0 k (l0_5.length : Int) true a0_0 a0_1 a0_2 a0_3 a0_4 l0_5 a0_6))
theorem tasks_mayTask.zma : ∀ k, (∀ y0 y1 y2 y3 y4 y5 y6 y7 y8, LeO (tasks_mayTask.j0 k y0 y1 y2 y3 y4 y5 y6 y7 y8) (tasks_mayTask.j0 (k + 1) y0 y1 y2 y3 y4 y5 y6 y7 y8))
 | 0 => fun _ _ _ _ _ _ _ _ _ r h => by simp [tasks_mayTask.j0] at h
 | k + 1 => by
  have ih0 := tasks_mayTask.zma k
  ·intro y0 y1 y2 y3 y4 y5 y6 y7 y8
   unfold tasks_mayTask.j0
   repeat' first
   | (with_reducible exact ih0 _ _ _ _ _ _ _ _ _)
   | (with_reducible exact tasks_mayClock.mono _ _ _)
   | (with_reducible exact LeO.refl _)
   | (with_reducible exact LeO.none _)
   | (with_reducible refine LeO.ite ?_ ?_)
   | (with_reducible refine LeO.bind ?_ (fun _ => ?_))
   | exact ih0 _ _ _ _ _ _ _ _ _
   | exact tasks_mayClock.mono _ _ _
   | exact LeO.none _
   | refine LeO.ite ?_ ?_
   | refine LeO.bind ?_ (fun _ => ?_)
theorem tasks_mayTask.mono : ∀ a0 a1 a2 a3 a4 a5 a6 k, LeO (tasks_mayTask.f k a0 a1 a2 a3 a4 a5 a6) (tasks_mayTask.f (k + 1) a0 a1 a2 a3 a4 a5 a6) := by
 intro a0 a1 a2 a3 a4 a5 a6 k
 have ih0 := tasks_mayTask.zma k
 unfold tasks_mayTask.f
 repeat' first
   | (with_reducible exact ih0 _ _ _ _ _ _ _ _ _)
   | (with_reducible exact tasks_mayClock.mono _ _ _)
   | (with_reducible exact LeO.refl _)
   | (with_reducible exact LeO.none _)
   | (with_reducible refine LeO.ite ?_ ?_)
   | (with_reducible refine LeO.bind ?_ (fun _ => ?_))
   | exact ih0 _ _ _ _ _ _ _ _ _
   | exact tasks_mayClock.mono _ _ _
   | exact LeO.none _
   | refine LeO.ite ?_ ?_
   | refine LeO.bind ?_ (fun _ => ?_)
theorem tasks_mayTask.calls (k : Nat) (a0_0 : Int) (a0_1 : Int) (a0_2 : Int) (a0_3 : Int) (a0_4 : Int) (A0_5 : Option Addr) (c0_5 : Nat) (l0_5 : List (S75)) (a0_6 : Int) (r : Bool) (w : World) (hr0_5 : Kd.C k75 w A0_5 l0_5.length l0_5) (hc0_5 : l0_5.length ≤ c0_5) (h : tasks_mayTask.f k a0_0 a0_1 a0_2 a0_3 a0_4 l0_5 a0_6 = some r) :
  Calls Tryz.prog 89 #[.agg #[.int .i64 a0_0, .int .i64 a0_1, .int .i64 a0_2, .int .i64 a0_3, .int .i64 a0_4, .slice A0_5 l0_5.length c0_5, .int .i64 a0_6]] w fun e w' => e = .returned (.bool r) ∧ Below w.heap.size w w' := by
 have hu78 := Tryz.underlying78
 have hu68 := Tryz.underlying68
 have HR0_5 := zb.mk hr0_5
 have HC0_5 := zb.mk hc0_5
 clear hr0_5 hc0_5
 have HB := zb.mk (Below.refl w.heap.size w)
 have H : ((tasks_mayClock.f k a0_0 a0_1).bind fun t196 => (if t196 = true then (if a0_2 < 1 then (tasks_mayTask.j0 k (l0_5.length : Int) true a0_0 a0_1 a0_2 a0_3 a0_4 l0_5 a0_6) else (if a0_2 > a0_0 then (tasks_mayTask.j0 k (l0_5.length : Int) true a0_0 a0_1 a0_2 a0_3 a0_4 l0_5 a0_6) else (if (l0_5.length : Int) < 1 then (tasks_mayTask.j0 k (l0_5.length : Int) true a0_0 a0_1 a0_2 a0_3 a0_4 l0_5 a0_6) else (tasks_mayTask.j0 k (l0_5.length : Int) (decide ((l0_5.length : Int) > 32)) a0_0 a0_1 a0_2 a0_3 a0_4 l0_5 a0_6)))) else (tasks_mayTask.j0 k (l0_5.length : Int) true a0_0 a0_1 a0_2 a0_3 a0_4 l0_5 a0_6))) = some r := h
 clear h
 have HC2 := zb.mk H
 clear H
 go_enter Tryz.func89, Tryz.ntmps89
 go_upto_region 2 with (first | ((with_reducible refine zda (N := 1) rfl ?_); refine zaa ?hg (N := 1) ?hd (cs := #[.int .i64 a0_0, .int .i64 a0_1, .int .i64 a0_2, .int .i64 a0_3, .int .i64 a0_4, .slice A0_5 l0_5.length c0_5, .int .i64 a0_6]) (t := 78) ?hr ?_; (case hd => rfl); (case hg => rfl); (case hr => first | (go_simp; done) | (go_simp; rfl)); intro gb195 hg w3 hbox hb; have n0_ := zb.mk (zo (by repeat with_reducible first | exact HB.out | apply zd | apply za | apply ze) hb); have n1_ := zb.mk (hbox); have n2_ := zb.mk ((by rw [hg]; exact (zn (by repeat with_reducible first | exact HB.out | apply zd | apply za | apply ze)) : w.heap.size ≤ gb195)); have n3_ := zb.mk ((by rw [hg]; exact (zn (by repeat with_reducible first | exact HB.out | apply zd | apply za | apply ze)) : w.heap.size ≤ gb195)); clear HB; have HB := n0_; have BK195 := n1_; have GW195 := n2_; have GE195 := n3_; clear n0_ n1_ n2_ n3_; clear hb hbox hg; have hcz4_0 : w3.cell? ⟨gb195, 0, none⟩ = some (.int .i64 a0_0) := (zg BK195.out 0).trans rfl; have hcz4_1 : w3.cell? ⟨gb195, 1, none⟩ = some (.int .i64 a0_1) := (zg BK195.out 1).trans rfl; have hcz4_2 : w3.cell? ⟨gb195, 2, none⟩ = some (.int .i64 a0_2) := (zg BK195.out 2).trans rfl; have hcz4_3 : w3.cell? ⟨gb195, 3, none⟩ = some (.int .i64 a0_3) := (zg BK195.out 3).trans rfl; have hcz4_4 : w3.cell? ⟨gb195, 4, none⟩ = some (.int .i64 a0_4) := (zg BK195.out 4).trans rfl; have hcz4_5 : w3.cell? ⟨gb195, 5, none⟩ = some (.slice A0_5 l0_5.length c0_5) := (zg BK195.out 5).trans rfl; have hcz4_6 : w3.cell? ⟨gb195, 6, none⟩ = some (.int .i64 a0_6) := (zg BK195.out 6).trans rfl; have hfz4_0 := zf BK195.out 0; have hfz4_1 := zf BK195.out 1; have hfz4_2 := zf BK195.out 2; have hfz4_3 := zf BK195.out 3; have hfz4_4 := zf BK195.out 4; have hfz4_5 := zf BK195.out 5; have hfz4_6 := zf BK195.out 6))
 (try simp only [Act.put, List.setIfInBounds_toArray, List.set_cons_zero, List.set_cons_succ])
 go_cut [31] (fun v31 wc => ∃ (kq : Nat) (x31_1 : Bool), v31 = .bool x31_1 ∧ zb (tasks_mayTask.j0 kq (l0_5.length : Int) x31_1 a0_0 a0_1 a0_2 a0_3 a0_4 l0_5 a0_6 = some r) ∧ zb (kq ≤ k) ∧ zb (wc.heap[gb195]? = some (.cells #[.int .i64 a0_0, .int .i64 a0_1, .int .i64 a0_2, .int .i64 a0_3, .int .i64 a0_4, (.slice A0_5 l0_5.length c0_5), .int .i64 a0_6] 78 (0, 0))) ∧ zb (Below w.heap.size w wc))
 case first =>
  have H := HC2.out
  clear HC2
  replace H := Option.bind_eq_some_iff.mp H
  obtain ⟨t196, A50, H⟩ := H
  replace H : (if t196 = true then (if a0_2 < 1 then (tasks_mayTask.j0 k (l0_5.length : Int) true a0_0 a0_1 a0_2 a0_3 a0_4 l0_5 a0_6) else (if a0_2 > a0_0 then (tasks_mayTask.j0 k (l0_5.length : Int) true a0_0 a0_1 a0_2 a0_3 a0_4 l0_5 a0_6) else (if (l0_5.length : Int) < 1 then (tasks_mayTask.j0 k (l0_5.length : Int) true a0_0 a0_1 a0_2 a0_3 a0_4 l0_5 a0_6) else (tasks_mayTask.j0 k (l0_5.length : Int) (decide ((l0_5.length : Int) > 32)) a0_0 a0_1 a0_2 a0_3 a0_4 l0_5 a0_6)))) else (tasks_mayTask.j0 k (l0_5.length : Int) true a0_0 a0_1 a0_2 a0_3 a0_4 l0_5 a0_6)) = some r := H
  have A5 := zb.mk A50
  clear A50
  refine dite (t196 = true) (fun c6 => ?pp1) (fun c6 => ?nn1)
  case' nn1 =>
   replace c6 := Bool.eq_false_iff.mpr c6
   subst c6
   have H1 : (tasks_mayTask.j0 k (l0_5.length : Int) true a0_0 a0_1 a0_2 a0_3 a0_4 l0_5 a0_6) = some r := by rw [if_neg (show ¬ (false = true) by decide)] at H; exact H
   clear H
   have H := H1
   clear H1
   have H' := zb.mk H
   clear H
   have hcz22_0 : w3.cell? ⟨gb195, 0, none⟩ = some (.int .i64 a0_0) := (zg BK195.out 0).trans rfl
   have hcz22_1 : w3.cell? ⟨gb195, 1, none⟩ = some (.int .i64 a0_1) := (zg BK195.out 1).trans rfl
   have hcz22_2 : w3.cell? ⟨gb195, 2, none⟩ = some (.int .i64 a0_2) := (zg BK195.out 2).trans rfl
   have hcz22_3 : w3.cell? ⟨gb195, 3, none⟩ = some (.int .i64 a0_3) := (zg BK195.out 3).trans rfl
   have hcz22_4 : w3.cell? ⟨gb195, 4, none⟩ = some (.int .i64 a0_4) := (zg BK195.out 4).trans rfl
   have hcz22_5 : w3.cell? ⟨gb195, 5, none⟩ = some (.slice A0_5 l0_5.length c0_5) := (zg BK195.out 5).trans rfl
   have hcz22_6 : w3.cell? ⟨gb195, 6, none⟩ = some (.int .i64 a0_6) := (zg BK195.out 6).trans rfl
   have hfz22_0 := zf BK195.out 0
   have hfz22_1 := zf BK195.out 1
   have hfz22_2 := zf BK195.out 2
   have hfz22_3 := zf BK195.out 3
   have hfz22_4 := zf BK195.out 4
   have hfz22_5 := zf BK195.out 5
   have hfz22_6 := zf BK195.out 6
  case' pp1 =>
   subst c6
   have H1 : (if a0_2 < 1 then (tasks_mayTask.j0 k (l0_5.length : Int) true a0_0 a0_1 a0_2 a0_3 a0_4 l0_5 a0_6) else (if a0_2 > a0_0 then (tasks_mayTask.j0 k (l0_5.length : Int) true a0_0 a0_1 a0_2 a0_3 a0_4 l0_5 a0_6) else (if (l0_5.length : Int) < 1 then (tasks_mayTask.j0 k (l0_5.length : Int) true a0_0 a0_1 a0_2 a0_3 a0_4 l0_5 a0_6) else (tasks_mayTask.j0 k (l0_5.length : Int) (decide ((l0_5.length : Int) > 32)) a0_0 a0_1 a0_2 a0_3 a0_4 l0_5 a0_6)))) = some r := by rw [if_pos rfl] at H; exact H
   clear H
   have H := H1
   clear H1
   refine dite (a0_2 < 1) (fun c7 => ?pp2) (fun c7 => ?nn2)
   case' nn2 =>
    rw [if_neg c7] at H
    have c7b0 : decide (a0_2 < 1) = false := decide_eq_false c7
    clear c7
    (first | rw [c7b0] | (simp only [i64_w, i32_w]; rw [c7b0]) | skip)
    refine dite (a0_2 > a0_0) (fun c11 => ?pp3) (fun c11 => ?nn3)
    case' nn3 =>
     rw [if_neg c11] at H
     have c11b0 : decide (a0_0 < a0_2) = false := decide_eq_false c11
     clear c11
     refine dite ((l0_5.length : Int) < 1) (fun c15 => ?pp4) (fun c15 => ?nn4)
     case' nn4 =>
      rw [if_neg c15] at H
      have c15b0 : decide ((l0_5.length : Int) < 1) = false := decide_eq_false c15
      have c15b1 : decide (l0_5.length < 1) = false := decide_eq_false (by omega)
      clear c15
      have H' := zb.mk H
      clear H
      have hcz19_0 : w3.cell? ⟨gb195, 0, none⟩ = some (.int .i64 a0_0) := (zg BK195.out 0).trans rfl
      have hcz19_1 : w3.cell? ⟨gb195, 1, none⟩ = some (.int .i64 a0_1) := (zg BK195.out 1).trans rfl
      have hcz19_2 : w3.cell? ⟨gb195, 2, none⟩ = some (.int .i64 a0_2) := (zg BK195.out 2).trans rfl
      have hcz19_3 : w3.cell? ⟨gb195, 3, none⟩ = some (.int .i64 a0_3) := (zg BK195.out 3).trans rfl
      have hcz19_4 : w3.cell? ⟨gb195, 4, none⟩ = some (.int .i64 a0_4) := (zg BK195.out 4).trans rfl
      have hcz19_5 : w3.cell? ⟨gb195, 5, none⟩ = some (.slice A0_5 l0_5.length c0_5) := (zg BK195.out 5).trans rfl
      have hcz19_6 : w3.cell? ⟨gb195, 6, none⟩ = some (.int .i64 a0_6) := (zg BK195.out 6).trans rfl
      have hfz19_0 := zf BK195.out 0
      have hfz19_1 := zf BK195.out 1
      have hfz19_2 := zf BK195.out 2
      have hfz19_3 := zf BK195.out 3
      have hfz19_4 := zf BK195.out 4
      have hfz19_5 := zf BK195.out 5
      have hfz19_6 := zf BK195.out 6
     case' pp4 =>
      rw [if_pos c15] at H
      have c15b0 : decide ((l0_5.length : Int) < 1) = true := decide_eq_true c15
      have c15b1 : decide (l0_5.length < 1) = true := decide_eq_true (by omega)
      clear c15
      have H' := zb.mk H
      clear H
      have hcz16_0 : w3.cell? ⟨gb195, 0, none⟩ = some (.int .i64 a0_0) := (zg BK195.out 0).trans rfl
      have hcz16_1 : w3.cell? ⟨gb195, 1, none⟩ = some (.int .i64 a0_1) := (zg BK195.out 1).trans rfl
      have hcz16_2 : w3.cell? ⟨gb195, 2, none⟩ = some (.int .i64 a0_2) := (zg BK195.out 2).trans rfl
      have hcz16_3 : w3.cell? ⟨gb195, 3, none⟩ = some (.int .i64 a0_3) := (zg BK195.out 3).trans rfl
      have hcz16_4 : w3.cell? ⟨gb195, 4, none⟩ = some (.int .i64 a0_4) := (zg BK195.out 4).trans rfl
      have hcz16_5 : w3.cell? ⟨gb195, 5, none⟩ = some (.slice A0_5 l0_5.length c0_5) := (zg BK195.out 5).trans rfl
      have hcz16_6 : w3.cell? ⟨gb195, 6, none⟩ = some (.int .i64 a0_6) := (zg BK195.out 6).trans rfl
      have hfz16_0 := zf BK195.out 0
      have hfz16_1 := zf BK195.out 1
      have hfz16_2 := zf BK195.out 2
      have hfz16_3 := zf BK195.out 3
      have hfz16_4 := zf BK195.out 4
      have hfz16_5 := zf BK195.out 5
      have hfz16_6 := zf BK195.out 6
    case' pp3 =>
     rw [if_pos c11] at H
     have c11b0 : decide (a0_0 < a0_2) = true := decide_eq_true c11
     clear c11
     have H' := zb.mk H
     clear H
     have hcz12_0 : w3.cell? ⟨gb195, 0, none⟩ = some (.int .i64 a0_0) := (zg BK195.out 0).trans rfl
     have hcz12_1 : w3.cell? ⟨gb195, 1, none⟩ = some (.int .i64 a0_1) := (zg BK195.out 1).trans rfl
     have hcz12_2 : w3.cell? ⟨gb195, 2, none⟩ = some (.int .i64 a0_2) := (zg BK195.out 2).trans rfl
     have hcz12_3 : w3.cell? ⟨gb195, 3, none⟩ = some (.int .i64 a0_3) := (zg BK195.out 3).trans rfl
     have hcz12_4 : w3.cell? ⟨gb195, 4, none⟩ = some (.int .i64 a0_4) := (zg BK195.out 4).trans rfl
     have hcz12_5 : w3.cell? ⟨gb195, 5, none⟩ = some (.slice A0_5 l0_5.length c0_5) := (zg BK195.out 5).trans rfl
     have hcz12_6 : w3.cell? ⟨gb195, 6, none⟩ = some (.int .i64 a0_6) := (zg BK195.out 6).trans rfl
     have hfz12_0 := zf BK195.out 0
     have hfz12_1 := zf BK195.out 1
     have hfz12_2 := zf BK195.out 2
     have hfz12_3 := zf BK195.out 3
     have hfz12_4 := zf BK195.out 4
     have hfz12_5 := zf BK195.out 5
     have hfz12_6 := zf BK195.out 6
   case' pp2 =>
    rw [if_pos c7] at H
    have c7b0 : decide (a0_2 < 1) = true := decide_eq_true c7
    clear c7
    (first | rw [c7b0] | (simp only [i64_w, i32_w]; rw [c7b0]) | skip)
    have H' := zb.mk H
    clear H
    have hcz8_0 : w3.cell? ⟨gb195, 0, none⟩ = some (.int .i64 a0_0) := (zg BK195.out 0).trans rfl
    have hcz8_1 : w3.cell? ⟨gb195, 1, none⟩ = some (.int .i64 a0_1) := (zg BK195.out 1).trans rfl
    have hcz8_2 : w3.cell? ⟨gb195, 2, none⟩ = some (.int .i64 a0_2) := (zg BK195.out 2).trans rfl
    have hcz8_3 : w3.cell? ⟨gb195, 3, none⟩ = some (.int .i64 a0_3) := (zg BK195.out 3).trans rfl
    have hcz8_4 : w3.cell? ⟨gb195, 4, none⟩ = some (.int .i64 a0_4) := (zg BK195.out 4).trans rfl
    have hcz8_5 : w3.cell? ⟨gb195, 5, none⟩ = some (.slice A0_5 l0_5.length c0_5) := (zg BK195.out 5).trans rfl
    have hcz8_6 : w3.cell? ⟨gb195, 6, none⟩ = some (.int .i64 a0_6) := (zg BK195.out 6).trans rfl
    have hfz8_0 := zf BK195.out 0
    have hfz8_1 := zf BK195.out 1
    have hfz8_2 := zf BK195.out 2
    have hfz8_3 := zf BK195.out 3
    have hfz8_4 := zf BK195.out 4
    have hfz8_5 := zf BK195.out 5
    have hfz8_6 := zf BK195.out 6
  all_goals
   as_aux_lemma =>
    go_wp2_with (first | ((with_reducible refine zt (f := 88) rfl ?_); refine zka (some 9) rfl rfl Tryz.func88 (by kernel_rfl) rfl #[.agg #[.int .i64 a0_0, .int .i64 a0_1]] rfl (by (try simp only [List.map_toArray, List.map_cons, List.map_nil]); first | done | rfl | (simp only [List.length_drop, List.length_take]; rfl)) ?_; (with_reducible refine (tasks_mayClock.calls k a0_0 a0_1 _ _ A5.out).mono ?_); rintro e w20 ⟨rfl, hb⟩; refine ⟨_, rfl, ?_⟩; have n0_ := zb.mk (zr (g := gb195) (o := .cells #[.int .i64 a0_0, .int .i64 a0_1, .int .i64 a0_2, .int .i64 a0_3, .int .i64 a0_4, .slice A0_5 l0_5.length c0_5, .int .i64 a0_6] 78 (0, 0)) (by (with_reducible repeat first | apply zi | apply zl | apply zh); exact BK195.out) hb); have n1_ := zb.mk (zo (by repeat with_reducible first | exact HB.out | apply zd | apply za | apply ze | refine zk ?_ GE195.out) hb); clear BK195; clear HB; have BK195 := n0_; have HB := n1_; clear n0_ n1_; (try clear hb); have hcz21_0 : w20.cell? ⟨gb195, 0, none⟩ = some (.int .i64 a0_0) := (zg BK195.out 0).trans rfl; have hcz21_1 : w20.cell? ⟨gb195, 1, none⟩ = some (.int .i64 a0_1) := (zg BK195.out 1).trans rfl; have hcz21_2 : w20.cell? ⟨gb195, 2, none⟩ = some (.int .i64 a0_2) := (zg BK195.out 2).trans rfl; have hcz21_3 : w20.cell? ⟨gb195, 3, none⟩ = some (.int .i64 a0_3) := (zg BK195.out 3).trans rfl; have hcz21_4 : w20.cell? ⟨gb195, 4, none⟩ = some (.int .i64 a0_4) := (zg BK195.out 4).trans rfl; have hcz21_5 : w20.cell? ⟨gb195, 5, none⟩ = some (.slice A0_5 l0_5.length c0_5) := (zg BK195.out 5).trans rfl; have hcz21_6 : w20.cell? ⟨gb195, 6, none⟩ = some (.int .i64 a0_6) := (zg BK195.out 6).trans rfl; have hfz21_0 := zf BK195.out 0; have hfz21_1 := zf BK195.out 1; have hfz21_2 := zf BK195.out 2; have hfz21_3 := zf BK195.out 3; have hfz21_4 := zf BK195.out 4; have hfz21_5 := zf BK195.out 5; have hfz21_6 := zf BK195.out 6))
    go_meet
    case rel => exact ⟨_, _, (by first | rfl | (simp; done) | (simp [*]; done)), H', ⟨by first | omega | exact Nat.le_refl _⟩, ⟨by (with_reducible repeat first | apply zi | apply zl | apply zh); exact BK195.out⟩, ⟨by repeat with_reducible first | exact HB.out | apply zd | apply za | apply ze | refine zk ?_ GE195.out⟩⟩
 case rest =>
  clear HC2
  try clear c1
  try clear p2
  try clear c6
  try clear c7
  try clear c7b0
  try clear c8
  try clear c11
  try clear c11b0
  try clear c15
  try clear c15b0
  try clear c15b1
  try clear hcz10_0
  try clear hcz10_1
  try clear hcz10_2
  try clear hcz10_3
  try clear hcz10_4
  try clear hcz10_5
  try clear hcz10_6
  try clear hcz12_0
  try clear hcz12_1
  try clear hcz12_2
  try clear hcz12_3
  try clear hcz12_4
  try clear hcz12_5
  try clear hcz12_6
  try clear hcz14_0
  try clear hcz14_1
  try clear hcz14_2
  try clear hcz14_3
  try clear hcz14_4
  try clear hcz14_5
  try clear hcz14_6
  try clear hcz16_0
  try clear hcz16_1
  try clear hcz16_2
  try clear hcz16_3
  try clear hcz16_4
  try clear hcz16_5
  try clear hcz16_6
  try clear hcz18_0
  try clear hcz18_1
  try clear hcz18_2
  try clear hcz18_3
  try clear hcz18_4
  try clear hcz18_5
  try clear hcz18_6
  try clear hcz19_0
  try clear hcz19_1
  try clear hcz19_2
  try clear hcz19_3
  try clear hcz19_4
  try clear hcz19_5
  try clear hcz19_6
  try clear hcz21_0
  try clear hcz21_1
  try clear hcz21_2
  try clear hcz21_3
  try clear hcz21_4
  try clear hcz21_5
  try clear hcz21_6
  try clear hcz22_0
  try clear hcz22_1
  try clear hcz22_2
  try clear hcz22_3
  try clear hcz22_4
  try clear hcz22_5
  try clear hcz22_6
  try clear hcz4_0
  try clear hcz4_1
  try clear hcz4_2
  try clear hcz4_3
  try clear hcz4_4
  try clear hcz4_5
  try clear hcz4_6
  try clear hcz8_0
  try clear hcz8_1
  try clear hcz8_2
  try clear hcz8_3
  try clear hcz8_4
  try clear hcz8_5
  try clear hcz8_6
  try clear hfz10_0
  try clear hfz10_1
  try clear hfz10_2
  try clear hfz10_3
  try clear hfz10_4
  try clear hfz10_5
  try clear hfz10_6
  try clear hfz12_0
  try clear hfz12_1
  try clear hfz12_2
  try clear hfz12_3
  try clear hfz12_4
  try clear hfz12_5
  try clear hfz12_6
  try clear hfz14_0
  try clear hfz14_1
  try clear hfz14_2
  try clear hfz14_3
  try clear hfz14_4
  try clear hfz14_5
  try clear hfz14_6
  try clear hfz16_0
  try clear hfz16_1
  try clear hfz16_2
  try clear hfz16_3
  try clear hfz16_4
  try clear hfz16_5
  try clear hfz16_6
  try clear hfz18_0
  try clear hfz18_1
  try clear hfz18_2
  try clear hfz18_3
  try clear hfz18_4
  try clear hfz18_5
  try clear hfz18_6
  try clear hfz19_0
  try clear hfz19_1
  try clear hfz19_2
  try clear hfz19_3
  try clear hfz19_4
  try clear hfz19_5
  try clear hfz19_6
  try clear hfz21_0
  try clear hfz21_1
  try clear hfz21_2
  try clear hfz21_3
  try clear hfz21_4
  try clear hfz21_5
  try clear hfz21_6
  try clear hfz22_0
  try clear hfz22_1
  try clear hfz22_2
  try clear hfz22_3
  try clear hfz22_4
  try clear hfz22_5
  try clear hfz22_6
  try clear hfz4_0
  try clear hfz4_1
  try clear hfz4_2
  try clear hfz4_3
  try clear hfz4_4
  try clear hfz4_5
  try clear hfz4_6
  try clear hfz8_0
  try clear hfz8_1
  try clear hfz8_2
  try clear hfz8_3
  try clear hfz8_4
  try clear hfz8_5
  try clear hfz8_6
  obtain ⟨kq, x31_1, rfl, HA, HJ1, BK195, HB⟩ := hcut
  cases kq with
  | zero => exact absurd HA.out (by simp [tasks_mayTask.j0])
  | succ kj1 =>
   have H := HA.out
   clear HA
   simp only [tasks_mayTask.j0] at H
   by_cases c24 : x31_1 = true
   ·subst c24
    have H1 : (some false) = some r := by rw [if_pos rfl] at H; exact H
    clear H
    have H := H1
    clear H1
    obtain rfl := Option.some.inj H
    go_wp2
    go_ret
    exact ⟨by first | rfl | (simp [zp, zq] <;> rfl) | (simp [*, zp, zq] <;> rfl), by repeat with_reducible first | exact HB.out | apply zd | apply za | apply ze | refine zk ?_ GE195.out⟩
   ·replace c24 := Bool.eq_false_iff.mpr c24
    subst c24
    have H1 : (if a0_4 = (-1) then (if a0_3 ≥ 0 then (if a0_6 ≥ 1 then (some (decide (a0_6 ≤ 32))) else (some false)) else (some false)) else (if a0_3 = (-1) then (if a0_4 ≥ 0 then (if a0_6 = 0 then (some ((l0_5.length : Int) == 1)) else (some false)) else (some false)) else (some false))) = some r := by rw [if_neg (show ¬ (false = true) by decide)] at H; exact H
    clear H
    have H := H1
    clear H1
    by_cases c25 : a0_4 = (-1)
    ·rw [if_pos c25] at H
     have c25b0 : (a0_4 == (-1)) = true := beq_iff_eq.mpr c25
     have c25b1 : (a0_4 != (-1)) = false := bne_eq_false_iff_eq.mpr c25
     clear c25
     by_cases c26 : a0_3 ≥ 0
     ·rw [if_pos c26] at H
      have c26b0 : decide (0 ≤ a0_3) = true := decide_eq_true c26
      clear c26
      by_cases c27 : a0_6 ≥ 1
      ·rw [if_pos c27] at H
       have c27b0 : decide (1 ≤ a0_6) = true := decide_eq_true c27
       clear c27
       obtain rfl := Option.some.inj H
       have hcz28_0 : wc.cell? ⟨gb195, 0, none⟩ = some (.int .i64 a0_0) := (zg BK195.out 0).trans rfl
       have hcz28_1 : wc.cell? ⟨gb195, 1, none⟩ = some (.int .i64 a0_1) := (zg BK195.out 1).trans rfl
       have hcz28_2 : wc.cell? ⟨gb195, 2, none⟩ = some (.int .i64 a0_2) := (zg BK195.out 2).trans rfl
       have hcz28_3 : wc.cell? ⟨gb195, 3, none⟩ = some (.int .i64 a0_3) := (zg BK195.out 3).trans rfl
       have hcz28_4 : wc.cell? ⟨gb195, 4, none⟩ = some (.int .i64 a0_4) := (zg BK195.out 4).trans rfl
       have hcz28_5 : wc.cell? ⟨gb195, 5, none⟩ = some (.slice A0_5 l0_5.length c0_5) := (zg BK195.out 5).trans rfl
       have hcz28_6 : wc.cell? ⟨gb195, 6, none⟩ = some (.int .i64 a0_6) := (zg BK195.out 6).trans rfl
       have hfz28_0 := zf BK195.out 0
       have hfz28_1 := zf BK195.out 1
       have hfz28_2 := zf BK195.out 2
       have hfz28_3 := zf BK195.out 3
       have hfz28_4 := zf BK195.out 4
       have hfz28_5 := zf BK195.out 5
       have hfz28_6 := zf BK195.out 6
       go_wp2
       go_ret
       exact ⟨by first | rfl | (simp [zp, zq] <;> rfl) | (simp [*, zp, zq] <;> rfl), by repeat with_reducible first | exact HB.out | apply zd | apply za | apply ze | refine zk ?_ GE195.out⟩
      ·rw [if_neg c27] at H
       have c27b0 : decide (1 ≤ a0_6) = false := decide_eq_false c27
       clear c27
       obtain rfl := Option.some.inj H
       have hcz29_0 : wc.cell? ⟨gb195, 0, none⟩ = some (.int .i64 a0_0) := (zg BK195.out 0).trans rfl
       have hcz29_1 : wc.cell? ⟨gb195, 1, none⟩ = some (.int .i64 a0_1) := (zg BK195.out 1).trans rfl
       have hcz29_2 : wc.cell? ⟨gb195, 2, none⟩ = some (.int .i64 a0_2) := (zg BK195.out 2).trans rfl
       have hcz29_3 : wc.cell? ⟨gb195, 3, none⟩ = some (.int .i64 a0_3) := (zg BK195.out 3).trans rfl
       have hcz29_4 : wc.cell? ⟨gb195, 4, none⟩ = some (.int .i64 a0_4) := (zg BK195.out 4).trans rfl
       have hcz29_5 : wc.cell? ⟨gb195, 5, none⟩ = some (.slice A0_5 l0_5.length c0_5) := (zg BK195.out 5).trans rfl
       have hcz29_6 : wc.cell? ⟨gb195, 6, none⟩ = some (.int .i64 a0_6) := (zg BK195.out 6).trans rfl
       have hfz29_0 := zf BK195.out 0
       have hfz29_1 := zf BK195.out 1
       have hfz29_2 := zf BK195.out 2
       have hfz29_3 := zf BK195.out 3
       have hfz29_4 := zf BK195.out 4
       have hfz29_5 := zf BK195.out 5
       have hfz29_6 := zf BK195.out 6
       go_wp2
       go_ret
       exact ⟨by first | rfl | (simp [zp, zq] <;> rfl) | (simp [*, zp, zq] <;> rfl), by repeat with_reducible first | exact HB.out | apply zd | apply za | apply ze | refine zk ?_ GE195.out⟩
     ·rw [if_neg c26] at H
      have c26b0 : decide (0 ≤ a0_3) = false := decide_eq_false c26
      clear c26
      obtain rfl := Option.some.inj H
      have hcz30_0 : wc.cell? ⟨gb195, 0, none⟩ = some (.int .i64 a0_0) := (zg BK195.out 0).trans rfl
      have hcz30_1 : wc.cell? ⟨gb195, 1, none⟩ = some (.int .i64 a0_1) := (zg BK195.out 1).trans rfl
      have hcz30_2 : wc.cell? ⟨gb195, 2, none⟩ = some (.int .i64 a0_2) := (zg BK195.out 2).trans rfl
      have hcz30_3 : wc.cell? ⟨gb195, 3, none⟩ = some (.int .i64 a0_3) := (zg BK195.out 3).trans rfl
      have hcz30_4 : wc.cell? ⟨gb195, 4, none⟩ = some (.int .i64 a0_4) := (zg BK195.out 4).trans rfl
      have hcz30_5 : wc.cell? ⟨gb195, 5, none⟩ = some (.slice A0_5 l0_5.length c0_5) := (zg BK195.out 5).trans rfl
      have hcz30_6 : wc.cell? ⟨gb195, 6, none⟩ = some (.int .i64 a0_6) := (zg BK195.out 6).trans rfl
      have hfz30_0 := zf BK195.out 0
      have hfz30_1 := zf BK195.out 1
      have hfz30_2 := zf BK195.out 2
      have hfz30_3 := zf BK195.out 3
      have hfz30_4 := zf BK195.out 4
      have hfz30_5 := zf BK195.out 5
      have hfz30_6 := zf BK195.out 6
      go_wp2
      go_ret
      exact ⟨by first | rfl | (simp [zp, zq] <;> rfl) | (simp [*, zp, zq] <;> rfl), by repeat with_reducible first | exact HB.out | apply zd | apply za | apply ze | refine zk ?_ GE195.out⟩
    ·rw [if_neg c25] at H
     have c25b0 : (a0_4 == (-1)) = false := beq_eq_false_iff_ne.mpr c25
     have c25b1 : (a0_4 != (-1)) = true := bne_iff_ne.mpr c25
     by_cases c31 : a0_3 = (-1)
     ·rw [if_pos c31] at H
      have c31b0 : (a0_3 == (-1)) = true := beq_iff_eq.mpr c31
      have c31b1 : (a0_3 != (-1)) = false := bne_eq_false_iff_eq.mpr c31
      clear c31
      by_cases c32 : a0_4 ≥ 0
      ·rw [if_pos c32] at H
       have c32b0 : decide (0 ≤ a0_4) = true := decide_eq_true c32
       clear c32
       by_cases c33 : a0_6 = 0
       ·rw [if_pos c33] at H
        have c33b0 : (a0_6 == 0) = true := beq_iff_eq.mpr c33
        have c33b1 : (a0_6 != 0) = false := bne_eq_false_iff_eq.mpr c33
        clear c33
        obtain rfl := Option.some.inj H
        have hcz34_0 : wc.cell? ⟨gb195, 0, none⟩ = some (.int .i64 a0_0) := (zg BK195.out 0).trans rfl
        have hcz34_1 : wc.cell? ⟨gb195, 1, none⟩ = some (.int .i64 a0_1) := (zg BK195.out 1).trans rfl
        have hcz34_2 : wc.cell? ⟨gb195, 2, none⟩ = some (.int .i64 a0_2) := (zg BK195.out 2).trans rfl
        have hcz34_3 : wc.cell? ⟨gb195, 3, none⟩ = some (.int .i64 a0_3) := (zg BK195.out 3).trans rfl
        have hcz34_4 : wc.cell? ⟨gb195, 4, none⟩ = some (.int .i64 a0_4) := (zg BK195.out 4).trans rfl
        have hcz34_5 : wc.cell? ⟨gb195, 5, none⟩ = some (.slice A0_5 l0_5.length c0_5) := (zg BK195.out 5).trans rfl
        have hcz34_6 : wc.cell? ⟨gb195, 6, none⟩ = some (.int .i64 a0_6) := (zg BK195.out 6).trans rfl
        have hfz34_0 := zf BK195.out 0
        have hfz34_1 := zf BK195.out 1
        have hfz34_2 := zf BK195.out 2
        have hfz34_3 := zf BK195.out 3
        have hfz34_4 := zf BK195.out 4
        have hfz34_5 := zf BK195.out 5
        have hfz34_6 := zf BK195.out 6
        go_wp2
        go_ret
        exact ⟨by first | rfl | (simp [zp, zq] <;> rfl) | (simp [*, zp, zq] <;> rfl), by repeat with_reducible first | exact HB.out | apply zd | apply za | apply ze | refine zk ?_ GE195.out⟩
       ·rw [if_neg c33] at H
        have c33b0 : (a0_6 == 0) = false := beq_eq_false_iff_ne.mpr c33
        have c33b1 : (a0_6 != 0) = true := bne_iff_ne.mpr c33
        obtain rfl := Option.some.inj H
        have hcz35_0 : wc.cell? ⟨gb195, 0, none⟩ = some (.int .i64 a0_0) := (zg BK195.out 0).trans rfl
        have hcz35_1 : wc.cell? ⟨gb195, 1, none⟩ = some (.int .i64 a0_1) := (zg BK195.out 1).trans rfl
        have hcz35_2 : wc.cell? ⟨gb195, 2, none⟩ = some (.int .i64 a0_2) := (zg BK195.out 2).trans rfl
        have hcz35_3 : wc.cell? ⟨gb195, 3, none⟩ = some (.int .i64 a0_3) := (zg BK195.out 3).trans rfl
        have hcz35_4 : wc.cell? ⟨gb195, 4, none⟩ = some (.int .i64 a0_4) := (zg BK195.out 4).trans rfl
        have hcz35_5 : wc.cell? ⟨gb195, 5, none⟩ = some (.slice A0_5 l0_5.length c0_5) := (zg BK195.out 5).trans rfl
        have hcz35_6 : wc.cell? ⟨gb195, 6, none⟩ = some (.int .i64 a0_6) := (zg BK195.out 6).trans rfl
        have hfz35_0 := zf BK195.out 0
        have hfz35_1 := zf BK195.out 1
        have hfz35_2 := zf BK195.out 2
        have hfz35_3 := zf BK195.out 3
        have hfz35_4 := zf BK195.out 4
        have hfz35_5 := zf BK195.out 5
        have hfz35_6 := zf BK195.out 6
        go_wp2
        go_ret
        exact ⟨by first | rfl | (simp [zp, zq] <;> rfl) | (simp [*, zp, zq] <;> rfl), by repeat with_reducible first | exact HB.out | apply zd | apply za | apply ze | refine zk ?_ GE195.out⟩
      ·rw [if_neg c32] at H
       have c32b0 : decide (0 ≤ a0_4) = false := decide_eq_false c32
       clear c32
       obtain rfl := Option.some.inj H
       have hcz36_0 : wc.cell? ⟨gb195, 0, none⟩ = some (.int .i64 a0_0) := (zg BK195.out 0).trans rfl
       have hcz36_1 : wc.cell? ⟨gb195, 1, none⟩ = some (.int .i64 a0_1) := (zg BK195.out 1).trans rfl
       have hcz36_2 : wc.cell? ⟨gb195, 2, none⟩ = some (.int .i64 a0_2) := (zg BK195.out 2).trans rfl
       have hcz36_3 : wc.cell? ⟨gb195, 3, none⟩ = some (.int .i64 a0_3) := (zg BK195.out 3).trans rfl
       have hcz36_4 : wc.cell? ⟨gb195, 4, none⟩ = some (.int .i64 a0_4) := (zg BK195.out 4).trans rfl
       have hcz36_5 : wc.cell? ⟨gb195, 5, none⟩ = some (.slice A0_5 l0_5.length c0_5) := (zg BK195.out 5).trans rfl
       have hcz36_6 : wc.cell? ⟨gb195, 6, none⟩ = some (.int .i64 a0_6) := (zg BK195.out 6).trans rfl
       have hfz36_0 := zf BK195.out 0
       have hfz36_1 := zf BK195.out 1
       have hfz36_2 := zf BK195.out 2
       have hfz36_3 := zf BK195.out 3
       have hfz36_4 := zf BK195.out 4
       have hfz36_5 := zf BK195.out 5
       have hfz36_6 := zf BK195.out 6
       go_wp2
       go_ret
       exact ⟨by first | rfl | (simp [zp, zq] <;> rfl) | (simp [*, zp, zq] <;> rfl), by repeat with_reducible first | exact HB.out | apply zd | apply za | apply ze | refine zk ?_ GE195.out⟩
     ·rw [if_neg c31] at H
      have c31b0 : (a0_3 == (-1)) = false := beq_eq_false_iff_ne.mpr c31
      have c31b1 : (a0_3 != (-1)) = true := bne_iff_ne.mpr c31
      obtain rfl := Option.some.inj H
      have hcz37_0 : wc.cell? ⟨gb195, 0, none⟩ = some (.int .i64 a0_0) := (zg BK195.out 0).trans rfl
      have hcz37_1 : wc.cell? ⟨gb195, 1, none⟩ = some (.int .i64 a0_1) := (zg BK195.out 1).trans rfl
      have hcz37_2 : wc.cell? ⟨gb195, 2, none⟩ = some (.int .i64 a0_2) := (zg BK195.out 2).trans rfl
      have hcz37_3 : wc.cell? ⟨gb195, 3, none⟩ = some (.int .i64 a0_3) := (zg BK195.out 3).trans rfl
      have hcz37_4 : wc.cell? ⟨gb195, 4, none⟩ = some (.int .i64 a0_4) := (zg BK195.out 4).trans rfl
      have hcz37_5 : wc.cell? ⟨gb195, 5, none⟩ = some (.slice A0_5 l0_5.length c0_5) := (zg BK195.out 5).trans rfl
      have hcz37_6 : wc.cell? ⟨gb195, 6, none⟩ = some (.int .i64 a0_6) := (zg BK195.out 6).trans rfl
      have hfz37_0 := zf BK195.out 0
      have hfz37_1 := zf BK195.out 1
      have hfz37_2 := zf BK195.out 2
      have hfz37_3 := zf BK195.out 3
      have hfz37_4 := zf BK195.out 4
      have hfz37_5 := zf BK195.out 5
      have hfz37_6 := zf BK195.out 6
      go_wp2
      go_ret
      exact ⟨by first | rfl | (simp [zp, zq] <;> rfl) | (simp [*, zp, zq] <;> rfl), by repeat with_reducible first | exact HB.out | apply zd | apply za | apply ze | refine zk ?_ GE195.out⟩
end Go.Proofs.YtfondhcppjkchaaGreat.Q
