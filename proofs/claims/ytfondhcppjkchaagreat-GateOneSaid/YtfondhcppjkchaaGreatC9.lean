import Derived.Test.YtfondhcppjkchaaGreatC3
set_option maxHeartbeats 40000000
set_option maxRecDepth 100000
set_option linter.unusedVariables false
set_option linter.unusedSimpArgs false
namespace Go.Proofs.YtfondhcppjkchaaGreat.Q
open Go.RowKit Go.Proofs.YtfondhcppjkchaaGreatW.PrintWords Go.Proofs.YtfondhcppjkchaaGreatW.PrintLast Go.Proofs.YtfondhcppjkchaaGreatW.PrintMore
attribute [local go_sem] max2_int min2_int max_two min_two max_three min_three max_four min_four
def demand_May_1.f (a0_0 : Int) (a0_1 : Int) (a0_2 : Int) : Option (Bool) := if a0_0 < 0 then (some true) else (if a0_0 > 1125899906842624 then (some true) else (if a0_1 ≤ a0_0 then (some true) else (if a0_1 > 2251799813685248 then (some true) else (if a0_2 < 1 then (some true) else (some (decide (a0_2 > 1048576)))))))
theorem demand_May_1.calls (a0_0 : Int) (a0_1 : Int) (a0_2 : Int) (r : Bool) (w : World) (h : demand_May_1.f a0_0 a0_1 a0_2 = some r) :
  Calls Tryz.prog 104 #[.agg #[.int .i64 a0_0, .int .i64 a0_1, .int .i64 a0_2]] w fun e w' => e = .returned (.bool r) ∧ Below w.heap.size w w' := by
 have hu61 := Tryz.underlying61
 have HB := zb.mk (Below.refl w.heap.size w)
 have H : (if a0_0 < 0 then (some true) else (if a0_0 > 1125899906842624 then (some true) else (if a0_1 ≤ a0_0 then (some true) else (if a0_1 > 2251799813685248 then (some true) else (if a0_2 < 1 then (some true) else (some (decide (a0_2 > 1048576)))))))) = some r := h
 clear h
 refine dite (a0_0 < 0) (fun c2 => ?pp1) (fun c2 => ?nn1)
 case' nn1 =>
  rw [if_neg c2] at H
  have c2b0 : decide (a0_0 < 0) = false := decide_eq_false c2
  clear c2
  refine dite (a0_0 > 1125899906842624) (fun c5 => ?pp2) (fun c5 => ?nn2)
  case' nn2 =>
   rw [if_neg c5] at H
   have c5b0 : decide (1125899906842624 < a0_0) = false := decide_eq_false c5
   clear c5
   refine dite (a0_1 ≤ a0_0) (fun c8 => ?pp3) (fun c8 => ?nn3)
   case' nn3 =>
    rw [if_neg c8] at H
    have c8b0 : decide (a0_1 ≤ a0_0) = false := decide_eq_false c8
    clear c8
    refine dite (a0_1 > 2251799813685248) (fun c11 => ?pp4) (fun c11 => ?nn4)
    case' nn4 =>
     rw [if_neg c11] at H
     have c11b0 : decide (2251799813685248 < a0_1) = false := decide_eq_false c11
     clear c11
     refine dite (a0_2 < 1) (fun c14 => ?pp5) (fun c14 => ?nn5)
     case' nn5 =>
      rw [if_neg c14] at H
      have c14b0 : decide (a0_2 < 1) = false := decide_eq_false c14
      clear c14
      obtain rfl := Option.some.inj H
     case' pp5 =>
      rw [if_pos c14] at H
      have c14b0 : decide (a0_2 < 1) = true := decide_eq_true c14
      clear c14
      obtain rfl := Option.some.inj H
    case' pp4 =>
     rw [if_pos c11] at H
     have c11b0 : decide (2251799813685248 < a0_1) = true := decide_eq_true c11
     clear c11
     obtain rfl := Option.some.inj H
   case' pp3 =>
    rw [if_pos c8] at H
    have c8b0 : decide (a0_1 ≤ a0_0) = true := decide_eq_true c8
    clear c8
    obtain rfl := Option.some.inj H
  case' pp2 =>
   rw [if_pos c5] at H
   have c5b0 : decide (1125899906842624 < a0_0) = true := decide_eq_true c5
   clear c5
   obtain rfl := Option.some.inj H
 case' pp1 =>
  rw [if_pos c2] at H
  have c2b0 : decide (a0_0 < 0) = true := decide_eq_true c2
  clear c2
  obtain rfl := Option.some.inj H
 all_goals
  as_aux_lemma =>
   go_enter Tryz.func104, Tryz.ntmps104
   go_wp2_with (first | ((with_reducible refine zda (N := 1) rfl ?_); refine zaa ?hg (N := 1) ?hd (cs := #[.int .i64 a0_0, .int .i64 a0_1, .int .i64 a0_2]) (t := 61) ?hr ?_; (case hd => rfl); (case hg => rfl); (case hr => first | (go_simp; done) | (go_simp; rfl)); intro gb627 hg w17 hbox hb; have n0_ := zb.mk (zo (by repeat with_reducible first | exact HB.out | apply zd | apply za | apply ze) hb); have n1_ := zb.mk (hbox); have n2_ := zb.mk ((by rw [hg]; exact (zn (by repeat with_reducible first | exact HB.out | apply zd | apply za | apply ze)) : w.heap.size ≤ gb627)); have n3_ := zb.mk ((by rw [hg]; exact (zn (by repeat with_reducible first | exact HB.out | apply zd | apply za | apply ze)) : w.heap.size ≤ gb627)); clear HB; have HB := n0_; have BK627 := n1_; have GW627 := n2_; have GE627 := n3_; clear n0_ n1_ n2_ n3_; clear hb hbox hg; have hcz18_0 : w17.cell? ⟨gb627, 0, none⟩ = some (.int .i64 a0_0) := (zg BK627.out 0).trans rfl; have hcz18_1 : w17.cell? ⟨gb627, 1, none⟩ = some (.int .i64 a0_1) := (zg BK627.out 1).trans rfl; have hcz18_2 : w17.cell? ⟨gb627, 2, none⟩ = some (.int .i64 a0_2) := (zg BK627.out 2).trans rfl; have hfz18_0 := zf BK627.out 0; have hfz18_1 := zf BK627.out 1; have hfz18_2 := zf BK627.out 2))
   go_ret
   exact ⟨by first | rfl | (simp [zp, zq] <;> rfl) | (simp [*, zp, zq] <;> rfl), by repeat with_reducible first | exact HB.out | apply zd | apply za | apply ze | refine zk ?_ GE627.out⟩
end Go.Proofs.YtfondhcppjkchaaGreat.Q
