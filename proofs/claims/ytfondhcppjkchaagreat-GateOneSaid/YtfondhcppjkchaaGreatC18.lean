import Derived.Test.YtfondhcppjkchaaGreatC3
set_option maxHeartbeats 40000000
set_option maxRecDepth 100000
set_option linter.unusedVariables false
set_option linter.unusedSimpArgs false
namespace Go.Proofs.YtfondhcppjkchaaGreat.Q
open Go.RowKit Go.Proofs.YtfondhcppjkchaaGreatW.PrintWords Go.Proofs.YtfondhcppjkchaaGreatW.PrintLast Go.Proofs.YtfondhcppjkchaaGreatW.PrintMore
attribute [local go_sem] max2_int min2_int max_two min_two max_three min_three max_four min_four
def words_May.f (l0_0 : List Int) (l0_1 : List Int) : Option (Bool) := if (l0_1.length : Int) ≥ 1 then (if (l0_1.length : Int) ≤ 4096 then (some (decide ((l0_0.length : Int) ≤ 4096))) else (some false)) else (some false)
theorem words_May.calls (A0_0 : Option Addr) (c0_0 : Nat) (l0_0 : List Int) (A0_1 : Option Addr) (c0_1 : Nat) (l0_1 : List Int) (r : Bool) (w : World) (hr0_0 : Kd.C (Kd.int .i64) w A0_0 l0_0.length l0_0) (hc0_0 : l0_0.length ≤ c0_0) (hr0_1 : Kd.C (Kd.int .i64) w A0_1 l0_1.length l0_1) (hc0_1 : l0_1.length ≤ c0_1) (h : words_May.f l0_0 l0_1 = some r) :
  Calls Tryz.prog 51 #[.agg #[.slice A0_0 l0_0.length c0_0, .slice A0_1 l0_1.length c0_1]] w fun e w' => e = .returned (.bool r) ∧ Below w.heap.size w w' := by
 have hu27 := Tryz.underlying27
 have HR0_0 := zb.mk hr0_0
 have HC0_0 := zb.mk hc0_0
 clear hr0_0 hc0_0
 have HR0_1 := zb.mk hr0_1
 have HC0_1 := zb.mk hc0_1
 clear hr0_1 hc0_1
 have HB := zb.mk (Below.refl w.heap.size w)
 have H : (if (l0_1.length : Int) ≥ 1 then (if (l0_1.length : Int) ≤ 4096 then (some (decide ((l0_0.length : Int) ≤ 4096))) else (some false)) else (some false)) = some r := h
 clear h
 refine dite ((l0_1.length : Int) ≥ 1) (fun c2 => ?pp1) (fun c2 => ?nn1)
 case' nn1 =>
  rw [if_neg c2] at H
  have c2b0 : decide (1 ≤ (l0_1.length : Int)) = false := decide_eq_false c2
  have c2b1 : decide (1 ≤ l0_1.length) = false := decide_eq_false (by omega)
  clear c2
  obtain rfl := Option.some.inj H
 case' pp1 =>
  rw [if_pos c2] at H
  have c2b0 : decide (1 ≤ (l0_1.length : Int)) = true := decide_eq_true c2
  have c2b1 : decide (1 ≤ l0_1.length) = true := decide_eq_true (by omega)
  clear c2
  refine dite ((l0_1.length : Int) ≤ 4096) (fun c3 => ?pp2) (fun c3 => ?nn2)
  case' nn2 =>
   rw [if_neg c3] at H
   have c3b0 : decide ((l0_1.length : Int) ≤ 4096) = false := decide_eq_false c3
   have c3b1 : decide (l0_1.length ≤ 4096) = false := decide_eq_false (by omega)
   clear c3
   obtain rfl := Option.some.inj H
  case' pp2 =>
   rw [if_pos c3] at H
   have c3b0 : decide ((l0_1.length : Int) ≤ 4096) = true := decide_eq_true c3
   have c3b1 : decide (l0_1.length ≤ 4096) = true := decide_eq_true (by omega)
   clear c3
   obtain rfl := Option.some.inj H
 all_goals
  as_aux_lemma =>
   go_enter Tryz.func51, Tryz.ntmps51
   go_wp2_with (first | ((with_reducible refine zda (N := 1) rfl ?_); (try (refine zta (by rfl) ?_; dsimp only)); refine zaa ?hg (N := 1) ?hd (cs := #[.slice A0_0 l0_0.length c0_0, .slice A0_1 l0_1.length c0_1]) (t := 27) ?hr ?_; (case hd => rfl); (case hg => rfl); (case hr => first | (go_simp; done) | (go_simp; rfl)); intro gb256 hg w8 hbox hb; have n0_ := zb.mk (zo (by repeat with_reducible first | exact HB.out | apply zd | apply za | apply ze) hb); have n1_ := zb.mk (hbox); have n2_ := zb.mk ((by rw [hg]; exact (zn (by repeat with_reducible first | exact HB.out | apply zd | apply za | apply ze)) : w.heap.size ≤ gb256)); have n3_ := zb.mk ((by rw [hg]; exact (zn (by repeat with_reducible first | exact HB.out | apply zd | apply za | apply ze)) : w.heap.size ≤ gb256)); clear HB; have HB := n0_; have BK256 := n1_; have GW256 := n2_; have GE256 := n3_; clear n0_ n1_ n2_ n3_; clear hb hbox hg; have hcz9_0 : w8.cell? ⟨gb256, 0, none⟩ = some (.slice A0_0 l0_0.length c0_0) := (zg BK256.out 0).trans rfl; have hcz9_1 : w8.cell? ⟨gb256, 1, none⟩ = some (.slice A0_1 l0_1.length c0_1) := (zg BK256.out 1).trans rfl; have hfz9_0 := zf BK256.out 0; have hfz9_1 := zf BK256.out 1))
   go_ret
   exact ⟨by first | rfl | (simp [zp, zq] <;> rfl) | (simp [*, zp, zq] <;> rfl), by repeat with_reducible first | exact HB.out | apply zd | apply za | apply ze | refine zk ?_ GE256.out⟩
end Go.Proofs.YtfondhcppjkchaaGreat.Q
