-- Lean text written by a program of this session (turned after the kit's print), checked by Lean.
import Derived.Test.YtlmmdpdkddmklabQx0
import Derived.Test.YtlmmdpdkddmklabQx1
import Derived.Test.YtlmmdpdkddmklabQx2
import Derived.Test.YtlmmdpdkddmklabQx3
import Derived.Test.YtlmmdpdkddmklabHand
namespace Go.Proofs.Ytlmmdpdkddmklab.Q
open Go.RowKit Go.Proofs.YtlmmdpdkddmklabW.PrintWords Go.Proofs.YtlmmdpdkddmklabW.PrintLast Go.Proofs.YtlmmdpdkddmklabW.PrintMore
attribute [local go_sem] max2_int min2_int max_two min_two max_three min_three max_four min_four   -- for this text's walks alone
set_option linter.unusedVariables false
set_option linter.unusedSimpArgs false

/-! ### carillonlaw23_DemandMore: function 6 -/
mutual
def carillonlaw23_DemandMore.j0 : Nat → List (S38) → Int → Int → Int → List (S38) → Bool → Int → Int → Int → Option (Bool)
  | 0, _, _, _, _, _, _, _, _, _ => none
  | k + 1, x0, x2, x3, x4, x11, x42, x253000, x253001, x253002 => if x42 = true then ((carillonlaw23_works.f k).bind fun t260 => (some t260)) else ((carillonlaw23_copied.f x0).bind fun t261 => ((demand_Of.f k t261 (wrap64 (x2)) (wrap64 (x3))).bind fun bt264 => ((carillonlaw23_copied.f x11).bind fun t266 => ((demand_Of.f k t266 (wrap64 (x2)) (wrap64 (x3))).bind fun bt269 => (if bt264.2 = 0 then (if bt269.2 = 0 then (if bt269.1 < bt264.1 then (carillonlaw23_DemandMore.j1 k x0 x4 x11 true) else (carillonlaw23_DemandMore.j1 k x0 x4 x11 (decide (bt269.1 > (wrap64 (bt264.1 + x253002)))))) else (carillonlaw23_DemandMore.j1 k x0 x4 x11 true)) else (carillonlaw23_DemandMore.j1 k x0 x4 x11 true))))))
def carillonlaw23_DemandMore.j1 : Nat → List (S38) → Int → List (S38) → Bool → Option (Bool)
  | 0, _, _, _, _ => none
  | k + 1, x0, x4, x11, x82 => if x82 = true then (some false) else ((carillonlaw23_copied.f x0).bind fun t271 => ((demand_Worst.f k t271 3).bind fun bt274 => ((carillonlaw23_copied.f x11).bind fun t278 => ((demand_Worst.f k t278 3).bind fun bt281 => (if bt274.2.2.2 = 0 then (if bt281.2.2.2 = 0 then (if bt274.2.2.1 = true then (if bt281.2.2.1 = true then (if bt281.1 > bt274.1 then (carillonlaw23_DemandMore.j2 k x4 x11 bt281.1 bt281.2.1 bt281.2.2.1 true) else (if bt281.1 = bt274.1 then (carillonlaw23_DemandMore.j2 k x4 x11 bt281.1 bt281.2.1 bt281.2.2.1 (decide (bt281.2.1 > bt274.2.1))) else (carillonlaw23_DemandMore.j2 k x4 x11 bt281.1 bt281.2.1 bt281.2.2.1 false))) else (carillonlaw23_DemandMore.j2 k x4 x11 bt281.1 bt281.2.1 bt281.2.2.1 true)) else (carillonlaw23_DemandMore.j2 k x4 x11 bt281.1 bt281.2.1 bt281.2.2.1 false)) else (carillonlaw23_DemandMore.j2 k x4 x11 bt281.1 bt281.2.1 bt281.2.2.1 true)) else (carillonlaw23_DemandMore.j2 k x4 x11 bt281.1 bt281.2.1 bt281.2.2.1 true))))))
def carillonlaw23_DemandMore.j2 : Nat → Int → List (S38) → Int → Int → Bool → Bool → Option (Bool)
  | 0, _, _, _, _, _, _ => none
  | k + 1, x4, x11, x20, x21, x22, x129 => if x129 = true then (some false) else (carillonlaw23_DemandMore.l0 k x4 x11 x20 x21 x22 0)
def carillonlaw23_DemandMore.l0 : Nat → Int → List (S38) → Int → Int → Bool → Int → Option (Bool)
  | 0, _, _, _, _, _, _ => none
  | k + 1, x4, x11, x20, x21, x22, x24 => if x24 < (x11.length : Int) then (if 0 ≤ x24 then ((some (x11.set (x24 : Int).toNat (⟨wrap64 (((rd_T38 x11 x24).f0) + (wrap64 (x4))), (rd_T38 x11 x24).f1, (rd_T38 x11 x24).f2⟩ : S38) : List (S38))).bind fun y286 => (carillonlaw23_DemandMore.l0 k x4 (y286.set (x24 : Int).toNat (⟨(rd_T38 y286 x24).f0, wrap64 (((rd_T38 y286 x24).f1) + (wrap64 (x4))), (rd_T38 y286 x24).f2⟩ : S38)) x20 x21 x22 (wrap64 (x24 + 1)))) else (none)) else ((carillonref23_May.f k x11).bind fun t289 => (if t289 = true then ((demand_Worst.f k x11 3).bind fun bt290 => (if bt290.2.2.2 = 0 then (if (bt290.2.2.1 == x22) = true then (if x22 = true then (if bt290.1 = (wrap64 (x20 + (wrap64 (x4)))) then (if bt290.2.1 = (wrap64 (x21 + (wrap64 (x4)))) then ((carillonlaw23_works.f k).bind fun t294 => (some t294)) else (some false)) else (some false)) else ((carillonlaw23_works.f k).bind fun t295 => (some t295))) else (some false)) else (some false))) else ((carillonlaw23_works.f k).bind fun t296 => (some t296))))
end
def carillonlaw23_DemandMore.f (k : Nat) (l0 : List (S38)) (a1_0 : Int) (a1_1 : Int) (a1_2 : Int) (a2 : Int) (a3 : Int) (a4 : Int) : Option (Bool) := (carillonlaw23_copied.f l0).bind fun t253 => (if t253.length < 5864062014805 then ((some (t253 ++ [(⟨a1_0, a1_1, a1_2⟩ : S38)] : List (S38))).bind fun y256 => (if (l0.length : Int) > 100 then (carillonlaw23_DemandMore.j0 k l0 a2 a3 a4 y256 true a1_0 a1_1 a1_2) else ((carillonref23_May.f k y256).bind fun t259 => (carillonlaw23_DemandMore.j0 k l0 a2 a3 a4 y256 (!t259) a1_0 a1_1 a1_2)))) else (none))
theorem carillonlaw23_DemandMore.mono_l : ∀ k, (∀ y0 y1 y2 y3 y4 y5 y6 y7 y8, LeO (carillonlaw23_DemandMore.j0 k y0 y1 y2 y3 y4 y5 y6 y7 y8) (carillonlaw23_DemandMore.j0 (k + 1) y0 y1 y2 y3 y4 y5 y6 y7 y8)) ∧ (∀ y0 y1 y2 y3, LeO (carillonlaw23_DemandMore.j1 k y0 y1 y2 y3) (carillonlaw23_DemandMore.j1 (k + 1) y0 y1 y2 y3)) ∧ (∀ y0 y1 y2 y3 y4 y5, LeO (carillonlaw23_DemandMore.j2 k y0 y1 y2 y3 y4 y5) (carillonlaw23_DemandMore.j2 (k + 1) y0 y1 y2 y3 y4 y5)) ∧ (∀ y0 y1 y2 y3 y4 y5, LeO (carillonlaw23_DemandMore.l0 k y0 y1 y2 y3 y4 y5) (carillonlaw23_DemandMore.l0 (k + 1) y0 y1 y2 y3 y4 y5))
  | 0 => ⟨fun _ _ _ _ _ _ _ _ _ r h => by simp [carillonlaw23_DemandMore.j0] at h, fun _ _ _ _ r h => by simp [carillonlaw23_DemandMore.j1] at h, fun _ _ _ _ _ _ r h => by simp [carillonlaw23_DemandMore.j2] at h, fun _ _ _ _ _ _ r h => by simp [carillonlaw23_DemandMore.l0] at h⟩
  | k + 1 => by
    obtain ⟨ih0, ih1, ih2, ih3⟩ := carillonlaw23_DemandMore.mono_l k
    refine ⟨?_, ?_, ?_, ?_⟩
    · intro y0 y1 y2 y3 y4 y5 y6 y7 y8
      unfold carillonlaw23_DemandMore.j0
      repeat' first
      | (with_reducible exact ih0 _ _ _ _ _ _ _ _ _)
      | (with_reducible exact ih1 _ _ _ _)
      | (with_reducible exact ih2 _ _ _ _ _ _)
      | (with_reducible exact ih3 _ _ _ _ _ _)
      | (with_reducible exact carillonlaw23_works.mono _)
      | (with_reducible exact carillonref23_May.mono _ _)
      | (with_reducible exact demand_Of.mono _ _ _ _)
      | (with_reducible exact demand_Worst.mono _ _ _)
      | (with_reducible exact LeO.refl _)
      | (with_reducible exact LeO.none _)
      | (with_reducible refine LeO.ite ?_ ?_)
      | (with_reducible refine LeO.bind ?_ (fun _ => ?_))
      | exact ih0 _ _ _ _ _ _ _ _ _
      | exact ih1 _ _ _ _
      | exact ih2 _ _ _ _ _ _
      | exact ih3 _ _ _ _ _ _
      | exact carillonlaw23_works.mono _
      | exact carillonref23_May.mono _ _
      | exact demand_Of.mono _ _ _ _
      | exact demand_Worst.mono _ _ _
      | exact LeO.none _
      | refine LeO.ite ?_ ?_
      | refine LeO.bind ?_ (fun _ => ?_)
    · intro y0 y1 y2 y3
      unfold carillonlaw23_DemandMore.j1
      repeat' first
      | (with_reducible exact ih0 _ _ _ _ _ _ _ _ _)
      | (with_reducible exact ih1 _ _ _ _)
      | (with_reducible exact ih2 _ _ _ _ _ _)
      | (with_reducible exact ih3 _ _ _ _ _ _)
      | (with_reducible exact carillonlaw23_works.mono _)
      | (with_reducible exact carillonref23_May.mono _ _)
      | (with_reducible exact demand_Of.mono _ _ _ _)
      | (with_reducible exact demand_Worst.mono _ _ _)
      | (with_reducible exact LeO.refl _)
      | (with_reducible exact LeO.none _)
      | (with_reducible refine LeO.ite ?_ ?_)
      | (with_reducible refine LeO.bind ?_ (fun _ => ?_))
      | exact ih0 _ _ _ _ _ _ _ _ _
      | exact ih1 _ _ _ _
      | exact ih2 _ _ _ _ _ _
      | exact ih3 _ _ _ _ _ _
      | exact carillonlaw23_works.mono _
      | exact carillonref23_May.mono _ _
      | exact demand_Of.mono _ _ _ _
      | exact demand_Worst.mono _ _ _
      | exact LeO.none _
      | refine LeO.ite ?_ ?_
      | refine LeO.bind ?_ (fun _ => ?_)
    · intro y0 y1 y2 y3 y4 y5
      unfold carillonlaw23_DemandMore.j2
      repeat' first
      | (with_reducible exact ih0 _ _ _ _ _ _ _ _ _)
      | (with_reducible exact ih1 _ _ _ _)
      | (with_reducible exact ih2 _ _ _ _ _ _)
      | (with_reducible exact ih3 _ _ _ _ _ _)
      | (with_reducible exact carillonlaw23_works.mono _)
      | (with_reducible exact carillonref23_May.mono _ _)
      | (with_reducible exact demand_Of.mono _ _ _ _)
      | (with_reducible exact demand_Worst.mono _ _ _)
      | (with_reducible exact LeO.refl _)
      | (with_reducible exact LeO.none _)
      | (with_reducible refine LeO.ite ?_ ?_)
      | (with_reducible refine LeO.bind ?_ (fun _ => ?_))
      | exact ih0 _ _ _ _ _ _ _ _ _
      | exact ih1 _ _ _ _
      | exact ih2 _ _ _ _ _ _
      | exact ih3 _ _ _ _ _ _
      | exact carillonlaw23_works.mono _
      | exact carillonref23_May.mono _ _
      | exact demand_Of.mono _ _ _ _
      | exact demand_Worst.mono _ _ _
      | exact LeO.none _
      | refine LeO.ite ?_ ?_
      | refine LeO.bind ?_ (fun _ => ?_)
    · intro y0 y1 y2 y3 y4 y5
      unfold carillonlaw23_DemandMore.l0
      repeat' first
      | (with_reducible exact ih0 _ _ _ _ _ _ _ _ _)
      | (with_reducible exact ih1 _ _ _ _)
      | (with_reducible exact ih2 _ _ _ _ _ _)
      | (with_reducible exact ih3 _ _ _ _ _ _)
      | (with_reducible exact carillonlaw23_works.mono _)
      | (with_reducible exact carillonref23_May.mono _ _)
      | (with_reducible exact demand_Of.mono _ _ _ _)
      | (with_reducible exact demand_Worst.mono _ _ _)
      | (with_reducible exact LeO.refl _)
      | (with_reducible exact LeO.none _)
      | (with_reducible refine LeO.ite ?_ ?_)
      | (with_reducible refine LeO.bind ?_ (fun _ => ?_))
      | exact ih0 _ _ _ _ _ _ _ _ _
      | exact ih1 _ _ _ _
      | exact ih2 _ _ _ _ _ _
      | exact ih3 _ _ _ _ _ _
      | exact carillonlaw23_works.mono _
      | exact carillonref23_May.mono _ _
      | exact demand_Of.mono _ _ _ _
      | exact demand_Worst.mono _ _ _
      | exact LeO.none _
      | refine LeO.ite ?_ ?_
      | refine LeO.bind ?_ (fun _ => ?_)
theorem carillonlaw23_DemandMore.mono : ∀ a0 a1 a2 a3 a4 a5 a6 k, LeO (carillonlaw23_DemandMore.f k a0 a1 a2 a3 a4 a5 a6) (carillonlaw23_DemandMore.f (k + 1) a0 a1 a2 a3 a4 a5 a6) := by
  intro a0 a1 a2 a3 a4 a5 a6 k
  obtain ⟨ih0, ih1, ih2, ih3⟩ := carillonlaw23_DemandMore.mono_l k
  unfold carillonlaw23_DemandMore.f
  repeat' first
      | (with_reducible exact ih0 _ _ _ _ _ _ _ _ _)
      | (with_reducible exact ih1 _ _ _ _)
      | (with_reducible exact ih2 _ _ _ _ _ _)
      | (with_reducible exact ih3 _ _ _ _ _ _)
      | (with_reducible exact carillonlaw23_works.mono _)
      | (with_reducible exact carillonref23_May.mono _ _)
      | (with_reducible exact demand_Of.mono _ _ _ _)
      | (with_reducible exact demand_Worst.mono _ _ _)
      | (with_reducible exact LeO.refl _)
      | (with_reducible exact LeO.none _)
      | (with_reducible refine LeO.ite ?_ ?_)
      | (with_reducible refine LeO.bind ?_ (fun _ => ?_))
      | exact ih0 _ _ _ _ _ _ _ _ _
      | exact ih1 _ _ _ _
      | exact ih2 _ _ _ _ _ _
      | exact ih3 _ _ _ _ _ _
      | exact carillonlaw23_works.mono _
      | exact carillonref23_May.mono _ _
      | exact demand_Of.mono _ _ _ _
      | exact demand_Worst.mono _ _ _
      | exact LeO.none _
      | refine LeO.ite ?_ ?_
      | refine LeO.bind ?_ (fun _ => ?_)
set_option maxHeartbeats 8000000 in
set_option maxRecDepth 100000 in
theorem carillonlaw23_DemandMore.calls (k : Nat) (A0 : Option Addr) (c0 : Nat) (l0 : List (S38)) (a1_0 : Int) (a1_1 : Int) (a1_2 : Int) (a2 : Int) (a3 : Int) (a4 : Int) (r : Bool) (w : World) (hr0 : Kd.C k38 w A0 l0.length l0) (hc0 : l0.length ≤ c0) (h : carillonlaw23_DemandMore.f k l0 a1_0 a1_1 a1_2 a2 a3 a4 = some r) :
    Calls Try.prog 6 #[.slice A0 l0.length c0, .agg #[.int .i64 a1_0, .int .i64 a1_1, .int .i64 a1_2], .int .u16 a2, .int .u16 a3, .int .u16 a4] w fun e w' => e = .returned (.bool r) ∧ Below w.heap.size w w' := by
  have hu38 := Try.underlying38
  have HR0 := Aside0.mk hr0
  have HC0 := Aside0.mk hc0
  clear hr0 hc0
  have HB := Aside0.mk (Below.refl w.heap.size w)
  have H : ((carillonlaw23_copied.f l0).bind fun t253 => (if t253.length < 5864062014805 then ((some (t253 ++ [(⟨a1_0, a1_1, a1_2⟩ : S38)] : List (S38))).bind fun y256 => (if (l0.length : Int) > 100 then (carillonlaw23_DemandMore.j0 k l0 a2 a3 a4 y256 true a1_0 a1_1 a1_2) else ((carillonref23_May.f k y256).bind fun t259 => (carillonlaw23_DemandMore.j0 k l0 a2 a3 a4 y256 (!t259) a1_0 a1_1 a1_2)))) else (none))) = some r := h
  clear h
  replace H := Option.bind_eq_some_iff.mp H
  obtain ⟨t253, A60, H⟩ := H
  replace H : (if t253.length < 5864062014805 then ((some (t253 ++ [(⟨a1_0, a1_1, a1_2⟩ : S38)] : List (S38))).bind fun y256 => (if (l0.length : Int) > 100 then (carillonlaw23_DemandMore.j0 k l0 a2 a3 a4 y256 true a1_0 a1_1 a1_2) else ((carillonref23_May.f k y256).bind fun t259 => (carillonlaw23_DemandMore.j0 k l0 a2 a3 a4 y256 (!t259) a1_0 a1_1 a1_2)))) else (none)) = some r := H
  have A6 := Aside0.mk A60
  clear A60
  by_cases c7 : t253.length < 5864062014805
  · rw [if_pos c7] at H
    have LMc7 := Aside0.mk c7
    clear c7
    obtain ⟨y256, hy256⟩ : ∃ y_ : List (S38), y_ = (t253 ++ [(⟨a1_0, a1_1, a1_2⟩ : S38)]) := ⟨_, rfl⟩
    replace H : (if (l0.length : Int) > 100 then (carillonlaw23_DemandMore.j0 k l0 a2 a3 a4 y256 true a1_0 a1_1 a1_2) else ((carillonref23_May.f k y256).bind fun t259 => (carillonlaw23_DemandMore.j0 k l0 a2 a3 a4 y256 (!t259) a1_0 a1_1 a1_2))) = some r := by first | (rw [hy256]; with_reducible exact H) | (have H2_ := (Option.bind_some _ _).symm.trans H; rw [hy256]; with_reducible exact H2_) | (have H2_ := (Option.bind_some _ _).symm.trans H; with_reducible exact H2_) | with_reducible exact H | (rw [hy256]; exact H) | exact H
    have Ny256 := Aside0.mk hy256
    clear hy256
    have HC8 := Aside0.mk H
    clear H
    go_enter Try.func6, Try.ntmps6
    go_upto_region 3 with (first | ((with_reducible refine gate_dst (N := 6) rfl ?_); refine box_event ?hg (N := 6) ?hd (cs := #[.int .i64 a1_0, .int .i64 a1_1, .int .i64 a1_2]) (t := 38) ?hr ?_; (case hd => rfl); (case hg => rfl); (case hr => first | (go_simp; done) | (go_simp; rfl)); intro gb252 hg w9 hbox hb; have n0_ := Aside0.mk (below_step (by repeat (first | (with_reducible first | exact HB.out | apply below_alloc | apply pw_below_drewN | apply below_drew1) | exact HB.out)) hb); have n1_ := Aside0.mk (hbox); have n2_ := Aside0.mk ((by rw [hg]; exact (below_size (by repeat (first | (with_reducible first | exact HB.out | apply below_alloc | apply pw_below_drewN | apply below_drew1) | exact HB.out))) : w.heap.size ≤ gb252)); have n3_ := Aside0.mk ((by rw [hg]; exact (below_size (by repeat (first | (with_reducible first | exact HB.out | apply below_alloc | apply pw_below_drewN | apply below_drew1) | exact HB.out))) : w.heap.size ≤ gb252)); clear HB; have HB := n0_; have BK252 := n1_; have GW252 := n2_; have GE252 := n3_; clear n0_ n1_ n2_ n3_; clear hb hbox hg) | ((with_reducible refine gate_callee (f := 10) rfl ?_); refine goesL_ (some 30) rfl rfl Try.func10 (by kernel_rfl) rfl #[.slice A0 l0.length c0] rfl (by (try simp only [List.map_toArray, List.map_cons, List.map_nil]); first | done | rfl | (simp only [List.length_drop, List.length_take]; rfl)) ?_; (with_reducible refine (carillonlaw23_copied.calls _ _ l0 t253 _ ?side1 ?side2 A6.out).mono ?_); (case side1 => repeat (first | exact (Kd.C_below HR0.out HB.out) | (with_reducible refine Kd.C_alloc ?_ _) | (with_reducible refine Kd.C_drewN ?_ _) | (with_reducible refine Kd.C_drew ?_))); (case side2 => exact HC0.out); rintro e w10 ⟨v254, rfl, ho0, hb⟩; refine ⟨_, rfl, ?_⟩; have n0_ := Aside0.mk (Kd.R_lower (Kd.R_newB ho0 (g := gb252) (o := .cells #[.int .i64 a1_0, .int .i64 a1_1, .int .i64 a1_2] 38 (0, 0)) (by (with_reducible repeat (first | refine blk_drewN ?_ _ | refine blk_drew ?_ | refine blk_alloc ?_ _)); exact BK252.out)) (below_size (by repeat (first | (with_reducible first | exact HB.out | apply below_alloc | apply pw_below_drewN | apply below_drew1 | refine below_set ?_ GE252.out) | exact HB.out)))); have n1_ := Aside0.mk (blk_below (g := gb252) (o := .cells #[.int .i64 a1_0, .int .i64 a1_1, .int .i64 a1_2] 38 (0, 0)) (by (with_reducible repeat (first | refine blk_drewN ?_ _ | refine blk_drew ?_ | refine blk_alloc ?_ _)); exact BK252.out) hb); have n2_ := Aside0.mk (below_step (by repeat (first | (with_reducible first | exact HB.out | apply below_alloc | apply pw_below_drewN | apply below_drew1 | refine below_set ?_ GE252.out) | exact HB.out)) hb); clear BK252; clear HB; have HO255 := n0_; have BK252 := n1_; have HB := n2_; clear n0_ n1_ n2_; (try clear hb); (try clear hb2); (try clear hk); (try clear hi); (try clear ho0); have hcz11_0 : w10.cell? ⟨gb252, 0, none⟩ = some (.int .i64 a1_0) := (blk_cell BK252.out 0).trans rfl; have hcz11_1 : w10.cell? ⟨gb252, 1, none⟩ = some (.int .i64 a1_1) := (blk_cell BK252.out 1).trans rfl; have hcz11_2 : w10.cell? ⟨gb252, 2, none⟩ = some (.int .i64 a1_2) := (blk_cell BK252.out 2).trans rfl; have hfz11_0 := blk_frozen BK252.out 0; have hfz11_1 := blk_frozen BK252.out 1; have hfz11_2 := blk_frozen BK252.out 2) | ((with_reducible refine gate_builtin (b := .append) (xs := #[.tmp 31, .tmp 33]) rfl ?_); at_builtin; refine Kd.R_append k38 (w0 := w) w.heap.size rfl (.tmp 31) (.tmp 33) 22 38 (.agg #[(.int .i64 0), (.int .i64 0), (.int .i64 0)]) 24 rfl Try.underlying22 info38 rfl (by decide) (by omega) v254 t253 (⟨a1_0, a1_1, a1_2⟩ : S38) [.int .i64 a1_0, .int .i64 a1_1, .int .i64 a1_2] (fun k_ => k_ ≠ gb252) (fun _ => False) rfl rfl ?aP (fun _ hk => hk.elim) ?aF ?aO ?aB ?aS ?aL ?_; (case aP => exact k38_mkM _ _ _ (⟨a1_0, a1_1, a1_2⟩ : S38)); (case aB => exact (by repeat (first | (with_reducible first | exact HB.out | apply below_alloc | apply pw_below_drewN | apply below_drew1 | refine below_set ?_ GE252.out) | exact HB.out))); (case aF => exact (fun k_ hk => Kd.freshB (g := gb252) (o := .cells #[.int .i64 a1_0, .int .i64 a1_1, .int .i64 a1_2] 38 (0, 0)) (by (with_reducible repeat (first | refine blk_drewN ?_ _ | refine blk_drew ?_ | refine blk_alloc ?_ _)); exact BK252.out) k_ hk)); (case aO => exact (by (with_reducible repeat (first | apply Kd.R_alloc | apply Kd.R_drewN | apply Kd.R_drew)); exact Kd.R_mono HO255.out (fun _ hk => hk.2))); (case aS => exact (below_size (by repeat (first | (with_reducible first | exact HB.out | apply below_alloc | apply pw_below_drewN | apply below_drew1 | refine below_set ?_ GE252.out) | exact HB.out)))); (case aL => have := LMc7.out; omega); intro v257 w12 ho hb hg hat; rw [← Ny256.out] at ho; have n0_ := Aside0.mk (blk_grown (g := gb252) (o := .cells #[.int .i64 a1_0, .int .i64 a1_1, .int .i64 a1_2] 38 (0, 0)) (by (with_reducible repeat (first | refine blk_drewN ?_ _ | refine blk_drew ?_ | refine blk_alloc ?_ _)); exact BK252.out) hg (Kd.R_away HO255.out (fun _ hk => hk.2))); have n1_ := Aside0.mk (hb); have n2_ := Aside0.mk (ho); clear BK252; clear HB; clear HO255; have BK252 := n0_; have HB := n1_; have HO258 := n2_; clear n0_ n1_ n2_; clear ho hb hg hat))
    (try simp only [Act.put, List.setIfInBounds_toArray, List.set_cons_zero, List.set_cons_succ])
    go_cut [42] (fun v42 wc => ∃ (kq : Nat) (x42_7 : Bool), v42 = .bool x42_7 ∧ Aside0 (carillonlaw23_DemandMore.j0 kq l0 a2 a3 a4 y256 x42_7 a1_0 a1_1 a1_2 = some r) ∧ Aside0 (kq ≤ k) ∧ Aside0 (Kd.R k38 38 wc w.heap.size (fun k_ => k_ ≠ gb252) v257 y256) ∧ Aside0 (wc.heap[gb252]? = some (.cells #[.int .i64 a1_0, .int .i64 a1_1, .int .i64 a1_2] 38 (0, 0))) ∧ Aside0 (Below w.heap.size w wc))
    case first =>
      as_aux_lemma =>
      have H := HC8.out
      clear HC8
      by_cases c13 : (l0.length : Int) > 100
      · rw [if_pos c13] at H
        have c13b0 : decide (100 < (l0.length : Int)) = true := decide_eq_true c13
        have c13b1 : decide (100 < l0.length) = true := decide_eq_true (by omega)
        clear c13
        (first | rw [c13b0] | (simp only [i64_w, i32_w]; rw [c13b0]) | skip)
        have H' := Aside0.mk H
        clear H
        go_wp2
        go_meet
        case rel => exact ⟨_, (true), (by first | rfl | (simp; done) | (simp [*]; done)), H', ⟨by first | omega | exact Nat.le_refl _⟩, ⟨by (with_reducible repeat (first | apply Kd.R_alloc | apply Kd.R_drewN | apply Kd.R_drew)); exact HO258.out⟩, ⟨by (with_reducible repeat (first | refine blk_drewN ?_ _ | refine blk_drew ?_ | refine blk_alloc ?_ _)); exact BK252.out⟩, ⟨by repeat (first | (with_reducible first | exact HB.out | apply below_alloc | apply pw_below_drewN | apply below_drew1 | refine below_set ?_ GE252.out) | exact HB.out)⟩⟩
      · rw [if_neg c13] at H
        have c13b0 : decide (100 < (l0.length : Int)) = false := decide_eq_false c13
        have c13b1 : decide (100 < l0.length) = false := decide_eq_false (by omega)
        clear c13
        (first | rw [c13b0] | (simp only [i64_w, i32_w]; rw [c13b0]) | skip)
        replace H := Option.bind_eq_some_iff.mp H
        obtain ⟨t259, A140, H⟩ := H
        replace H : (carillonlaw23_DemandMore.j0 k l0 a2 a3 a4 y256 (!t259) a1_0 a1_1 a1_2) = some r := H
        have A14 := Aside0.mk A140
        clear A140
        have H' := Aside0.mk H
        clear H
        obtain ⟨Ao15, co15, eo15⟩ := Kd.R_slice HO258.out
        subst eo15
        go_wp2_with (first | (go_at_call 14; (with_reducible refine (carillonref23_May.calls k _ _ y256 t259 _ ?side1 ?side2 A14.out).mono ?_); (case side1 => repeat (first | exact (Kd.R_reads' HO258.out).2.2 | (with_reducible refine Kd.C_alloc ?_ _) | (with_reducible refine Kd.C_drewN ?_ _) | (with_reducible refine Kd.C_drew ?_))); (case side2 => exact (Kd.R_reads' HO258.out).2.1); rintro e w16 ⟨rfl, hb⟩; have n0_ := Aside0.mk (Kd.R_below (by (with_reducible repeat (first | apply Kd.R_alloc | apply Kd.R_drewN | apply Kd.R_drew)); exact HO258.out) hb); have n1_ := Aside0.mk (blk_below (g := gb252) (o := .cells #[.int .i64 a1_0, .int .i64 a1_1, .int .i64 a1_2] 38 (0, 0)) (by (with_reducible repeat (first | refine blk_drewN ?_ _ | refine blk_drew ?_ | refine blk_alloc ?_ _)); exact BK252.out) hb); have n2_ := Aside0.mk (below_step (by repeat (first | (with_reducible first | exact HB.out | apply below_alloc | apply pw_below_drewN | apply below_drew1 | refine below_set ?_ GE252.out) | exact HB.out)) hb); clear HO258; clear BK252; clear HB; have HO258 := n0_; have BK252 := n1_; have HB := n2_; clear n0_ n1_ n2_; (try clear hb); (try clear hb2); (try clear hk); (try clear hi)))
        go_meet
        case rel => exact ⟨_, (!t259), (by first | rfl | (simp; done) | (simp [*]; done)), H', ⟨by first | omega | exact Nat.le_refl _⟩, ⟨by (with_reducible repeat (first | apply Kd.R_alloc | apply Kd.R_drewN | apply Kd.R_drew)); exact HO258.out⟩, ⟨by (with_reducible repeat (first | refine blk_drewN ?_ _ | refine blk_drew ?_ | refine blk_alloc ?_ _)); exact BK252.out⟩, ⟨by repeat (first | (with_reducible first | exact HB.out | apply below_alloc | apply pw_below_drewN | apply below_drew1 | refine below_set ?_ GE252.out) | exact HB.out)⟩⟩
    case rest =>
      as_aux_lemma =>
      clear HC8
      try clear c1
      try clear p2
      try clear c6
      try clear c7
      try clear c10
      try clear c13
      try clear c13b0
      try clear c13b1
      try clear hcz11_0
      try clear hcz11_1
      try clear hcz11_2
      try clear hfz11_0
      try clear hfz11_1
      try clear hfz11_2
      obtain ⟨kq, x42_7, rfl, HA, HJ7, HO_11, BK252, HB⟩ := hcut
      cases kq with
      | zero => exact absurd HA.out (by simp [carillonlaw23_DemandMore.j0])
      | succ kj7 =>
        have H := HA.out
        clear HA
        simp only [carillonlaw23_DemandMore.j0] at H
        by_cases c17 : x42_7 = true
        · subst c17
          have H1 : ((carillonlaw23_works.f kj7).bind fun t260 => (some t260)) = some r := by rw [if_pos rfl] at H; exact H
          clear H
          have H := H1
          clear H1
          replace H := Option.bind_eq_some_iff.mp H
          obtain ⟨t260, A180, H⟩ := H
          replace H : (some t260) = some r := H
          have A18 := Aside0.mk A180
          clear A180
          obtain rfl := Option.some.inj H
          go_wp2_with (first | ((with_reducible refine gate_callee (f := 8) rfl ?_); refine goesL_ (some 43) rfl rfl Try.func8 (by kernel_rfl) rfl #[] rfl (by (try simp only [List.map_toArray, List.map_cons, List.map_nil]); first | done | rfl | (simp only [List.length_drop, List.length_take]; rfl)) ?_; (with_reducible refine (carillonlaw23_works.calls kj7  t260 _ A18.out).mono ?_); rintro e w19 ⟨rfl, hb⟩; refine ⟨_, rfl, ?_⟩; have n0_ := Aside0.mk (Kd.R_below (by (with_reducible repeat (first | apply Kd.R_alloc | apply Kd.R_drewN | apply Kd.R_drew)); exact HO_11.out) hb); have n1_ := Aside0.mk (blk_below (g := gb252) (o := .cells #[.int .i64 a1_0, .int .i64 a1_1, .int .i64 a1_2] 38 (0, 0)) (by (with_reducible repeat (first | refine blk_drewN ?_ _ | refine blk_drew ?_ | refine blk_alloc ?_ _)); exact BK252.out) hb); have n2_ := Aside0.mk (below_step (by repeat (first | (with_reducible first | exact HB.out | apply below_alloc | apply pw_below_drewN | apply below_drew1 | refine below_set ?_ GE252.out) | exact HB.out)) hb); clear HO_11; clear BK252; clear HB; have HO_11 := n0_; have BK252 := n1_; have HB := n2_; clear n0_ n1_ n2_; (try clear hb); (try clear hb2); (try clear hk); (try clear hi)))
          go_ret
          exact ⟨by first | rfl | (simp [errW_none, errW_some] <;> rfl) | (simp [*, errW_none, errW_some] <;> rfl), by repeat (first | (with_reducible first | exact HB.out | apply below_alloc | apply pw_below_drewN | apply below_drew1 | refine below_set ?_ GE252.out) | exact HB.out)⟩
        · replace c17 := Bool.eq_false_iff.mpr c17
          subst c17
          have H1 : ((carillonlaw23_copied.f l0).bind fun t261 => ((demand_Of.f kj7 t261 (wrap64 (a2)) (wrap64 (a3))).bind fun bt264 => ((carillonlaw23_copied.f y256).bind fun t266 => ((demand_Of.f kj7 t266 (wrap64 (a2)) (wrap64 (a3))).bind fun bt269 => (if bt264.2 = 0 then (if bt269.2 = 0 then (if bt269.1 < bt264.1 then (carillonlaw23_DemandMore.j1 kj7 l0 a4 y256 true) else (carillonlaw23_DemandMore.j1 kj7 l0 a4 y256 (decide (bt269.1 > (wrap64 (bt264.1 + a1_2)))))) else (carillonlaw23_DemandMore.j1 kj7 l0 a4 y256 true)) else (carillonlaw23_DemandMore.j1 kj7 l0 a4 y256 true)))))) = some r := by rw [if_neg (show ¬ (false = true) by decide)] at H; exact H
          clear H
          have H := H1
          clear H1
          replace H := Option.bind_eq_some_iff.mp H
          obtain ⟨t261, A200, H⟩ := H
          replace H : ((demand_Of.f kj7 t261 (wrap64 (a2)) (wrap64 (a3))).bind fun bt264 => ((carillonlaw23_copied.f y256).bind fun t266 => ((demand_Of.f kj7 t266 (wrap64 (a2)) (wrap64 (a3))).bind fun bt269 => (if bt264.2 = 0 then (if bt269.2 = 0 then (if bt269.1 < bt264.1 then (carillonlaw23_DemandMore.j1 kj7 l0 a4 y256 true) else (carillonlaw23_DemandMore.j1 kj7 l0 a4 y256 (decide (bt269.1 > (wrap64 (bt264.1 + a1_2)))))) else (carillonlaw23_DemandMore.j1 kj7 l0 a4 y256 true)) else (carillonlaw23_DemandMore.j1 kj7 l0 a4 y256 true))))) = some r := H
          have A20 := Aside0.mk A200
          clear A200
          replace H := Option.bind_eq_some_iff.mp H
          obtain ⟨⟨t264, t265⟩, A210, H⟩ := H
          replace H : ((carillonlaw23_copied.f y256).bind fun t266 => ((demand_Of.f kj7 t266 (wrap64 (a2)) (wrap64 (a3))).bind fun bt269 => (if t265 = 0 then (if bt269.2 = 0 then (if bt269.1 < t264 then (carillonlaw23_DemandMore.j1 kj7 l0 a4 y256 true) else (carillonlaw23_DemandMore.j1 kj7 l0 a4 y256 (decide (bt269.1 > (wrap64 (t264 + a1_2)))))) else (carillonlaw23_DemandMore.j1 kj7 l0 a4 y256 true)) else (carillonlaw23_DemandMore.j1 kj7 l0 a4 y256 true)))) = some r := H
          have A21 := Aside0.mk A210
          clear A210
          replace H := Option.bind_eq_some_iff.mp H
          obtain ⟨t266, A220, H⟩ := H
          replace H : ((demand_Of.f kj7 t266 (wrap64 (a2)) (wrap64 (a3))).bind fun bt269 => (if t265 = 0 then (if bt269.2 = 0 then (if bt269.1 < t264 then (carillonlaw23_DemandMore.j1 kj7 l0 a4 y256 true) else (carillonlaw23_DemandMore.j1 kj7 l0 a4 y256 (decide (bt269.1 > (wrap64 (t264 + a1_2)))))) else (carillonlaw23_DemandMore.j1 kj7 l0 a4 y256 true)) else (carillonlaw23_DemandMore.j1 kj7 l0 a4 y256 true))) = some r := H
          have A22 := Aside0.mk A220
          clear A220
          replace H := Option.bind_eq_some_iff.mp H
          obtain ⟨⟨t269, t270⟩, A230, H⟩ := H
          replace H : (if t265 = 0 then (if t270 = 0 then (if t269 < t264 then (carillonlaw23_DemandMore.j1 kj7 l0 a4 y256 true) else (carillonlaw23_DemandMore.j1 kj7 l0 a4 y256 (decide (t269 > (wrap64 (t264 + a1_2)))))) else (carillonlaw23_DemandMore.j1 kj7 l0 a4 y256 true)) else (carillonlaw23_DemandMore.j1 kj7 l0 a4 y256 true)) = some r := H
          have A23 := Aside0.mk A230
          clear A230
          have HC24 := Aside0.mk H
          clear H
          go_upto_region 7 with (first | ((with_reducible refine gate_callee (f := 10) rfl ?_); refine goesL_ (some 46) rfl rfl Try.func10 (by kernel_rfl) rfl #[.slice A0 l0.length c0] rfl (by (try simp only [List.map_toArray, List.map_cons, List.map_nil]); first | done | rfl | (simp only [List.length_drop, List.length_take]; rfl)) ?_; (with_reducible refine (carillonlaw23_copied.calls _ _ l0 t261 _ ?side1 ?side2 A20.out).mono ?_); (case side1 => repeat (first | exact (Kd.C_below HR0.out HB.out) | (with_reducible refine Kd.C_alloc ?_ _) | (with_reducible refine Kd.C_drewN ?_ _) | (with_reducible refine Kd.C_drew ?_))); (case side2 => exact HC0.out); rintro e w25 ⟨v262, rfl, ho0, hb⟩; refine ⟨_, rfl, ?_⟩; have n0_ := Aside0.mk (Kd.R_elder' (by (with_reducible repeat (first | apply Kd.R_alloc | apply Kd.R_drewN | apply Kd.R_drew)); exact HO_11.out) (Kd.R_base ho0) hb); have n1_ := Aside0.mk (Kd.R_lower (Kd.R_newB (Kd.R_new' ho0 (Kd.R_lt (by (with_reducible repeat (first | apply Kd.R_alloc | apply Kd.R_drewN | apply Kd.R_drew)); exact HO_11.out))) (g := gb252) (o := .cells #[.int .i64 a1_0, .int .i64 a1_1, .int .i64 a1_2] 38 (0, 0)) (by (with_reducible repeat (first | refine blk_drewN ?_ _ | refine blk_drew ?_ | refine blk_alloc ?_ _)); exact BK252.out)) (below_size (by repeat (first | (with_reducible first | exact HB.out | apply below_alloc | apply pw_below_drewN | apply below_drew1 | refine below_set ?_ GE252.out) | exact HB.out)))); have n2_ := Aside0.mk (blk_below (g := gb252) (o := .cells #[.int .i64 a1_0, .int .i64 a1_1, .int .i64 a1_2] 38 (0, 0)) (by (with_reducible repeat (first | refine blk_drewN ?_ _ | refine blk_drew ?_ | refine blk_alloc ?_ _)); exact BK252.out) hb); have n3_ := Aside0.mk (below_step (by repeat (first | (with_reducible first | exact HB.out | apply below_alloc | apply pw_below_drewN | apply below_drew1 | refine below_set ?_ GE252.out) | exact HB.out)) hb); clear HO_11; clear BK252; clear HB; have HO_11 := n0_; have HO263 := n1_; have BK252 := n2_; have HB := n3_; clear n0_ n1_ n2_ n3_; (try clear hb); (try clear hb2); (try clear hk); (try clear hi); (try clear ho0); obtain ⟨Ao26, co26, eo26⟩ := Kd.R_slice HO263.out; subst eo26) | ((with_reducible refine gate_callee (f := 9) rfl ?_); refine goesL_ (some 51) rfl rfl Try.func9 (by kernel_rfl) rfl #[.slice Ao26 t261.length co26, .int .i64 (wrap64 (a2)), .int .i64 (wrap64 (a3))] rfl (by (try simp only [List.map_toArray, List.map_cons, List.map_nil]); first | done | rfl | (simp only [List.length_drop, List.length_take]; rfl)) ?_; (with_reducible refine (demand_Of.calls kj7 _ _ t261 (wrap64 (a2)) (wrap64 (a3)) t264 t265 _ ?side1 ?side2 A21.out).mono ?_); (case side1 => repeat (first | exact (Kd.R_reads' HO263.out).2.2 | (with_reducible refine Kd.C_alloc ?_ _) | (with_reducible refine Kd.C_drewN ?_ _) | (with_reducible refine Kd.C_drew ?_))); (case side2 => exact (Kd.R_reads' HO263.out).2.1); rintro e w27 ⟨rfl, hb⟩; refine ⟨_, rfl, ?_⟩; have n0_ := Aside0.mk (Kd.R_below (by (with_reducible repeat (first | apply Kd.R_alloc | apply Kd.R_drewN | apply Kd.R_drew)); exact HO_11.out) hb); have n1_ := Aside0.mk (Kd.R_below (by (with_reducible repeat (first | apply Kd.R_alloc | apply Kd.R_drewN | apply Kd.R_drew)); exact HO263.out) hb); have n2_ := Aside0.mk (blk_below (g := gb252) (o := .cells #[.int .i64 a1_0, .int .i64 a1_1, .int .i64 a1_2] 38 (0, 0)) (by (with_reducible repeat (first | refine blk_drewN ?_ _ | refine blk_drew ?_ | refine blk_alloc ?_ _)); exact BK252.out) hb); have n3_ := Aside0.mk (below_step (by repeat (first | (with_reducible first | exact HB.out | apply below_alloc | apply pw_below_drewN | apply below_drew1 | refine below_set ?_ GE252.out) | exact HB.out)) hb); clear HO_11; clear HO263; clear BK252; clear HB; have HO_11 := n0_; have HO263 := n1_; have BK252 := n2_; have HB := n3_; clear n0_ n1_ n2_ n3_; (try clear hb); (try clear hb2); (try clear hk); (try clear hi); obtain ⟨Ao28, co28, eo28⟩ := Kd.R_slice HO_11.out; subst eo28) | ((with_reducible refine gate_callee (f := 10) rfl ?_); refine goesL_ (some 56) rfl rfl Try.func10 (by kernel_rfl) rfl #[.slice Ao28 y256.length co28] rfl (by (try simp only [List.map_toArray, List.map_cons, List.map_nil]); first | done | rfl | (simp only [List.length_drop, List.length_take]; rfl)) ?_; (with_reducible refine (carillonlaw23_copied.calls _ _ y256 t266 _ ?side1 ?side2 A22.out).mono ?_); (case side1 => repeat (first | exact (Kd.R_reads' HO_11.out).2.2 | (with_reducible refine Kd.C_alloc ?_ _) | (with_reducible refine Kd.C_drewN ?_ _) | (with_reducible refine Kd.C_drew ?_))); (case side2 => exact (Kd.R_reads' HO_11.out).2.1); rintro e w29 ⟨v267, rfl, ho0, hb⟩; refine ⟨_, rfl, ?_⟩; have n0_ := Aside0.mk (Kd.R_elder' (by (with_reducible repeat (first | apply Kd.R_alloc | apply Kd.R_drewN | apply Kd.R_drew)); exact HO_11.out) (Kd.R_base ho0) hb); have n1_ := Aside0.mk (Kd.R_elder' (by (with_reducible repeat (first | apply Kd.R_alloc | apply Kd.R_drewN | apply Kd.R_drew)); exact HO263.out) (Kd.R_base ho0) hb); have n2_ := Aside0.mk (Kd.R_lower (Kd.R_newB (Kd.R_new' (Kd.R_new' ho0 (Kd.R_lt (by (with_reducible repeat (first | apply Kd.R_alloc | apply Kd.R_drewN | apply Kd.R_drew)); exact HO_11.out))) (Kd.R_lt (by (with_reducible repeat (first | apply Kd.R_alloc | apply Kd.R_drewN | apply Kd.R_drew)); exact HO263.out))) (g := gb252) (o := .cells #[.int .i64 a1_0, .int .i64 a1_1, .int .i64 a1_2] 38 (0, 0)) (by (with_reducible repeat (first | refine blk_drewN ?_ _ | refine blk_drew ?_ | refine blk_alloc ?_ _)); exact BK252.out)) (below_size (by repeat (first | (with_reducible first | exact HB.out | apply below_alloc | apply pw_below_drewN | apply below_drew1 | refine below_set ?_ GE252.out) | exact HB.out)))); have n3_ := Aside0.mk (blk_below (g := gb252) (o := .cells #[.int .i64 a1_0, .int .i64 a1_1, .int .i64 a1_2] 38 (0, 0)) (by (with_reducible repeat (first | refine blk_drewN ?_ _ | refine blk_drew ?_ | refine blk_alloc ?_ _)); exact BK252.out) hb); have n4_ := Aside0.mk (below_step (by repeat (first | (with_reducible first | exact HB.out | apply below_alloc | apply pw_below_drewN | apply below_drew1 | refine below_set ?_ GE252.out) | exact HB.out)) hb); clear HO_11; clear HO263; clear BK252; clear HB; have HO_11 := n0_; have HO263 := n1_; have HO268 := n2_; have BK252 := n3_; have HB := n4_; clear n0_ n1_ n2_ n3_ n4_; (try clear hb); (try clear hb2); (try clear hk); (try clear hi); (try clear ho0); obtain ⟨Ao30, co30, eo30⟩ := Kd.R_slice HO268.out; subst eo30) | ((with_reducible refine gate_callee (f := 9) rfl ?_); refine goesL_ (some 61) rfl rfl Try.func9 (by kernel_rfl) rfl #[.slice Ao30 t266.length co30, .int .i64 (wrap64 (a2)), .int .i64 (wrap64 (a3))] rfl (by (try simp only [List.map_toArray, List.map_cons, List.map_nil]); first | done | rfl | (simp only [List.length_drop, List.length_take]; rfl)) ?_; (with_reducible refine (demand_Of.calls kj7 _ _ t266 (wrap64 (a2)) (wrap64 (a3)) t269 t270 _ ?side1 ?side2 A23.out).mono ?_); (case side1 => repeat (first | exact (Kd.R_reads' HO268.out).2.2 | (with_reducible refine Kd.C_alloc ?_ _) | (with_reducible refine Kd.C_drewN ?_ _) | (with_reducible refine Kd.C_drew ?_))); (case side2 => exact (Kd.R_reads' HO268.out).2.1); rintro e w31 ⟨rfl, hb⟩; refine ⟨_, rfl, ?_⟩; have n0_ := Aside0.mk (Kd.R_below (by (with_reducible repeat (first | apply Kd.R_alloc | apply Kd.R_drewN | apply Kd.R_drew)); exact HO_11.out) hb); have n1_ := Aside0.mk (Kd.R_below (by (with_reducible repeat (first | apply Kd.R_alloc | apply Kd.R_drewN | apply Kd.R_drew)); exact HO263.out) hb); have n2_ := Aside0.mk (Kd.R_below (by (with_reducible repeat (first | apply Kd.R_alloc | apply Kd.R_drewN | apply Kd.R_drew)); exact HO268.out) hb); have n3_ := Aside0.mk (blk_below (g := gb252) (o := .cells #[.int .i64 a1_0, .int .i64 a1_1, .int .i64 a1_2] 38 (0, 0)) (by (with_reducible repeat (first | refine blk_drewN ?_ _ | refine blk_drew ?_ | refine blk_alloc ?_ _)); exact BK252.out) hb); have n4_ := Aside0.mk (below_step (by repeat (first | (with_reducible first | exact HB.out | apply below_alloc | apply pw_below_drewN | apply below_drew1 | refine below_set ?_ GE252.out) | exact HB.out)) hb); clear HO_11; clear HO263; clear HO268; clear BK252; clear HB; have HO_11 := n0_; have HO263 := n1_; have HO268 := n2_; have BK252 := n3_; have HB := n4_; clear n0_ n1_ n2_ n3_ n4_; (try clear hb); (try clear hb2); (try clear hk); (try clear hi)))
          (try simp only [Act.put, List.setIfInBounds_toArray, List.set_cons_zero, List.set_cons_succ])
          go_cut [82] (fun v82 wc => ∃ (kq : Nat) (x82_23 : Bool), v82 = .bool x82_23 ∧ Aside0 (carillonlaw23_DemandMore.j1 kq l0 a4 y256 x82_23 = some r) ∧ Aside0 (kq ≤ kj7) ∧ Aside0 (Kd.R k38 38 wc w.heap.size (fun k_ => k_ ≠ gb252) (.slice Ao28 y256.length co28) y256) ∧ Aside0 (wc.heap[gb252]? = some (.cells #[.int .i64 a1_0, .int .i64 a1_1, .int .i64 a1_2] 38 (0, 0))) ∧ Aside0 (Below w.heap.size w wc))
          case first =>
            as_aux_lemma =>
            have H := HC24.out
            clear HC24
            by_cases c32 : t265 = 0
            · rw [if_pos c32] at H
              have c32b0 : (t265 == 0) = true := beq_iff_eq.mpr c32
              have c32b1 : (t265 != 0) = false := bne_eq_false_iff_eq.mpr c32
              clear c32
              (first | rw [c32b0] | (simp only [i64_w, i32_w]; rw [c32b0]) | skip)
              by_cases c33 : t270 = 0
              · rw [if_pos c33] at H
                have c33b0 : (t270 == 0) = true := beq_iff_eq.mpr c33
                have c33b1 : (t270 != 0) = false := bne_eq_false_iff_eq.mpr c33
                clear c33
                by_cases c34 : t269 < t264
                · rw [if_pos c34] at H
                  have c34b0 : decide (t269 < t264) = true := decide_eq_true c34
                  clear c34
                  have H' := Aside0.mk H
                  clear H
                  go_wp2
                  go_meet
                  case rel => exact ⟨_, (true), (by first | rfl | (simp; done) | (simp [*]; done)), H', ⟨by have := HJ7.out; first | omega | exact Nat.le_refl _⟩, ⟨by (with_reducible repeat (first | apply Kd.R_alloc | apply Kd.R_drewN | apply Kd.R_drew)); exact Kd.R_mono HO_11.out (fun _ hk => hk.1.1)⟩, ⟨by (with_reducible repeat (first | refine blk_drewN ?_ _ | refine blk_drew ?_ | refine blk_alloc ?_ _)); exact BK252.out⟩, ⟨by repeat (first | (with_reducible first | exact HB.out | apply below_alloc | apply pw_below_drewN | apply below_drew1 | refine below_set ?_ GE252.out) | exact HB.out)⟩⟩
                · rw [if_neg c34] at H
                  have c34b0 : decide (t269 < t264) = false := decide_eq_false c34
                  clear c34
                  have H' := Aside0.mk H
                  clear H
                  have hcz35_0 : w31.cell? ⟨gb252, 0, none⟩ = some (.int .i64 a1_0) := (blk_cell BK252.out 0).trans rfl
                  have hcz35_1 : w31.cell? ⟨gb252, 1, none⟩ = some (.int .i64 a1_1) := (blk_cell BK252.out 1).trans rfl
                  have hcz35_2 : w31.cell? ⟨gb252, 2, none⟩ = some (.int .i64 a1_2) := (blk_cell BK252.out 2).trans rfl
                  have hfz35_0 := blk_frozen BK252.out 0
                  have hfz35_1 := blk_frozen BK252.out 1
                  have hfz35_2 := blk_frozen BK252.out 2
                  go_wp2
                  go_meet
                  case rel => exact ⟨_, (decide (t269 > (wrap64 (t264 + a1_2)))), (by first | rfl | (simp; done) | (simp [*]; done)), H', ⟨by have := HJ7.out; first | omega | exact Nat.le_refl _⟩, ⟨by (with_reducible repeat (first | apply Kd.R_alloc | apply Kd.R_drewN | apply Kd.R_drew)); exact Kd.R_mono HO_11.out (fun _ hk => hk.1.1)⟩, ⟨by (with_reducible repeat (first | refine blk_drewN ?_ _ | refine blk_drew ?_ | refine blk_alloc ?_ _)); exact BK252.out⟩, ⟨by repeat (first | (with_reducible first | exact HB.out | apply below_alloc | apply pw_below_drewN | apply below_drew1 | refine below_set ?_ GE252.out) | exact HB.out)⟩⟩
              · rw [if_neg c33] at H
                have c33b0 : (t270 == 0) = false := beq_eq_false_iff_ne.mpr c33
                have c33b1 : (t270 != 0) = true := bne_iff_ne.mpr c33
                have H' := Aside0.mk H
                clear H
                go_wp2
                go_meet
                case rel => exact ⟨_, (true), (by first | rfl | (simp; done) | (simp [*]; done)), H', ⟨by have := HJ7.out; first | omega | exact Nat.le_refl _⟩, ⟨by (with_reducible repeat (first | apply Kd.R_alloc | apply Kd.R_drewN | apply Kd.R_drew)); exact Kd.R_mono HO_11.out (fun _ hk => hk.1.1)⟩, ⟨by (with_reducible repeat (first | refine blk_drewN ?_ _ | refine blk_drew ?_ | refine blk_alloc ?_ _)); exact BK252.out⟩, ⟨by repeat (first | (with_reducible first | exact HB.out | apply below_alloc | apply pw_below_drewN | apply below_drew1 | refine below_set ?_ GE252.out) | exact HB.out)⟩⟩
            · rw [if_neg c32] at H
              have c32b0 : (t265 == 0) = false := beq_eq_false_iff_ne.mpr c32
              have c32b1 : (t265 != 0) = true := bne_iff_ne.mpr c32
              (first | rw [c32b0] | (simp only [i64_w, i32_w]; rw [c32b0]) | skip)
              have H' := Aside0.mk H
              clear H
              go_wp2
              go_meet
              case rel => exact ⟨_, (true), (by first | rfl | (simp; done) | (simp [*]; done)), H', ⟨by have := HJ7.out; first | omega | exact Nat.le_refl _⟩, ⟨by (with_reducible repeat (first | apply Kd.R_alloc | apply Kd.R_drewN | apply Kd.R_drew)); exact Kd.R_mono HO_11.out (fun _ hk => hk.1.1)⟩, ⟨by (with_reducible repeat (first | refine blk_drewN ?_ _ | refine blk_drew ?_ | refine blk_alloc ?_ _)); exact BK252.out⟩, ⟨by repeat (first | (with_reducible first | exact HB.out | apply below_alloc | apply pw_below_drewN | apply below_drew1 | refine below_set ?_ GE252.out) | exact HB.out)⟩⟩
          case rest =>
            as_aux_lemma =>
            clear HC24
            try clear c1
            try clear p2
            try clear c3
            try clear c6
            try clear p6
            try clear c7
            try clear c8
            try clear c9
            try clear c10
            try clear c13
            try clear c13b0
            try clear c13b1
            try clear c17
            try clear c32
            try clear c32b0
            try clear c32b1
            try clear c33
            try clear c33b0
            try clear c33b1
            try clear c34
            try clear c34b0
            try clear hcz11_0
            try clear hcz11_1
            try clear hcz11_2
            try clear hcz35_0
            try clear hcz35_1
            try clear hcz35_2
            try clear hfz11_0
            try clear hfz11_1
            try clear hfz11_2
            try clear hfz35_0
            try clear hfz35_1
            try clear hfz35_2
            try clear p2
            obtain ⟨kq, x82_23, rfl, HA, HJ23, HO_11, BK252, HB⟩ := hcut
            cases kq with
            | zero => exact absurd HA.out (by simp [carillonlaw23_DemandMore.j1])
            | succ kj23 =>
              have H := HA.out
              clear HA
              simp only [carillonlaw23_DemandMore.j1] at H
              by_cases c36 : x82_23 = true
              · subst c36
                have H1 : (some false) = some r := by rw [if_pos rfl] at H; exact H
                clear H
                have H := H1
                clear H1
                obtain rfl := Option.some.inj H
                go_wp2
                go_ret
                exact ⟨by first | rfl | (simp [errW_none, errW_some] <;> rfl) | (simp [*, errW_none, errW_some] <;> rfl), by repeat (first | (with_reducible first | exact HB.out | apply below_alloc | apply pw_below_drewN | apply below_drew1 | refine below_set ?_ GE252.out) | exact HB.out)⟩
              · replace c36 := Bool.eq_false_iff.mpr c36
                subst c36
                have H1 : ((carillonlaw23_copied.f l0).bind fun t271 => ((demand_Worst.f kj23 t271 3).bind fun bt274 => ((carillonlaw23_copied.f y256).bind fun t278 => ((demand_Worst.f kj23 t278 3).bind fun bt281 => (if bt274.2.2.2 = 0 then (if bt281.2.2.2 = 0 then (if bt274.2.2.1 = true then (if bt281.2.2.1 = true then (if bt281.1 > bt274.1 then (carillonlaw23_DemandMore.j2 kj23 a4 y256 bt281.1 bt281.2.1 bt281.2.2.1 true) else (if bt281.1 = bt274.1 then (carillonlaw23_DemandMore.j2 kj23 a4 y256 bt281.1 bt281.2.1 bt281.2.2.1 (decide (bt281.2.1 > bt274.2.1))) else (carillonlaw23_DemandMore.j2 kj23 a4 y256 bt281.1 bt281.2.1 bt281.2.2.1 false))) else (carillonlaw23_DemandMore.j2 kj23 a4 y256 bt281.1 bt281.2.1 bt281.2.2.1 true)) else (carillonlaw23_DemandMore.j2 kj23 a4 y256 bt281.1 bt281.2.1 bt281.2.2.1 false)) else (carillonlaw23_DemandMore.j2 kj23 a4 y256 bt281.1 bt281.2.1 bt281.2.2.1 true)) else (carillonlaw23_DemandMore.j2 kj23 a4 y256 bt281.1 bt281.2.1 bt281.2.2.1 true)))))) = some r := by rw [if_neg (show ¬ (false = true) by decide)] at H; exact H
                clear H
                have H := H1
                clear H1
                replace H := Option.bind_eq_some_iff.mp H
                obtain ⟨t271, A370, H⟩ := H
                replace H : ((demand_Worst.f kj23 t271 3).bind fun bt274 => ((carillonlaw23_copied.f y256).bind fun t278 => ((demand_Worst.f kj23 t278 3).bind fun bt281 => (if bt274.2.2.2 = 0 then (if bt281.2.2.2 = 0 then (if bt274.2.2.1 = true then (if bt281.2.2.1 = true then (if bt281.1 > bt274.1 then (carillonlaw23_DemandMore.j2 kj23 a4 y256 bt281.1 bt281.2.1 bt281.2.2.1 true) else (if bt281.1 = bt274.1 then (carillonlaw23_DemandMore.j2 kj23 a4 y256 bt281.1 bt281.2.1 bt281.2.2.1 (decide (bt281.2.1 > bt274.2.1))) else (carillonlaw23_DemandMore.j2 kj23 a4 y256 bt281.1 bt281.2.1 bt281.2.2.1 false))) else (carillonlaw23_DemandMore.j2 kj23 a4 y256 bt281.1 bt281.2.1 bt281.2.2.1 true)) else (carillonlaw23_DemandMore.j2 kj23 a4 y256 bt281.1 bt281.2.1 bt281.2.2.1 false)) else (carillonlaw23_DemandMore.j2 kj23 a4 y256 bt281.1 bt281.2.1 bt281.2.2.1 true)) else (carillonlaw23_DemandMore.j2 kj23 a4 y256 bt281.1 bt281.2.1 bt281.2.2.1 true))))) = some r := H
                have A37 := Aside0.mk A370
                clear A370
                replace H := Option.bind_eq_some_iff.mp H
                obtain ⟨⟨t274, t275, t276, t277⟩, A380, H⟩ := H
                replace H : ((carillonlaw23_copied.f y256).bind fun t278 => ((demand_Worst.f kj23 t278 3).bind fun bt281 => (if t277 = 0 then (if bt281.2.2.2 = 0 then (if t276 = true then (if bt281.2.2.1 = true then (if bt281.1 > t274 then (carillonlaw23_DemandMore.j2 kj23 a4 y256 bt281.1 bt281.2.1 bt281.2.2.1 true) else (if bt281.1 = t274 then (carillonlaw23_DemandMore.j2 kj23 a4 y256 bt281.1 bt281.2.1 bt281.2.2.1 (decide (bt281.2.1 > t275))) else (carillonlaw23_DemandMore.j2 kj23 a4 y256 bt281.1 bt281.2.1 bt281.2.2.1 false))) else (carillonlaw23_DemandMore.j2 kj23 a4 y256 bt281.1 bt281.2.1 bt281.2.2.1 true)) else (carillonlaw23_DemandMore.j2 kj23 a4 y256 bt281.1 bt281.2.1 bt281.2.2.1 false)) else (carillonlaw23_DemandMore.j2 kj23 a4 y256 bt281.1 bt281.2.1 bt281.2.2.1 true)) else (carillonlaw23_DemandMore.j2 kj23 a4 y256 bt281.1 bt281.2.1 bt281.2.2.1 true)))) = some r := H
                have A38 := Aside0.mk A380
                clear A380
                replace H := Option.bind_eq_some_iff.mp H
                obtain ⟨t278, A390, H⟩ := H
                replace H : ((demand_Worst.f kj23 t278 3).bind fun bt281 => (if t277 = 0 then (if bt281.2.2.2 = 0 then (if t276 = true then (if bt281.2.2.1 = true then (if bt281.1 > t274 then (carillonlaw23_DemandMore.j2 kj23 a4 y256 bt281.1 bt281.2.1 bt281.2.2.1 true) else (if bt281.1 = t274 then (carillonlaw23_DemandMore.j2 kj23 a4 y256 bt281.1 bt281.2.1 bt281.2.2.1 (decide (bt281.2.1 > t275))) else (carillonlaw23_DemandMore.j2 kj23 a4 y256 bt281.1 bt281.2.1 bt281.2.2.1 false))) else (carillonlaw23_DemandMore.j2 kj23 a4 y256 bt281.1 bt281.2.1 bt281.2.2.1 true)) else (carillonlaw23_DemandMore.j2 kj23 a4 y256 bt281.1 bt281.2.1 bt281.2.2.1 false)) else (carillonlaw23_DemandMore.j2 kj23 a4 y256 bt281.1 bt281.2.1 bt281.2.2.1 true)) else (carillonlaw23_DemandMore.j2 kj23 a4 y256 bt281.1 bt281.2.1 bt281.2.2.1 true))) = some r := H
                have A39 := Aside0.mk A390
                clear A390
                replace H := Option.bind_eq_some_iff.mp H
                obtain ⟨⟨t281, t282, t283, t284⟩, A400, H⟩ := H
                replace H : (if t277 = 0 then (if t284 = 0 then (if t276 = true then (if t283 = true then (if t281 > t274 then (carillonlaw23_DemandMore.j2 kj23 a4 y256 t281 t282 t283 true) else (if t281 = t274 then (carillonlaw23_DemandMore.j2 kj23 a4 y256 t281 t282 t283 (decide (t282 > t275))) else (carillonlaw23_DemandMore.j2 kj23 a4 y256 t281 t282 t283 false))) else (carillonlaw23_DemandMore.j2 kj23 a4 y256 t281 t282 t283 true)) else (carillonlaw23_DemandMore.j2 kj23 a4 y256 t281 t282 t283 false)) else (carillonlaw23_DemandMore.j2 kj23 a4 y256 t281 t282 t283 true)) else (carillonlaw23_DemandMore.j2 kj23 a4 y256 t281 t282 t283 true)) = some r := H
                have A40 := Aside0.mk A400
                clear A400
                have HC41 := Aside0.mk H
                clear H
                go_upto_region 11 with (first | ((with_reducible refine gate_callee (f := 10) rfl ?_); refine goesL_ (some 85) rfl rfl Try.func10 (by kernel_rfl) rfl #[.slice A0 l0.length c0] rfl (by (try simp only [List.map_toArray, List.map_cons, List.map_nil]); first | done | rfl | (simp only [List.length_drop, List.length_take]; rfl)) ?_; (with_reducible refine (carillonlaw23_copied.calls _ _ l0 t271 _ ?side1 ?side2 A37.out).mono ?_); (case side1 => repeat (first | exact (Kd.C_below HR0.out HB.out) | (with_reducible refine Kd.C_alloc ?_ _) | (with_reducible refine Kd.C_drewN ?_ _) | (with_reducible refine Kd.C_drew ?_))); (case side2 => exact HC0.out); rintro e w42 ⟨v272, rfl, ho0, hb⟩; refine ⟨_, rfl, ?_⟩; have n0_ := Aside0.mk (Kd.R_elder' (by (with_reducible repeat (first | apply Kd.R_alloc | apply Kd.R_drewN | apply Kd.R_drew)); exact HO_11.out) (Kd.R_base ho0) hb); have n1_ := Aside0.mk (Kd.R_lower (Kd.R_newB (Kd.R_new' ho0 (Kd.R_lt (by (with_reducible repeat (first | apply Kd.R_alloc | apply Kd.R_drewN | apply Kd.R_drew)); exact HO_11.out))) (g := gb252) (o := .cells #[.int .i64 a1_0, .int .i64 a1_1, .int .i64 a1_2] 38 (0, 0)) (by (with_reducible repeat (first | refine blk_drewN ?_ _ | refine blk_drew ?_ | refine blk_alloc ?_ _)); exact BK252.out)) (below_size (by repeat (first | (with_reducible first | exact HB.out | apply below_alloc | apply pw_below_drewN | apply below_drew1 | refine below_set ?_ GE252.out) | exact HB.out)))); have n2_ := Aside0.mk (blk_below (g := gb252) (o := .cells #[.int .i64 a1_0, .int .i64 a1_1, .int .i64 a1_2] 38 (0, 0)) (by (with_reducible repeat (first | refine blk_drewN ?_ _ | refine blk_drew ?_ | refine blk_alloc ?_ _)); exact BK252.out) hb); have n3_ := Aside0.mk (below_step (by repeat (first | (with_reducible first | exact HB.out | apply below_alloc | apply pw_below_drewN | apply below_drew1 | refine below_set ?_ GE252.out) | exact HB.out)) hb); clear HO_11; clear BK252; clear HB; have HO_11 := n0_; have HO273 := n1_; have BK252 := n2_; have HB := n3_; clear n0_ n1_ n2_ n3_; (try clear hb); (try clear hb2); (try clear hk); (try clear hi); (try clear ho0); obtain ⟨Ao43, co43, eo43⟩ := Kd.R_slice HO273.out; subst eo43) | ((with_reducible refine gate_callee (f := 12) rfl ?_); refine goesL_ (some 86) rfl rfl Try.func12 (by kernel_rfl) rfl #[.slice Ao43 t271.length co43, .int .i64 3] rfl (by (try simp only [List.map_toArray, List.map_cons, List.map_nil]); first | done | rfl | (simp only [List.length_drop, List.length_take]; rfl)) ?_; (with_reducible refine (demand_Worst.calls kj23 _ _ t271 3 t274 t275 t276 t277 _ ?side1 ?side2 A38.out).mono ?_); (case side1 => repeat (first | exact (Kd.R_reads' HO273.out).2.2 | (with_reducible refine Kd.C_alloc ?_ _) | (with_reducible refine Kd.C_drewN ?_ _) | (with_reducible refine Kd.C_drew ?_))); (case side2 => exact (Kd.R_reads' HO273.out).2.1); rintro e w44 ⟨rfl, hb⟩; refine ⟨_, rfl, ?_⟩; have n0_ := Aside0.mk (Kd.R_below (by (with_reducible repeat (first | apply Kd.R_alloc | apply Kd.R_drewN | apply Kd.R_drew)); exact HO_11.out) hb); have n1_ := Aside0.mk (Kd.R_below (by (with_reducible repeat (first | apply Kd.R_alloc | apply Kd.R_drewN | apply Kd.R_drew)); exact HO273.out) hb); have n2_ := Aside0.mk (blk_below (g := gb252) (o := .cells #[.int .i64 a1_0, .int .i64 a1_1, .int .i64 a1_2] 38 (0, 0)) (by (with_reducible repeat (first | refine blk_drewN ?_ _ | refine blk_drew ?_ | refine blk_alloc ?_ _)); exact BK252.out) hb); have n3_ := Aside0.mk (below_step (by repeat (first | (with_reducible first | exact HB.out | apply below_alloc | apply pw_below_drewN | apply below_drew1 | refine below_set ?_ GE252.out) | exact HB.out)) hb); clear HO_11; clear HO273; clear BK252; clear HB; have HO_11 := n0_; have HO273 := n1_; have BK252 := n2_; have HB := n3_; clear n0_ n1_ n2_ n3_; (try clear hb); (try clear hb2); (try clear hk); (try clear hi)) | ((with_reducible refine gate_callee (f := 10) rfl ?_); refine goesL_ (some 93) rfl rfl Try.func10 (by kernel_rfl) rfl #[.slice Ao28 y256.length co28] rfl (by (try simp only [List.map_toArray, List.map_cons, List.map_nil]); first | done | rfl | (simp only [List.length_drop, List.length_take]; rfl)) ?_; (with_reducible refine (carillonlaw23_copied.calls _ _ y256 t278 _ ?side1 ?side2 A39.out).mono ?_); (case side1 => repeat (first | exact (Kd.R_reads' HO_11.out).2.2 | (with_reducible refine Kd.C_alloc ?_ _) | (with_reducible refine Kd.C_drewN ?_ _) | (with_reducible refine Kd.C_drew ?_))); (case side2 => exact (Kd.R_reads' HO_11.out).2.1); rintro e w45 ⟨v279, rfl, ho0, hb⟩; refine ⟨_, rfl, ?_⟩; have n0_ := Aside0.mk (Kd.R_elder' (by (with_reducible repeat (first | apply Kd.R_alloc | apply Kd.R_drewN | apply Kd.R_drew)); exact HO_11.out) (Kd.R_base ho0) hb); have n1_ := Aside0.mk (Kd.R_elder' (by (with_reducible repeat (first | apply Kd.R_alloc | apply Kd.R_drewN | apply Kd.R_drew)); exact HO273.out) (Kd.R_base ho0) hb); have n2_ := Aside0.mk (Kd.R_lower (Kd.R_newB (Kd.R_new' (Kd.R_new' ho0 (Kd.R_lt (by (with_reducible repeat (first | apply Kd.R_alloc | apply Kd.R_drewN | apply Kd.R_drew)); exact HO_11.out))) (Kd.R_lt (by (with_reducible repeat (first | apply Kd.R_alloc | apply Kd.R_drewN | apply Kd.R_drew)); exact HO273.out))) (g := gb252) (o := .cells #[.int .i64 a1_0, .int .i64 a1_1, .int .i64 a1_2] 38 (0, 0)) (by (with_reducible repeat (first | refine blk_drewN ?_ _ | refine blk_drew ?_ | refine blk_alloc ?_ _)); exact BK252.out)) (below_size (by repeat (first | (with_reducible first | exact HB.out | apply below_alloc | apply pw_below_drewN | apply below_drew1 | refine below_set ?_ GE252.out) | exact HB.out)))); have n3_ := Aside0.mk (blk_below (g := gb252) (o := .cells #[.int .i64 a1_0, .int .i64 a1_1, .int .i64 a1_2] 38 (0, 0)) (by (with_reducible repeat (first | refine blk_drewN ?_ _ | refine blk_drew ?_ | refine blk_alloc ?_ _)); exact BK252.out) hb); have n4_ := Aside0.mk (below_step (by repeat (first | (with_reducible first | exact HB.out | apply below_alloc | apply pw_below_drewN | apply below_drew1 | refine below_set ?_ GE252.out) | exact HB.out)) hb); clear HO_11; clear HO273; clear BK252; clear HB; have HO_11 := n0_; have HO273 := n1_; have HO280 := n2_; have BK252 := n3_; have HB := n4_; clear n0_ n1_ n2_ n3_ n4_; (try clear hb); (try clear hb2); (try clear hk); (try clear hi); (try clear ho0); obtain ⟨Ao46, co46, eo46⟩ := Kd.R_slice HO280.out; subst eo46) | ((with_reducible refine gate_callee (f := 12) rfl ?_); refine goesL_ (some 94) rfl rfl Try.func12 (by kernel_rfl) rfl #[.slice Ao46 t278.length co46, .int .i64 3] rfl (by (try simp only [List.map_toArray, List.map_cons, List.map_nil]); first | done | rfl | (simp only [List.length_drop, List.length_take]; rfl)) ?_; (with_reducible refine (demand_Worst.calls kj23 _ _ t278 3 t281 t282 t283 t284 _ ?side1 ?side2 A40.out).mono ?_); (case side1 => repeat (first | exact (Kd.R_reads' HO280.out).2.2 | (with_reducible refine Kd.C_alloc ?_ _) | (with_reducible refine Kd.C_drewN ?_ _) | (with_reducible refine Kd.C_drew ?_))); (case side2 => exact (Kd.R_reads' HO280.out).2.1); rintro e w47 ⟨rfl, hb⟩; refine ⟨_, rfl, ?_⟩; have n0_ := Aside0.mk (Kd.R_below (by (with_reducible repeat (first | apply Kd.R_alloc | apply Kd.R_drewN | apply Kd.R_drew)); exact HO_11.out) hb); have n1_ := Aside0.mk (Kd.R_below (by (with_reducible repeat (first | apply Kd.R_alloc | apply Kd.R_drewN | apply Kd.R_drew)); exact HO273.out) hb); have n2_ := Aside0.mk (Kd.R_below (by (with_reducible repeat (first | apply Kd.R_alloc | apply Kd.R_drewN | apply Kd.R_drew)); exact HO280.out) hb); have n3_ := Aside0.mk (blk_below (g := gb252) (o := .cells #[.int .i64 a1_0, .int .i64 a1_1, .int .i64 a1_2] 38 (0, 0)) (by (with_reducible repeat (first | refine blk_drewN ?_ _ | refine blk_drew ?_ | refine blk_alloc ?_ _)); exact BK252.out) hb); have n4_ := Aside0.mk (below_step (by repeat (first | (with_reducible first | exact HB.out | apply below_alloc | apply pw_below_drewN | apply below_drew1 | refine below_set ?_ GE252.out) | exact HB.out)) hb); clear HO_11; clear HO273; clear HO280; clear BK252; clear HB; have HO_11 := n0_; have HO273 := n1_; have HO280 := n2_; have BK252 := n3_; have HB := n4_; clear n0_ n1_ n2_ n3_ n4_; (try clear hb); (try clear hb2); (try clear hk); (try clear hi)))
                (try simp only [Act.put, List.setIfInBounds_toArray, List.set_cons_zero, List.set_cons_succ])
                go_cut [129] (fun v129 wc => ∃ (kq : Nat) (x129_40 : Bool), v129 = .bool x129_40 ∧ Aside0 (carillonlaw23_DemandMore.j2 kq a4 y256 t281 t282 t283 x129_40 = some r) ∧ Aside0 (kq ≤ kj23) ∧ Aside0 (Kd.R k38 38 wc w.heap.size (fun k_ => k_ ≠ gb252) (.slice Ao28 y256.length co28) y256) ∧ Aside0 (wc.heap[gb252]? = some (.cells #[.int .i64 a1_0, .int .i64 a1_1, .int .i64 a1_2] 38 (0, 0))) ∧ Aside0 (Below w.heap.size w wc))
                case first =>
                  as_aux_lemma =>
                  have H := HC41.out
                  clear HC41
                  by_cases c48 : t277 = 0
                  · rw [if_pos c48] at H
                    have c48b0 : (t277 == 0) = true := beq_iff_eq.mpr c48
                    have c48b1 : (t277 != 0) = false := bne_eq_false_iff_eq.mpr c48
                    clear c48
                    (first | rw [c48b0] | (simp only [i64_w, i32_w]; rw [c48b0]) | skip)
                    by_cases c49 : t284 = 0
                    · rw [if_pos c49] at H
                      have c49b0 : (t284 == 0) = true := beq_iff_eq.mpr c49
                      have c49b1 : (t284 != 0) = false := bne_eq_false_iff_eq.mpr c49
                      clear c49
                      by_cases c50 : t276 = true
                      · subst c50
                        have H1 : (if t283 = true then (if t281 > t274 then (carillonlaw23_DemandMore.j2 kj23 a4 y256 t281 t282 t283 true) else (if t281 = t274 then (carillonlaw23_DemandMore.j2 kj23 a4 y256 t281 t282 t283 (decide (t282 > t275))) else (carillonlaw23_DemandMore.j2 kj23 a4 y256 t281 t282 t283 false))) else (carillonlaw23_DemandMore.j2 kj23 a4 y256 t281 t282 t283 true)) = some r := by rw [if_pos rfl] at H; exact H
                        clear H
                        have H := H1
                        clear H1
                        by_cases c51 : t283 = true
                        · subst c51
                          have H1 : (if t281 > t274 then (carillonlaw23_DemandMore.j2 kj23 a4 y256 t281 t282 true true) else (if t281 = t274 then (carillonlaw23_DemandMore.j2 kj23 a4 y256 t281 t282 true (decide (t282 > t275))) else (carillonlaw23_DemandMore.j2 kj23 a4 y256 t281 t282 true false))) = some r := by rw [if_pos rfl] at H; exact H
                          clear H
                          have H := H1
                          clear H1
                          by_cases c52 : t281 > t274
                          · rw [if_pos c52] at H
                            have c52b0 : decide (t274 < t281) = true := decide_eq_true c52
                            clear c52
                            have H' := Aside0.mk H
                            clear H
                            go_wp2
                            go_meet
                            case rel => exact ⟨_, (true), (by first | rfl | (simp; done) | (simp [*]; done)), H', ⟨by have := HJ7.out; have := HJ23.out; first | omega | exact Nat.le_refl _⟩, ⟨by (with_reducible repeat (first | apply Kd.R_alloc | apply Kd.R_drewN | apply Kd.R_drew)); exact Kd.R_mono HO_11.out (fun _ hk => hk.1.1)⟩, ⟨by (with_reducible repeat (first | refine blk_drewN ?_ _ | refine blk_drew ?_ | refine blk_alloc ?_ _)); exact BK252.out⟩, ⟨by repeat (first | (with_reducible first | exact HB.out | apply below_alloc | apply pw_below_drewN | apply below_drew1 | refine below_set ?_ GE252.out) | exact HB.out)⟩⟩
                          · rw [if_neg c52] at H
                            have c52b0 : decide (t274 < t281) = false := decide_eq_false c52
                            clear c52
                            by_cases c53 : t281 = t274
                            · rw [if_pos c53] at H
                              have c53b0 : (t281 == t274) = true := beq_iff_eq.mpr c53
                              have c53b1 : (t281 != t274) = false := bne_eq_false_iff_eq.mpr c53
                              clear c53
                              have H' := Aside0.mk H
                              clear H
                              go_wp2
                              go_meet
                              case rel => exact ⟨_, (decide (t282 > t275)), (by first | rfl | (simp; done) | (simp [*]; done)), H', ⟨by have := HJ7.out; have := HJ23.out; first | omega | exact Nat.le_refl _⟩, ⟨by (with_reducible repeat (first | apply Kd.R_alloc | apply Kd.R_drewN | apply Kd.R_drew)); exact Kd.R_mono HO_11.out (fun _ hk => hk.1.1)⟩, ⟨by (with_reducible repeat (first | refine blk_drewN ?_ _ | refine blk_drew ?_ | refine blk_alloc ?_ _)); exact BK252.out⟩, ⟨by repeat (first | (with_reducible first | exact HB.out | apply below_alloc | apply pw_below_drewN | apply below_drew1 | refine below_set ?_ GE252.out) | exact HB.out)⟩⟩
                            · rw [if_neg c53] at H
                              have c53b0 : (t281 == t274) = false := beq_eq_false_iff_ne.mpr c53
                              have c53b1 : (t281 != t274) = true := bne_iff_ne.mpr c53
                              have H' := Aside0.mk H
                              clear H
                              go_wp2
                              go_meet
                              case rel => exact ⟨_, (false), (by first | rfl | (simp; done) | (simp [*]; done)), H', ⟨by have := HJ7.out; have := HJ23.out; first | omega | exact Nat.le_refl _⟩, ⟨by (with_reducible repeat (first | apply Kd.R_alloc | apply Kd.R_drewN | apply Kd.R_drew)); exact Kd.R_mono HO_11.out (fun _ hk => hk.1.1)⟩, ⟨by (with_reducible repeat (first | refine blk_drewN ?_ _ | refine blk_drew ?_ | refine blk_alloc ?_ _)); exact BK252.out⟩, ⟨by repeat (first | (with_reducible first | exact HB.out | apply below_alloc | apply pw_below_drewN | apply below_drew1 | refine below_set ?_ GE252.out) | exact HB.out)⟩⟩
                        · replace c51 := Bool.eq_false_iff.mpr c51
                          subst c51
                          have H1 : (carillonlaw23_DemandMore.j2 kj23 a4 y256 t281 t282 false true) = some r := by rw [if_neg (show ¬ (false = true) by decide)] at H; exact H
                          clear H
                          have H := H1
                          clear H1
                          have H' := Aside0.mk H
                          clear H
                          go_wp2
                          go_meet
                          case rel => exact ⟨_, (true), (by first | rfl | (simp; done) | (simp [*]; done)), H', ⟨by have := HJ7.out; have := HJ23.out; first | omega | exact Nat.le_refl _⟩, ⟨by (with_reducible repeat (first | apply Kd.R_alloc | apply Kd.R_drewN | apply Kd.R_drew)); exact Kd.R_mono HO_11.out (fun _ hk => hk.1.1)⟩, ⟨by (with_reducible repeat (first | refine blk_drewN ?_ _ | refine blk_drew ?_ | refine blk_alloc ?_ _)); exact BK252.out⟩, ⟨by repeat (first | (with_reducible first | exact HB.out | apply below_alloc | apply pw_below_drewN | apply below_drew1 | refine below_set ?_ GE252.out) | exact HB.out)⟩⟩
                      · replace c50 := Bool.eq_false_iff.mpr c50
                        subst c50
                        have H1 : (carillonlaw23_DemandMore.j2 kj23 a4 y256 t281 t282 t283 false) = some r := by rw [if_neg (show ¬ (false = true) by decide)] at H; exact H
                        clear H
                        have H := H1
                        clear H1
                        have H' := Aside0.mk H
                        clear H
                        go_wp2
                        go_meet
                        case rel => exact ⟨_, (false), (by first | rfl | (simp; done) | (simp [*]; done)), H', ⟨by have := HJ7.out; have := HJ23.out; first | omega | exact Nat.le_refl _⟩, ⟨by (with_reducible repeat (first | apply Kd.R_alloc | apply Kd.R_drewN | apply Kd.R_drew)); exact Kd.R_mono HO_11.out (fun _ hk => hk.1.1)⟩, ⟨by (with_reducible repeat (first | refine blk_drewN ?_ _ | refine blk_drew ?_ | refine blk_alloc ?_ _)); exact BK252.out⟩, ⟨by repeat (first | (with_reducible first | exact HB.out | apply below_alloc | apply pw_below_drewN | apply below_drew1 | refine below_set ?_ GE252.out) | exact HB.out)⟩⟩
                    · rw [if_neg c49] at H
                      have c49b0 : (t284 == 0) = false := beq_eq_false_iff_ne.mpr c49
                      have c49b1 : (t284 != 0) = true := bne_iff_ne.mpr c49
                      have H' := Aside0.mk H
                      clear H
                      go_wp2
                      go_meet
                      case rel => exact ⟨_, (true), (by first | rfl | (simp; done) | (simp [*]; done)), H', ⟨by have := HJ7.out; have := HJ23.out; first | omega | exact Nat.le_refl _⟩, ⟨by (with_reducible repeat (first | apply Kd.R_alloc | apply Kd.R_drewN | apply Kd.R_drew)); exact Kd.R_mono HO_11.out (fun _ hk => hk.1.1)⟩, ⟨by (with_reducible repeat (first | refine blk_drewN ?_ _ | refine blk_drew ?_ | refine blk_alloc ?_ _)); exact BK252.out⟩, ⟨by repeat (first | (with_reducible first | exact HB.out | apply below_alloc | apply pw_below_drewN | apply below_drew1 | refine below_set ?_ GE252.out) | exact HB.out)⟩⟩
                  · rw [if_neg c48] at H
                    have c48b0 : (t277 == 0) = false := beq_eq_false_iff_ne.mpr c48
                    have c48b1 : (t277 != 0) = true := bne_iff_ne.mpr c48
                    (first | rw [c48b0] | (simp only [i64_w, i32_w]; rw [c48b0]) | skip)
                    have H' := Aside0.mk H
                    clear H
                    go_wp2
                    go_meet
                    case rel => exact ⟨_, (true), (by first | rfl | (simp; done) | (simp [*]; done)), H', ⟨by have := HJ7.out; have := HJ23.out; first | omega | exact Nat.le_refl _⟩, ⟨by (with_reducible repeat (first | apply Kd.R_alloc | apply Kd.R_drewN | apply Kd.R_drew)); exact Kd.R_mono HO_11.out (fun _ hk => hk.1.1)⟩, ⟨by (with_reducible repeat (first | refine blk_drewN ?_ _ | refine blk_drew ?_ | refine blk_alloc ?_ _)); exact BK252.out⟩, ⟨by repeat (first | (with_reducible first | exact HB.out | apply below_alloc | apply pw_below_drewN | apply below_drew1 | refine below_set ?_ GE252.out) | exact HB.out)⟩⟩
                case rest =>
                  as_aux_lemma =>
                  clear HC41
                  try clear c1
                  try clear p2
                  try clear c3
                  try clear c4
                  try clear c5
                  try clear c6
                  try clear p6
                  try clear c7
                  try clear c8
                  try clear c9
                  try clear c10
                  try clear c12
                  try clear c13
                  try clear c13b0
                  try clear c13b1
                  try clear c17
                  try clear c32
                  try clear c32b0
                  try clear c32b1
                  try clear c33
                  try clear c33b0
                  try clear c33b1
                  try clear c34
                  try clear c34b0
                  try clear c36
                  try clear c48
                  try clear c48b0
                  try clear c48b1
                  try clear c49
                  try clear c49b0
                  try clear c49b1
                  try clear c50
                  try clear c51
                  try clear c52
                  try clear c52b0
                  try clear c53
                  try clear c53b0
                  try clear c53b1
                  try clear hcz11_0
                  try clear hcz11_1
                  try clear hcz11_2
                  try clear hcz35_0
                  try clear hcz35_1
                  try clear hcz35_2
                  try clear hfz11_0
                  try clear hfz11_1
                  try clear hfz11_2
                  try clear hfz35_0
                  try clear hfz35_1
                  try clear hfz35_2
                  try clear p2
                  try clear p6
                  obtain ⟨kq, x129_40, rfl, HA, HJ40, HO_11, BK252, HB⟩ := hcut
                  cases kq with
                  | zero => exact absurd HA.out (by simp [carillonlaw23_DemandMore.j2])
                  | succ kj40 =>
                    have H := HA.out
                    clear HA
                    simp only [carillonlaw23_DemandMore.j2] at H
                    by_cases c54 : x129_40 = true
                    · subst c54
                      have H1 : (some false) = some r := by rw [if_pos rfl] at H; exact H
                      clear H
                      have H := H1
                      clear H1
                      obtain rfl := Option.some.inj H
                      go_wp2
                      go_ret
                      exact ⟨by first | rfl | (simp [errW_none, errW_some] <;> rfl) | (simp [*, errW_none, errW_some] <;> rfl), by repeat (first | (with_reducible first | exact HB.out | apply below_alloc | apply pw_below_drewN | apply below_drew1 | refine below_set ?_ GE252.out) | exact HB.out)⟩
                    · replace c54 := Bool.eq_false_iff.mpr c54
                      subst c54
                      have H1 : (carillonlaw23_DemandMore.l0 kj40 a4 y256 t281 t282 t283 0) = some r := by rw [if_neg (show ¬ (false = true) by decide)] at H; exact H
                      clear H
                      have H := H1
                      clear H1
                      have H' := Aside0.mk H
                      clear H
                      go_wp2
                      go_loopg [24] kj40 (fun kq v24 w' => ∃ (x11_4 : List (S38)) (x24_4 : Int) (x253000_4 : Int) (x253001_4 : Int), v24 = .int .i64 x24_4 ∧ Aside0 (carillonlaw23_DemandMore.l0 kq a4 x11_4 t281 t282 t283 x24_4 = some r) ∧ Aside0 (kq ≤ kj40) ∧ Aside0 (Kd.R k38 38 w' w.heap.size (fun k_ => k_ ≠ gb252) (.slice Ao28 y256.length co28) x11_4) ∧ Aside0 (w'.heap[gb252]? = some (.cells #[.int .i64 x253000_4, .int .i64 x253001_4, .int .i64 a1_2] 38 (0, 0))) ∧ Aside0 (Below w.heap.size w w'))
                      case atStart => exact ⟨(y256), (0), (a1_0), (a1_1), (by first | rfl | (simp; done) | (simp [*]; done)), H', ⟨Nat.le_refl _⟩, ⟨by (with_reducible repeat (first | apply Kd.R_alloc | apply Kd.R_drewN | apply Kd.R_drew)); exact HO_11.out⟩, ⟨by (with_reducible repeat (first | refine blk_drewN ?_ _ | refine blk_drew ?_ | refine blk_alloc ?_ _)); exact BK252.out⟩, ⟨by repeat (first | (with_reducible first | exact HB.out | apply below_alloc | apply pw_below_drewN | apply below_drew1 | refine below_set ?_ GE252.out) | exact HB.out)⟩⟩
                      case round =>
                        as_aux_lemma =>
                        clear H'
                        try clear c1
                        try clear p2
                        try clear c3
                        try clear c4
                        try clear c5
                        try clear c6
                        try clear p6
                        try clear c7
                        try clear c8
                        try clear c9
                        try clear c10
                        try clear c12
                        try clear c13
                        try clear c13b0
                        try clear c13b1
                        try clear c17
                        try clear c32
                        try clear c32b0
                        try clear c32b1
                        try clear c33
                        try clear c33b0
                        try clear c33b1
                        try clear c34
                        try clear c34b0
                        try clear c36
                        try clear c48
                        try clear c48b0
                        try clear c48b1
                        try clear c49
                        try clear c49b0
                        try clear c49b1
                        try clear c50
                        try clear c51
                        try clear c52
                        try clear c52b0
                        try clear c53
                        try clear c53b0
                        try clear c53b1
                        try clear c54
                        try clear hcz11_0
                        try clear hcz11_1
                        try clear hcz11_2
                        try clear hcz35_0
                        try clear hcz35_1
                        try clear hcz35_2
                        try clear hfz11_0
                        try clear hfz11_1
                        try clear hfz11_2
                        try clear hfz35_0
                        try clear hfz35_1
                        try clear hfz35_2
                        try clear p2
                        try clear p6
                        obtain ⟨x11_4, x24_4, x253000_4, x253001_4, rfl, HA, HK4, HO_11, BK252, HB⟩ := hrel
                        have hl11_4 := (Kd.R_reads' HO_11.out).1
                        rw [hl11_4] at HO_11
                        (try simp only [hl11_4])
                        (try simp only [hl11_4] at BK252)
                        cases gk with
                        | zero => exact absurd HA.out (by simp [carillonlaw23_DemandMore.l0])
                        | succ k4 =>
                          have H := HA.out
                          clear HA
                          simp only [carillonlaw23_DemandMore.l0] at H
                          by_cases c55 : x24_4 < (x11_4.length : Int)
                          · rw [if_pos c55] at H
                            have c55b0 : decide (x24_4 < (x11_4.length : Int)) = true := decide_eq_true c55
                            clear c55
                            by_cases c56 : 0 ≤ x24_4
                            · rw [if_pos c56] at H
                              have c56b0 : decide (0 ≤ x24_4) = true := decide_eq_true c56
                              clear c56
                              obtain ⟨y286, hy286⟩ : ∃ y_ : List (S38), y_ = (x11_4.set (x24_4 : Int).toNat (⟨wrap64 (((rd_T38 x11_4 x24_4).f0) + (wrap64 (a4))), (rd_T38 x11_4 x24_4).f1, (rd_T38 x11_4 x24_4).f2⟩ : S38)) := ⟨_, rfl⟩
                              replace H : (carillonlaw23_DemandMore.l0 k4 a4 (y286.set (x24_4 : Int).toNat (⟨(rd_T38 y286 x24_4).f0, wrap64 (((rd_T38 y286 x24_4).f1) + (wrap64 (a4))), (rd_T38 y286 x24_4).f2⟩ : S38)) t281 t282 t283 (wrap64 (x24_4 + 1))) = some r := by first | (rw [hy286]; with_reducible exact H) | (have H2_ := (Option.bind_some _ _).symm.trans H; rw [hy286]; with_reducible exact H2_) | (have H2_ := (Option.bind_some _ _).symm.trans H; with_reducible exact H2_) | with_reducible exact H | (rw [hy286]; exact H) | exact H
                              have Ny286 := Aside0.mk hy286
                              clear hy286
                              obtain ⟨y288, hy288⟩ : ∃ y_ : List (S38), y_ = (y286.set (x24_4 : Int).toNat (⟨(rd_T38 y286 x24_4).f0, wrap64 (((rd_T38 y286 x24_4).f1) + (wrap64 (a4))), (rd_T38 y286 x24_4).f2⟩ : S38)) := ⟨_, rfl⟩
                              replace H : (carillonlaw23_DemandMore.l0 k4 a4 y288 t281 t282 t283 (wrap64 (x24_4 + 1))) = some r := by first | (rw [hy288]; with_reducible exact H) | (have H2_ := (Option.bind_some _ _).symm.trans H; rw [hy288]; with_reducible exact H2_) | (have H2_ := (Option.bind_some _ _).symm.trans H; with_reducible exact H2_) | with_reducible exact H | (rw [hy288]; exact H) | exact H
                              have Ny288 := Aside0.mk hy288
                              clear hy288
                              have H' := Aside0.mk H
                              clear H
                              have p285 : 0 ≤ (x24_4 : Int) := of_decide_eq_true (by first | (with_reducible assumption) | assumption)
                              have q285 : x24_4 < (x11_4.length : Int) := of_decide_eq_true (by first | (with_reducible assumption) | assumption)
                              obtain ⟨ad285, e285, hx285_0, hx285_1, hx285_2⟩ := at_T38 (Kd.R_reads' HO_11.out).2.2 x24_4 p285 q285
                              cases e285
                              replace p285 := eq_true p285
                              replace q285 := eq_true q285
                              have p57 : 0 ≤ (x24_4 : Int) := of_decide_eq_true (by first | (with_reducible assumption) | assumption)
                              have q57 : (x24_4 : Int) < ((x11_4.length : Int) : Int) := of_decide_eq_true (by first | (with_reducible assumption) | assumption)
                              obtain ⟨go57, co57, eo57, gb57, gl57, cl57, HG57⟩ := Kd.R_form HO_11.out (by omega)
                              (first | cases eo57 | (injection eo57 with ea_ en_ ec_; (first | subst ea_ | (injection ea_ with ea_; subst ea_)); subst ec_; clear en_))
                              have GB57 := Aside0.mk gb57
                              have GG57 := Aside0.mk HG57
                              clear gb57 gl57 HG57
                              (first | simp only [add_plain] at hx285_0 | skip)
                              (first | simp only [add_plain] at hx285_1 | skip)
                              (first | simp only [add_plain] at hx285_2 | skip)
                              obtain ⟨ce57, hcl57, hM57, hcc57, hfr57⟩ := Kd.R_elem HO_11.out z38 (x24_4 : Int) p57 q57
                              obtain rfl := k38_openM hM57
                              have hx57_0 : wr.cell? ⟨go57, (x24_4 : Int).toNat * 3, none⟩ = some (.int .i64 ((rd_T38 x11_4 x24_4).f0)) := hcc57 0 _ rfl
                              have hx57_1 : wr.cell? ⟨go57, (x24_4 : Int).toNat * 3 + 1, none⟩ = some (.int .i64 ((rd_T38 x11_4 x24_4).f1)) := hcc57 1 _ rfl
                              have hx57_2 : wr.cell? ⟨go57, (x24_4 : Int).toNat * 3 + 2, none⟩ = some (.int .i64 ((rd_T38 x11_4 x24_4).f2)) := hcc57 2 _ rfl
                              have hf57_0 : wr.frozen? ⟨go57, (x24_4 : Int).toNat * 3, none⟩ = false := hfr57 0
                              have hf57_1 : wr.frozen? ⟨go57, (x24_4 : Int).toNat * 3 + 1, none⟩ = false := hfr57 1
                              have hf57_2 : wr.frozen? ⟨go57, (x24_4 : Int).toNat * 3 + 2, none⟩ = false := hfr57 2
                              clear hcl57 hcc57 hfr57 hM57
                              replace p57 := eq_true p57
                              replace q57 := eq_true q57
                              have HX59 := Aside0.mk (show Kd.R k38 38 wr w.heap.size (fun k_ => k_ ≠ gb252) (.slice (some ⟨go57, 0, none⟩) x11_4.length co28) x11_4 from (by (with_reducible repeat (first | apply Kd.R_alloc | apply Kd.R_drewN | apply Kd.R_drew)); exact HO_11.out))
                              obtain ⟨ce59, hcl59, hM59, hcc59, hfr59⟩ := Kd.R_elem HX59.out z38 (x24_4 : Int) (of_decide_eq_true (by first | (with_reducible assumption) | assumption)) (by have h_ : (x24_4 : Int) < ((x11_4.length : Int) : Int) := of_decide_eq_true (by first | (with_reducible assumption) | assumption); first | exact h_ | (have e_ := (Kd.R_reads' HO_11.out).1; omega) | simpa using h_)
                              obtain rfl := k38_openM hM59
                              have HP59 := Kd.R_seg HX59.out (x24_4 : Int) (of_decide_eq_true (by first | (with_reducible assumption) | assumption)) (by have h_ : (x24_4 : Int) < ((x11_4.length : Int) : Int) := of_decide_eq_true (by first | (with_reducible assumption) | assumption); first | exact h_ | (have e_ := (Kd.R_reads' HO_11.out).1; omega) | simpa using h_) (seg := [.int .i64 (wrap64 (((rd_T38 x11_4 x24_4).f0) + (wrap64 (a4))))]) (j := 0) hcl59 hcc59 (show 1 ≤ 3 from by decide) (x' := (⟨wrap64 (((rd_T38 x11_4 x24_4).f0) + (wrap64 (a4))), (rd_T38 x11_4 x24_4).f1, (rd_T38 x11_4 x24_4).f2⟩ : S38)) (k38_mkM _ _ _ (⟨wrap64 (((rd_T38 x11_4 x24_4).f0) + (wrap64 (a4))), (rd_T38 x11_4 x24_4).f1, (rd_T38 x11_4 x24_4).f2⟩ : S38) ) (fun _ hk => hk)
                              have hx59_0 := hcc59 0 _ rfl
                              (try simp only [show (k38).sz = 3 from rfl, Nat.mul_one, Nat.add_zero] at hx59_0)
                              have hf59_0 := hfr59 0
                              (try simp only [show (k38).sz = 3 from rfl, Nat.mul_one, Nat.add_zero] at hf59_0)
                              clear hcl59 hcc59 hfr59 hM59
                              go_wp2_with (first | ((with_reducible refine gate_store (t := 2) (p := 147) rfl ?_); refine store_event (t := 2) (p := 147) (v := ?vo_w60) (w1 := (wr.setCell ⟨go57, (x24_4 : Int).toNat * 3, none⟩ (.int .i64 (wrap64 (((rd_T38 x11_4 x24_4).f0) + (wrap64 (a4))))))) ?hg ?ho ?hn ?hr ?_; (case ho => rfl); (case hg => rfl); (case hn => rfl); (case hr => first | (go_simp; done) | (go_simp; rfl)); intro w60 hw; have hg : wr.grownBy w60 (some go57) := (by rw [hw]; exact HP59.2); have hp_ : Kd.R k38 38 w60 w.heap.size (fun k_ => k_ ≠ gb252) (.slice (some ⟨go57, 0, none⟩) x11_4.length co28) y286 := (by rw [hw, Ny286.out]; exact HP59.1); clear HP59; have n0_ := Aside0.mk (hp_); have n1_ := Aside0.mk (blk_grown (g := gb252) (o := .cells #[.int .i64 x253000_4, .int .i64 x253001_4, .int .i64 a1_2] 38 (0, 0)) (by (with_reducible repeat (first | refine blk_drewN ?_ _ | refine blk_drew ?_ | refine blk_alloc ?_ _)); exact BK252.out) hg (Kd.R_away HO_11.out (fun _ hk => hk))); have n2_ := Aside0.mk ((by rw [hw]; exact below_set (HB.out) GB57.out : Below w.heap.size w w60)); clear HO_11; clear BK252; clear HB; have HO_11 := n0_; have BK252 := n1_; have HB := n2_; clear n0_ n1_ n2_; clear hg hw hp_; have p287 : 0 ≤ (x24_4 : Int) := of_decide_eq_true (by first | (with_reducible assumption) | assumption); have q287 : x24_4 < (y286.length : Int) := (by have h_ : (x24_4 : Int) < ((x11_4.length : Int) : Int) := of_decide_eq_true (by first | (with_reducible assumption) | assumption); first | (have e_ := (Kd.R_reads' HO_11.out).1; omega) | simpa only [Ny286.out, List.length_set] using h_); have ql287 : ((x24_4 : Int) < ((x11_4.length : Int) : Int)) = True := eq_true (of_decide_eq_true (by first | (with_reducible assumption) | assumption)); obtain ⟨ad287, e287, hx287_0, hx287_1, hx287_2⟩ := at_T38 (Kd.R_reads' HO_11.out).2.2 x24_4 p287 q287; obtain rfl : (⟨go57, 0, none⟩ : Addr) = ad287 := (by injection e287); (first | simp only [add_plain] at hx287_0 | simp only [add_at] at hx287_0 | simp only [Addr.add, Nat.zero_add] at hx287_0 | skip); (first | simp only [add_plain] at hx287_1 | simp only [add_at] at hx287_1 | simp only [Addr.add, Nat.zero_add] at hx287_1 | skip); (first | simp only [add_plain] at hx287_2 | simp only [add_at] at hx287_2 | simp only [Addr.add, Nat.zero_add] at hx287_2 | skip); replace p287 := eq_true p287; replace q287 := eq_true q287; have p58 : 0 ≤ (x24_4 : Int) := of_decide_eq_true (by first | (with_reducible assumption) | assumption); have q58 : (x24_4 : Int) < ((x11_4.length : Int) : Int) := of_decide_eq_true (by first | (with_reducible assumption) | assumption); obtain ⟨ce58, hcl58, hM58, hcc58, hfr58⟩ := Kd.R_elem HO_11.out z38 (x24_4 : Int) p58 q58; obtain rfl := k38_openM hM58; have hx58_0 : w60.cell? ⟨go57, (x24_4 : Int).toNat * 3, none⟩ = some (.int .i64 ((rd_T38 y286 x24_4).f0)) := hcc58 0 _ rfl; have hx58_1 : w60.cell? ⟨go57, (x24_4 : Int).toNat * 3 + 1, none⟩ = some (.int .i64 ((rd_T38 y286 x24_4).f1)) := hcc58 1 _ rfl; have hx58_2 : w60.cell? ⟨go57, (x24_4 : Int).toNat * 3 + 2, none⟩ = some (.int .i64 ((rd_T38 y286 x24_4).f2)) := hcc58 2 _ rfl; have hf58_0 : w60.frozen? ⟨go57, (x24_4 : Int).toNat * 3, none⟩ = false := hfr58 0; have hf58_1 : w60.frozen? ⟨go57, (x24_4 : Int).toNat * 3 + 1, none⟩ = false := hfr58 1; have hf58_2 : w60.frozen? ⟨go57, (x24_4 : Int).toNat * 3 + 2, none⟩ = false := hfr58 2; clear hcl58 hcc58 hfr58 hM58; replace p58 := eq_true p58; replace q58 := eq_true q58; have HX61 := Aside0.mk (show Kd.R k38 38 w60 w.heap.size (fun k_ => k_ ≠ gb252) (.slice (some ⟨go57, 0, none⟩) x11_4.length co28) y286 from (by (with_reducible repeat (first | apply Kd.R_alloc | apply Kd.R_drewN | apply Kd.R_drew)); exact HO_11.out)); obtain ⟨ce61, hcl61, hM61, hcc61, hfr61⟩ := Kd.R_elem HX61.out z38 (x24_4 : Int) (of_decide_eq_true (by first | (with_reducible assumption) | assumption)) (by have h_ : (x24_4 : Int) < ((x11_4.length : Int) : Int) := of_decide_eq_true (by first | (with_reducible assumption) | assumption); first | exact h_ | (have e_ := (Kd.R_reads' HO_11.out).1; omega) | simpa using h_); obtain rfl := k38_openM hM61; have HP61 := Kd.R_seg HX61.out (x24_4 : Int) (of_decide_eq_true (by first | (with_reducible assumption) | assumption)) (by have h_ : (x24_4 : Int) < ((x11_4.length : Int) : Int) := of_decide_eq_true (by first | (with_reducible assumption) | assumption); first | exact h_ | (have e_ := (Kd.R_reads' HO_11.out).1; omega) | simpa using h_) (seg := [.int .i64 (wrap64 (((rd_T38 y286 x24_4).f1) + (wrap64 (a4))))]) (j := 1) hcl61 hcc61 (show 2 ≤ 3 from by decide) (x' := (⟨(rd_T38 y286 x24_4).f0, wrap64 (((rd_T38 y286 x24_4).f1) + (wrap64 (a4))), (rd_T38 y286 x24_4).f2⟩ : S38)) (k38_mkM _ _ _ (⟨(rd_T38 y286 x24_4).f0, wrap64 (((rd_T38 y286 x24_4).f1) + (wrap64 (a4))), (rd_T38 y286 x24_4).f2⟩ : S38) ) (fun _ hk => hk); have hx61_1 := hcc61 1 _ rfl; (try simp only [show (k38).sz = 3 from rfl, Nat.mul_one, Nat.add_zero] at hx61_1); have hf61_1 := hfr61 1; (try simp only [show (k38).sz = 3 from rfl, Nat.mul_one, Nat.add_zero] at hf61_1); clear hcl61 hcc61 hfr61 hM61) | ((with_reducible refine gate_store (t := 2) (p := 159) rfl ?_); refine store_event (t := 2) (p := 159) (v := ?vo_w62) (w1 := (w60.setCell ⟨go57, (x24_4 : Int).toNat * 3 + 1, none⟩ (.int .i64 (wrap64 (((rd_T38 y286 x24_4).f1) + (wrap64 (a4))))))) ?hg ?ho ?hn ?hr ?_; (case ho => rfl); (case hg => rfl); (case hn => rfl); (case hr => first | (go_simp; done) | (go_simp; rfl)); intro w62 hw; have hg : w60.grownBy w62 (some go57) := (by rw [hw]; exact HP61.2); have hp_ : Kd.R k38 38 w62 w.heap.size (fun k_ => k_ ≠ gb252) (.slice (some ⟨go57, 0, none⟩) x11_4.length co28) y288 := (by rw [hw, Ny288.out]; exact HP61.1); clear HP61; have n0_ := Aside0.mk (hp_); have n1_ := Aside0.mk (blk_grown (g := gb252) (o := .cells #[.int .i64 x253000_4, .int .i64 x253001_4, .int .i64 a1_2] 38 (0, 0)) (by (with_reducible repeat (first | refine blk_drewN ?_ _ | refine blk_drew ?_ | refine blk_alloc ?_ _)); exact BK252.out) hg (Kd.R_away HO_11.out (fun _ hk => hk))); have n2_ := Aside0.mk ((by rw [hw]; exact below_set (HB.out) GB57.out : Below w.heap.size w w62)); clear HO_11; clear BK252; clear HB; have HO_11 := n0_; have BK252 := n1_; have HB := n2_; clear n0_ n1_ n2_; clear hg hw hp_))
                              (try simp only [← hl11_4])
                              go_roundg k4
                              case measure => have := HJ7.out; have := HJ23.out; have := HJ40.out; have := HK4.out; omega
                              case rel => exact ⟨(y288), (wrap64 (x24_4 + 1)), (x253000_4), (x253001_4), (by first | rfl | (simp; done) | (simp [*]; done)), H', ⟨by have := HJ7.out; have := HJ23.out; have := HJ40.out; have := HK4.out; omega⟩, ⟨by (try simp only [hl11_4]); (with_reducible repeat (first | apply Kd.R_alloc | apply Kd.R_drewN | apply Kd.R_drew)); exact HO_11.out⟩, ⟨by (try simp only [hl11_4]); (with_reducible repeat (first | refine blk_drewN ?_ _ | refine blk_drew ?_ | refine blk_alloc ?_ _)); exact BK252.out⟩, ⟨by repeat (first | (with_reducible first | exact HB.out | apply below_alloc | apply pw_below_drewN | apply below_drew1 | refine below_set ?_ GE252.out) | exact HB.out)⟩⟩
                            · rw [if_neg c56] at H
                              exact absurd H (by simp)
                          · rw [if_neg c55] at H
                            have c55b0 : decide (x24_4 < (x11_4.length : Int)) = false := decide_eq_false c55
                            clear c55
                            replace H := Option.bind_eq_some_iff.mp H
                            obtain ⟨t289, A630, H⟩ := H
                            replace H : (if t289 = true then ((demand_Worst.f k4 x11_4 3).bind fun bt290 => (if bt290.2.2.2 = 0 then (if (bt290.2.2.1 == t283) = true then (if t283 = true then (if bt290.1 = (wrap64 (t281 + (wrap64 (a4)))) then (if bt290.2.1 = (wrap64 (t282 + (wrap64 (a4)))) then ((carillonlaw23_works.f k4).bind fun t294 => (some t294)) else (some false)) else (some false)) else ((carillonlaw23_works.f k4).bind fun t295 => (some t295))) else (some false)) else (some false))) else ((carillonlaw23_works.f k4).bind fun t296 => (some t296))) = some r := H
                            have A63 := Aside0.mk A630
                            clear A630
                            by_cases c64 : t289 = true
                            · subst c64
                              have H1 : ((demand_Worst.f k4 x11_4 3).bind fun bt290 => (if bt290.2.2.2 = 0 then (if (bt290.2.2.1 == t283) = true then (if t283 = true then (if bt290.1 = (wrap64 (t281 + (wrap64 (a4)))) then (if bt290.2.1 = (wrap64 (t282 + (wrap64 (a4)))) then ((carillonlaw23_works.f k4).bind fun t294 => (some t294)) else (some false)) else (some false)) else ((carillonlaw23_works.f k4).bind fun t295 => (some t295))) else (some false)) else (some false))) = some r := by rw [if_pos rfl] at H; exact H
                              clear H
                              have H := H1
                              clear H1
                              replace H := Option.bind_eq_some_iff.mp H
                              obtain ⟨⟨t290, t291, t292, t293⟩, A650, H⟩ := H
                              replace H : (if t293 = 0 then (if (t292 == t283) = true then (if t283 = true then (if t290 = (wrap64 (t281 + (wrap64 (a4)))) then (if t291 = (wrap64 (t282 + (wrap64 (a4)))) then ((carillonlaw23_works.f k4).bind fun t294 => (some t294)) else (some false)) else (some false)) else ((carillonlaw23_works.f k4).bind fun t295 => (some t295))) else (some false)) else (some false)) = some r := H
                              have A65 := Aside0.mk A650
                              clear A650
                              by_cases c66 : t293 = 0
                              · rw [if_pos c66] at H
                                have c66b0 : (t293 == 0) = true := beq_iff_eq.mpr c66
                                have c66b1 : (t293 != 0) = false := bne_eq_false_iff_eq.mpr c66
                                clear c66
                                by_cases c67 : (t292 == t283) = true
                                · rw [if_pos c67] at H
                                  have c67b0 : (t292 == t283) = true := c67
                                  (try (have c67b1 : decide (t292 = t283) = true := by simpa using c67))
                                  (try (have c67b2 : (t292 == t283) = true := by simpa using c67))
                                  clear c67
                                  by_cases c68 : t283 = true
                                  · subst c68
                                    have H1 : (if t290 = (wrap64 (t281 + (wrap64 (a4)))) then (if t291 = (wrap64 (t282 + (wrap64 (a4)))) then ((carillonlaw23_works.f k4).bind fun t294 => (some t294)) else (some false)) else (some false)) = some r := by rw [if_pos rfl] at H; exact H
                                    clear H
                                    have H := H1
                                    clear H1
                                    by_cases c69 : t290 = (wrap64 (t281 + (wrap64 (a4))))
                                    · rw [if_pos c69] at H
                                      have c69b0 : (t290 == (wrap64 (t281 + (wrap64 (a4))))) = true := beq_iff_eq.mpr c69
                                      have c69b1 : (t290 != (wrap64 (t281 + (wrap64 (a4))))) = false := bne_eq_false_iff_eq.mpr c69
                                      clear c69
                                      by_cases c70 : t291 = (wrap64 (t282 + (wrap64 (a4))))
                                      · rw [if_pos c70] at H
                                        have c70b0 : (t291 == (wrap64 (t282 + (wrap64 (a4))))) = true := beq_iff_eq.mpr c70
                                        have c70b1 : (t291 != (wrap64 (t282 + (wrap64 (a4))))) = false := bne_eq_false_iff_eq.mpr c70
                                        clear c70
                                        replace H := Option.bind_eq_some_iff.mp H
                                        obtain ⟨t294, A710, H⟩ := H
                                        replace H : (some t294) = some r := H
                                        have A71 := Aside0.mk A710
                                        clear A710
                                        obtain rfl := Option.some.inj H
                                        go_wp2_with (first | ((with_reducible refine gate_callee (f := 14) rfl ?_); refine goesL_ (some 161) rfl rfl Try.func14 (by kernel_rfl) rfl #[.slice Ao28 x11_4.length co28] rfl (by (try simp only [List.map_toArray, List.map_cons, List.map_nil]); first | done | rfl | (simp only [List.length_drop, List.length_take]; rfl)) ?_; (with_reducible refine (carillonref23_May.calls k4 _ _ x11_4 true _ ?side1 ?side2 A63.out).mono ?_); (case side1 => repeat (first | exact (Kd.R_reads' HO_11.out).2.2 | (with_reducible refine Kd.C_alloc ?_ _) | (with_reducible refine Kd.C_drewN ?_ _) | (with_reducible refine Kd.C_drew ?_))); (case side2 => exact (Kd.R_reads' HO_11.out).2.1); rintro e w72 ⟨rfl, hb⟩; refine ⟨_, rfl, ?_⟩; have n0_ := Aside0.mk (Kd.R_below (by (with_reducible repeat (first | apply Kd.R_alloc | apply Kd.R_drewN | apply Kd.R_drew)); exact HO_11.out) hb); have n1_ := Aside0.mk (blk_below (g := gb252) (o := .cells #[.int .i64 x253000_4, .int .i64 x253001_4, .int .i64 a1_2] 38 (0, 0)) (by (with_reducible repeat (first | refine blk_drewN ?_ _ | refine blk_drew ?_ | refine blk_alloc ?_ _)); exact BK252.out) hb); have n2_ := Aside0.mk (below_step (by repeat (first | (with_reducible first | exact HB.out | apply below_alloc | apply pw_below_drewN | apply below_drew1 | refine below_set ?_ GE252.out) | exact HB.out)) hb); clear HO_11; clear BK252; clear HB; have HO_11 := n0_; have BK252 := n1_; have HB := n2_; clear n0_ n1_ n2_; (try clear hb); (try clear hb2); (try clear hk); (try clear hi)) | ((with_reducible refine gate_callee (f := 12) rfl ?_); refine goesL_ (some 166) rfl rfl Try.func12 (by kernel_rfl) rfl #[.slice Ao28 x11_4.length co28, .int .i64 3] rfl (by (try simp only [List.map_toArray, List.map_cons, List.map_nil]); first | done | rfl | (simp only [List.length_drop, List.length_take]; rfl)) ?_; (with_reducible refine (demand_Worst.calls k4 _ _ x11_4 3 t290 t291 t292 t293 _ ?side1 ?side2 A65.out).mono ?_); (case side1 => repeat (first | exact (Kd.R_reads' HO_11.out).2.2 | (with_reducible refine Kd.C_alloc ?_ _) | (with_reducible refine Kd.C_drewN ?_ _) | (with_reducible refine Kd.C_drew ?_))); (case side2 => exact (Kd.R_reads' HO_11.out).2.1); rintro e w73 ⟨rfl, hb⟩; refine ⟨_, rfl, ?_⟩; have n0_ := Aside0.mk (Kd.R_below (by (with_reducible repeat (first | apply Kd.R_alloc | apply Kd.R_drewN | apply Kd.R_drew)); exact HO_11.out) hb); have n1_ := Aside0.mk (blk_below (g := gb252) (o := .cells #[.int .i64 x253000_4, .int .i64 x253001_4, .int .i64 a1_2] 38 (0, 0)) (by (with_reducible repeat (first | refine blk_drewN ?_ _ | refine blk_drew ?_ | refine blk_alloc ?_ _)); exact BK252.out) hb); have n2_ := Aside0.mk (below_step (by repeat (first | (with_reducible first | exact HB.out | apply below_alloc | apply pw_below_drewN | apply below_drew1 | refine below_set ?_ GE252.out) | exact HB.out)) hb); clear HO_11; clear BK252; clear HB; have HO_11 := n0_; have BK252 := n1_; have HB := n2_; clear n0_ n1_ n2_; (try clear hb); (try clear hb2); (try clear hk); (try clear hi)) | (go_at_call 8; (with_reducible refine (carillonlaw23_works.calls k4  t294 _ A71.out).mono ?_); rintro e w74 ⟨rfl, hb⟩; have n0_ := Aside0.mk (Kd.R_below (by (with_reducible repeat (first | apply Kd.R_alloc | apply Kd.R_drewN | apply Kd.R_drew)); exact HO_11.out) hb); have n1_ := Aside0.mk (blk_below (g := gb252) (o := .cells #[.int .i64 x253000_4, .int .i64 x253001_4, .int .i64 a1_2] 38 (0, 0)) (by (with_reducible repeat (first | refine blk_drewN ?_ _ | refine blk_drew ?_ | refine blk_alloc ?_ _)); exact BK252.out) hb); have n2_ := Aside0.mk (below_step (by repeat (first | (with_reducible first | exact HB.out | apply below_alloc | apply pw_below_drewN | apply below_drew1 | refine below_set ?_ GE252.out) | exact HB.out)) hb); clear HO_11; clear BK252; clear HB; have HO_11 := n0_; have BK252 := n1_; have HB := n2_; clear n0_ n1_ n2_; (try clear hb); (try clear hb2); (try clear hk); (try clear hi)))
                                        go_ret
                                        exact ⟨by first | rfl | (simp [errW_none, errW_some] <;> rfl) | (simp [*, errW_none, errW_some] <;> rfl), by repeat (first | (with_reducible first | exact HB.out | apply below_alloc | apply pw_below_drewN | apply below_drew1 | refine below_set ?_ GE252.out) | exact HB.out)⟩
                                      · rw [if_neg c70] at H
                                        have c70b0 : (t291 == (wrap64 (t282 + (wrap64 (a4))))) = false := beq_eq_false_iff_ne.mpr c70
                                        have c70b1 : (t291 != (wrap64 (t282 + (wrap64 (a4))))) = true := bne_iff_ne.mpr c70
                                        obtain rfl := Option.some.inj H
                                        go_wp2_with (first | ((with_reducible refine gate_callee (f := 14) rfl ?_); refine goesL_ (some 161) rfl rfl Try.func14 (by kernel_rfl) rfl #[.slice Ao28 x11_4.length co28] rfl (by (try simp only [List.map_toArray, List.map_cons, List.map_nil]); first | done | rfl | (simp only [List.length_drop, List.length_take]; rfl)) ?_; (with_reducible refine (carillonref23_May.calls k4 _ _ x11_4 true _ ?side1 ?side2 A63.out).mono ?_); (case side1 => repeat (first | exact (Kd.R_reads' HO_11.out).2.2 | (with_reducible refine Kd.C_alloc ?_ _) | (with_reducible refine Kd.C_drewN ?_ _) | (with_reducible refine Kd.C_drew ?_))); (case side2 => exact (Kd.R_reads' HO_11.out).2.1); rintro e w75 ⟨rfl, hb⟩; refine ⟨_, rfl, ?_⟩; have n0_ := Aside0.mk (Kd.R_below (by (with_reducible repeat (first | apply Kd.R_alloc | apply Kd.R_drewN | apply Kd.R_drew)); exact HO_11.out) hb); have n1_ := Aside0.mk (blk_below (g := gb252) (o := .cells #[.int .i64 x253000_4, .int .i64 x253001_4, .int .i64 a1_2] 38 (0, 0)) (by (with_reducible repeat (first | refine blk_drewN ?_ _ | refine blk_drew ?_ | refine blk_alloc ?_ _)); exact BK252.out) hb); have n2_ := Aside0.mk (below_step (by repeat (first | (with_reducible first | exact HB.out | apply below_alloc | apply pw_below_drewN | apply below_drew1 | refine below_set ?_ GE252.out) | exact HB.out)) hb); clear HO_11; clear BK252; clear HB; have HO_11 := n0_; have BK252 := n1_; have HB := n2_; clear n0_ n1_ n2_; (try clear hb); (try clear hb2); (try clear hk); (try clear hi)) | ((with_reducible refine gate_callee (f := 12) rfl ?_); refine goesL_ (some 166) rfl rfl Try.func12 (by kernel_rfl) rfl #[.slice Ao28 x11_4.length co28, .int .i64 3] rfl (by (try simp only [List.map_toArray, List.map_cons, List.map_nil]); first | done | rfl | (simp only [List.length_drop, List.length_take]; rfl)) ?_; (with_reducible refine (demand_Worst.calls k4 _ _ x11_4 3 t290 t291 t292 t293 _ ?side1 ?side2 A65.out).mono ?_); (case side1 => repeat (first | exact (Kd.R_reads' HO_11.out).2.2 | (with_reducible refine Kd.C_alloc ?_ _) | (with_reducible refine Kd.C_drewN ?_ _) | (with_reducible refine Kd.C_drew ?_))); (case side2 => exact (Kd.R_reads' HO_11.out).2.1); rintro e w76 ⟨rfl, hb⟩; refine ⟨_, rfl, ?_⟩; have n0_ := Aside0.mk (Kd.R_below (by (with_reducible repeat (first | apply Kd.R_alloc | apply Kd.R_drewN | apply Kd.R_drew)); exact HO_11.out) hb); have n1_ := Aside0.mk (blk_below (g := gb252) (o := .cells #[.int .i64 x253000_4, .int .i64 x253001_4, .int .i64 a1_2] 38 (0, 0)) (by (with_reducible repeat (first | refine blk_drewN ?_ _ | refine blk_drew ?_ | refine blk_alloc ?_ _)); exact BK252.out) hb); have n2_ := Aside0.mk (below_step (by repeat (first | (with_reducible first | exact HB.out | apply below_alloc | apply pw_below_drewN | apply below_drew1 | refine below_set ?_ GE252.out) | exact HB.out)) hb); clear HO_11; clear BK252; clear HB; have HO_11 := n0_; have BK252 := n1_; have HB := n2_; clear n0_ n1_ n2_; (try clear hb); (try clear hb2); (try clear hk); (try clear hi)))
                                        go_ret
                                        exact ⟨by first | rfl | (simp [errW_none, errW_some] <;> rfl) | (simp [*, errW_none, errW_some] <;> rfl), by repeat (first | (with_reducible first | exact HB.out | apply below_alloc | apply pw_below_drewN | apply below_drew1 | refine below_set ?_ GE252.out) | exact HB.out)⟩
                                    · rw [if_neg c69] at H
                                      have c69b0 : (t290 == (wrap64 (t281 + (wrap64 (a4))))) = false := beq_eq_false_iff_ne.mpr c69
                                      have c69b1 : (t290 != (wrap64 (t281 + (wrap64 (a4))))) = true := bne_iff_ne.mpr c69
                                      obtain rfl := Option.some.inj H
                                      go_wp2_with (first | ((with_reducible refine gate_callee (f := 14) rfl ?_); refine goesL_ (some 161) rfl rfl Try.func14 (by kernel_rfl) rfl #[.slice Ao28 x11_4.length co28] rfl (by (try simp only [List.map_toArray, List.map_cons, List.map_nil]); first | done | rfl | (simp only [List.length_drop, List.length_take]; rfl)) ?_; (with_reducible refine (carillonref23_May.calls k4 _ _ x11_4 true _ ?side1 ?side2 A63.out).mono ?_); (case side1 => repeat (first | exact (Kd.R_reads' HO_11.out).2.2 | (with_reducible refine Kd.C_alloc ?_ _) | (with_reducible refine Kd.C_drewN ?_ _) | (with_reducible refine Kd.C_drew ?_))); (case side2 => exact (Kd.R_reads' HO_11.out).2.1); rintro e w77 ⟨rfl, hb⟩; refine ⟨_, rfl, ?_⟩; have n0_ := Aside0.mk (Kd.R_below (by (with_reducible repeat (first | apply Kd.R_alloc | apply Kd.R_drewN | apply Kd.R_drew)); exact HO_11.out) hb); have n1_ := Aside0.mk (blk_below (g := gb252) (o := .cells #[.int .i64 x253000_4, .int .i64 x253001_4, .int .i64 a1_2] 38 (0, 0)) (by (with_reducible repeat (first | refine blk_drewN ?_ _ | refine blk_drew ?_ | refine blk_alloc ?_ _)); exact BK252.out) hb); have n2_ := Aside0.mk (below_step (by repeat (first | (with_reducible first | exact HB.out | apply below_alloc | apply pw_below_drewN | apply below_drew1 | refine below_set ?_ GE252.out) | exact HB.out)) hb); clear HO_11; clear BK252; clear HB; have HO_11 := n0_; have BK252 := n1_; have HB := n2_; clear n0_ n1_ n2_; (try clear hb); (try clear hb2); (try clear hk); (try clear hi)) | ((with_reducible refine gate_callee (f := 12) rfl ?_); refine goesL_ (some 166) rfl rfl Try.func12 (by kernel_rfl) rfl #[.slice Ao28 x11_4.length co28, .int .i64 3] rfl (by (try simp only [List.map_toArray, List.map_cons, List.map_nil]); first | done | rfl | (simp only [List.length_drop, List.length_take]; rfl)) ?_; (with_reducible refine (demand_Worst.calls k4 _ _ x11_4 3 t290 t291 t292 t293 _ ?side1 ?side2 A65.out).mono ?_); (case side1 => repeat (first | exact (Kd.R_reads' HO_11.out).2.2 | (with_reducible refine Kd.C_alloc ?_ _) | (with_reducible refine Kd.C_drewN ?_ _) | (with_reducible refine Kd.C_drew ?_))); (case side2 => exact (Kd.R_reads' HO_11.out).2.1); rintro e w78 ⟨rfl, hb⟩; refine ⟨_, rfl, ?_⟩; have n0_ := Aside0.mk (Kd.R_below (by (with_reducible repeat (first | apply Kd.R_alloc | apply Kd.R_drewN | apply Kd.R_drew)); exact HO_11.out) hb); have n1_ := Aside0.mk (blk_below (g := gb252) (o := .cells #[.int .i64 x253000_4, .int .i64 x253001_4, .int .i64 a1_2] 38 (0, 0)) (by (with_reducible repeat (first | refine blk_drewN ?_ _ | refine blk_drew ?_ | refine blk_alloc ?_ _)); exact BK252.out) hb); have n2_ := Aside0.mk (below_step (by repeat (first | (with_reducible first | exact HB.out | apply below_alloc | apply pw_below_drewN | apply below_drew1 | refine below_set ?_ GE252.out) | exact HB.out)) hb); clear HO_11; clear BK252; clear HB; have HO_11 := n0_; have BK252 := n1_; have HB := n2_; clear n0_ n1_ n2_; (try clear hb); (try clear hb2); (try clear hk); (try clear hi)))
                                      go_ret
                                      exact ⟨by first | rfl | (simp [errW_none, errW_some] <;> rfl) | (simp [*, errW_none, errW_some] <;> rfl), by repeat (first | (with_reducible first | exact HB.out | apply below_alloc | apply pw_below_drewN | apply below_drew1 | refine below_set ?_ GE252.out) | exact HB.out)⟩
                                  · replace c68 := Bool.eq_false_iff.mpr c68
                                    subst c68
                                    have H1 : ((carillonlaw23_works.f k4).bind fun t295 => (some t295)) = some r := by rw [if_neg (show ¬ (false = true) by decide)] at H; exact H
                                    clear H
                                    have H := H1
                                    clear H1
                                    replace H := Option.bind_eq_some_iff.mp H
                                    obtain ⟨t295, A790, H⟩ := H
                                    replace H : (some t295) = some r := H
                                    have A79 := Aside0.mk A790
                                    clear A790
                                    obtain rfl := Option.some.inj H
                                    go_wp2_with (first | ((with_reducible refine gate_callee (f := 14) rfl ?_); refine goesL_ (some 161) rfl rfl Try.func14 (by kernel_rfl) rfl #[.slice Ao28 x11_4.length co28] rfl (by (try simp only [List.map_toArray, List.map_cons, List.map_nil]); first | done | rfl | (simp only [List.length_drop, List.length_take]; rfl)) ?_; (with_reducible refine (carillonref23_May.calls k4 _ _ x11_4 true _ ?side1 ?side2 A63.out).mono ?_); (case side1 => repeat (first | exact (Kd.R_reads' HO_11.out).2.2 | (with_reducible refine Kd.C_alloc ?_ _) | (with_reducible refine Kd.C_drewN ?_ _) | (with_reducible refine Kd.C_drew ?_))); (case side2 => exact (Kd.R_reads' HO_11.out).2.1); rintro e w80 ⟨rfl, hb⟩; refine ⟨_, rfl, ?_⟩; have n0_ := Aside0.mk (Kd.R_below (by (with_reducible repeat (first | apply Kd.R_alloc | apply Kd.R_drewN | apply Kd.R_drew)); exact HO_11.out) hb); have n1_ := Aside0.mk (blk_below (g := gb252) (o := .cells #[.int .i64 x253000_4, .int .i64 x253001_4, .int .i64 a1_2] 38 (0, 0)) (by (with_reducible repeat (first | refine blk_drewN ?_ _ | refine blk_drew ?_ | refine blk_alloc ?_ _)); exact BK252.out) hb); have n2_ := Aside0.mk (below_step (by repeat (first | (with_reducible first | exact HB.out | apply below_alloc | apply pw_below_drewN | apply below_drew1 | refine below_set ?_ GE252.out) | exact HB.out)) hb); clear HO_11; clear BK252; clear HB; have HO_11 := n0_; have BK252 := n1_; have HB := n2_; clear n0_ n1_ n2_; (try clear hb); (try clear hb2); (try clear hk); (try clear hi)) | ((with_reducible refine gate_callee (f := 12) rfl ?_); refine goesL_ (some 166) rfl rfl Try.func12 (by kernel_rfl) rfl #[.slice Ao28 x11_4.length co28, .int .i64 3] rfl (by (try simp only [List.map_toArray, List.map_cons, List.map_nil]); first | done | rfl | (simp only [List.length_drop, List.length_take]; rfl)) ?_; (with_reducible refine (demand_Worst.calls k4 _ _ x11_4 3 t290 t291 t292 t293 _ ?side1 ?side2 A65.out).mono ?_); (case side1 => repeat (first | exact (Kd.R_reads' HO_11.out).2.2 | (with_reducible refine Kd.C_alloc ?_ _) | (with_reducible refine Kd.C_drewN ?_ _) | (with_reducible refine Kd.C_drew ?_))); (case side2 => exact (Kd.R_reads' HO_11.out).2.1); rintro e w81 ⟨rfl, hb⟩; refine ⟨_, rfl, ?_⟩; have n0_ := Aside0.mk (Kd.R_below (by (with_reducible repeat (first | apply Kd.R_alloc | apply Kd.R_drewN | apply Kd.R_drew)); exact HO_11.out) hb); have n1_ := Aside0.mk (blk_below (g := gb252) (o := .cells #[.int .i64 x253000_4, .int .i64 x253001_4, .int .i64 a1_2] 38 (0, 0)) (by (with_reducible repeat (first | refine blk_drewN ?_ _ | refine blk_drew ?_ | refine blk_alloc ?_ _)); exact BK252.out) hb); have n2_ := Aside0.mk (below_step (by repeat (first | (with_reducible first | exact HB.out | apply below_alloc | apply pw_below_drewN | apply below_drew1 | refine below_set ?_ GE252.out) | exact HB.out)) hb); clear HO_11; clear BK252; clear HB; have HO_11 := n0_; have BK252 := n1_; have HB := n2_; clear n0_ n1_ n2_; (try clear hb); (try clear hb2); (try clear hk); (try clear hi)) | (go_at_call 8; (with_reducible refine (carillonlaw23_works.calls k4  t295 _ A79.out).mono ?_); rintro e w82 ⟨rfl, hb⟩; have n0_ := Aside0.mk (Kd.R_below (by (with_reducible repeat (first | apply Kd.R_alloc | apply Kd.R_drewN | apply Kd.R_drew)); exact HO_11.out) hb); have n1_ := Aside0.mk (blk_below (g := gb252) (o := .cells #[.int .i64 x253000_4, .int .i64 x253001_4, .int .i64 a1_2] 38 (0, 0)) (by (with_reducible repeat (first | refine blk_drewN ?_ _ | refine blk_drew ?_ | refine blk_alloc ?_ _)); exact BK252.out) hb); have n2_ := Aside0.mk (below_step (by repeat (first | (with_reducible first | exact HB.out | apply below_alloc | apply pw_below_drewN | apply below_drew1 | refine below_set ?_ GE252.out) | exact HB.out)) hb); clear HO_11; clear BK252; clear HB; have HO_11 := n0_; have BK252 := n1_; have HB := n2_; clear n0_ n1_ n2_; (try clear hb); (try clear hb2); (try clear hk); (try clear hi)))
                                    go_ret
                                    exact ⟨by first | rfl | (simp [errW_none, errW_some] <;> rfl) | (simp [*, errW_none, errW_some] <;> rfl), by repeat (first | (with_reducible first | exact HB.out | apply below_alloc | apply pw_below_drewN | apply below_drew1 | refine below_set ?_ GE252.out) | exact HB.out)⟩
                                · rw [if_neg c67] at H
                                  have c67b0 : (t292 == t283) = false := by simpa using c67
                                  (try (have c67b1 : decide (t292 = t283) = false := by simpa using c67))
                                  (try (have c67b2 : (t292 == t283) = false := by simpa using c67))
                                  (try (have c67b3 : ¬ (t292 = t283) := by simpa using c67))
                                  clear c67
                                  obtain rfl := Option.some.inj H
                                  go_wp2_with (first | ((with_reducible refine gate_callee (f := 14) rfl ?_); refine goesL_ (some 161) rfl rfl Try.func14 (by kernel_rfl) rfl #[.slice Ao28 x11_4.length co28] rfl (by (try simp only [List.map_toArray, List.map_cons, List.map_nil]); first | done | rfl | (simp only [List.length_drop, List.length_take]; rfl)) ?_; (with_reducible refine (carillonref23_May.calls k4 _ _ x11_4 true _ ?side1 ?side2 A63.out).mono ?_); (case side1 => repeat (first | exact (Kd.R_reads' HO_11.out).2.2 | (with_reducible refine Kd.C_alloc ?_ _) | (with_reducible refine Kd.C_drewN ?_ _) | (with_reducible refine Kd.C_drew ?_))); (case side2 => exact (Kd.R_reads' HO_11.out).2.1); rintro e w83 ⟨rfl, hb⟩; refine ⟨_, rfl, ?_⟩; have n0_ := Aside0.mk (Kd.R_below (by (with_reducible repeat (first | apply Kd.R_alloc | apply Kd.R_drewN | apply Kd.R_drew)); exact HO_11.out) hb); have n1_ := Aside0.mk (blk_below (g := gb252) (o := .cells #[.int .i64 x253000_4, .int .i64 x253001_4, .int .i64 a1_2] 38 (0, 0)) (by (with_reducible repeat (first | refine blk_drewN ?_ _ | refine blk_drew ?_ | refine blk_alloc ?_ _)); exact BK252.out) hb); have n2_ := Aside0.mk (below_step (by repeat (first | (with_reducible first | exact HB.out | apply below_alloc | apply pw_below_drewN | apply below_drew1 | refine below_set ?_ GE252.out) | exact HB.out)) hb); clear HO_11; clear BK252; clear HB; have HO_11 := n0_; have BK252 := n1_; have HB := n2_; clear n0_ n1_ n2_; (try clear hb); (try clear hb2); (try clear hk); (try clear hi)) | ((with_reducible refine gate_callee (f := 12) rfl ?_); refine goesL_ (some 166) rfl rfl Try.func12 (by kernel_rfl) rfl #[.slice Ao28 x11_4.length co28, .int .i64 3] rfl (by (try simp only [List.map_toArray, List.map_cons, List.map_nil]); first | done | rfl | (simp only [List.length_drop, List.length_take]; rfl)) ?_; (with_reducible refine (demand_Worst.calls k4 _ _ x11_4 3 t290 t291 t292 t293 _ ?side1 ?side2 A65.out).mono ?_); (case side1 => repeat (first | exact (Kd.R_reads' HO_11.out).2.2 | (with_reducible refine Kd.C_alloc ?_ _) | (with_reducible refine Kd.C_drewN ?_ _) | (with_reducible refine Kd.C_drew ?_))); (case side2 => exact (Kd.R_reads' HO_11.out).2.1); rintro e w84 ⟨rfl, hb⟩; refine ⟨_, rfl, ?_⟩; have n0_ := Aside0.mk (Kd.R_below (by (with_reducible repeat (first | apply Kd.R_alloc | apply Kd.R_drewN | apply Kd.R_drew)); exact HO_11.out) hb); have n1_ := Aside0.mk (blk_below (g := gb252) (o := .cells #[.int .i64 x253000_4, .int .i64 x253001_4, .int .i64 a1_2] 38 (0, 0)) (by (with_reducible repeat (first | refine blk_drewN ?_ _ | refine blk_drew ?_ | refine blk_alloc ?_ _)); exact BK252.out) hb); have n2_ := Aside0.mk (below_step (by repeat (first | (with_reducible first | exact HB.out | apply below_alloc | apply pw_below_drewN | apply below_drew1 | refine below_set ?_ GE252.out) | exact HB.out)) hb); clear HO_11; clear BK252; clear HB; have HO_11 := n0_; have BK252 := n1_; have HB := n2_; clear n0_ n1_ n2_; (try clear hb); (try clear hb2); (try clear hk); (try clear hi)))
                                  go_ret
                                  exact ⟨by first | rfl | (simp [errW_none, errW_some] <;> rfl) | (simp [*, errW_none, errW_some] <;> rfl), by repeat (first | (with_reducible first | exact HB.out | apply below_alloc | apply pw_below_drewN | apply below_drew1 | refine below_set ?_ GE252.out) | exact HB.out)⟩
                              · rw [if_neg c66] at H
                                have c66b0 : (t293 == 0) = false := beq_eq_false_iff_ne.mpr c66
                                have c66b1 : (t293 != 0) = true := bne_iff_ne.mpr c66
                                obtain rfl := Option.some.inj H
                                go_wp2_with (first | ((with_reducible refine gate_callee (f := 14) rfl ?_); refine goesL_ (some 161) rfl rfl Try.func14 (by kernel_rfl) rfl #[.slice Ao28 x11_4.length co28] rfl (by (try simp only [List.map_toArray, List.map_cons, List.map_nil]); first | done | rfl | (simp only [List.length_drop, List.length_take]; rfl)) ?_; (with_reducible refine (carillonref23_May.calls k4 _ _ x11_4 true _ ?side1 ?side2 A63.out).mono ?_); (case side1 => repeat (first | exact (Kd.R_reads' HO_11.out).2.2 | (with_reducible refine Kd.C_alloc ?_ _) | (with_reducible refine Kd.C_drewN ?_ _) | (with_reducible refine Kd.C_drew ?_))); (case side2 => exact (Kd.R_reads' HO_11.out).2.1); rintro e w85 ⟨rfl, hb⟩; refine ⟨_, rfl, ?_⟩; have n0_ := Aside0.mk (Kd.R_below (by (with_reducible repeat (first | apply Kd.R_alloc | apply Kd.R_drewN | apply Kd.R_drew)); exact HO_11.out) hb); have n1_ := Aside0.mk (blk_below (g := gb252) (o := .cells #[.int .i64 x253000_4, .int .i64 x253001_4, .int .i64 a1_2] 38 (0, 0)) (by (with_reducible repeat (first | refine blk_drewN ?_ _ | refine blk_drew ?_ | refine blk_alloc ?_ _)); exact BK252.out) hb); have n2_ := Aside0.mk (below_step (by repeat (first | (with_reducible first | exact HB.out | apply below_alloc | apply pw_below_drewN | apply below_drew1 | refine below_set ?_ GE252.out) | exact HB.out)) hb); clear HO_11; clear BK252; clear HB; have HO_11 := n0_; have BK252 := n1_; have HB := n2_; clear n0_ n1_ n2_; (try clear hb); (try clear hb2); (try clear hk); (try clear hi)) | ((with_reducible refine gate_callee (f := 12) rfl ?_); refine goesL_ (some 166) rfl rfl Try.func12 (by kernel_rfl) rfl #[.slice Ao28 x11_4.length co28, .int .i64 3] rfl (by (try simp only [List.map_toArray, List.map_cons, List.map_nil]); first | done | rfl | (simp only [List.length_drop, List.length_take]; rfl)) ?_; (with_reducible refine (demand_Worst.calls k4 _ _ x11_4 3 t290 t291 t292 t293 _ ?side1 ?side2 A65.out).mono ?_); (case side1 => repeat (first | exact (Kd.R_reads' HO_11.out).2.2 | (with_reducible refine Kd.C_alloc ?_ _) | (with_reducible refine Kd.C_drewN ?_ _) | (with_reducible refine Kd.C_drew ?_))); (case side2 => exact (Kd.R_reads' HO_11.out).2.1); rintro e w86 ⟨rfl, hb⟩; refine ⟨_, rfl, ?_⟩; have n0_ := Aside0.mk (Kd.R_below (by (with_reducible repeat (first | apply Kd.R_alloc | apply Kd.R_drewN | apply Kd.R_drew)); exact HO_11.out) hb); have n1_ := Aside0.mk (blk_below (g := gb252) (o := .cells #[.int .i64 x253000_4, .int .i64 x253001_4, .int .i64 a1_2] 38 (0, 0)) (by (with_reducible repeat (first | refine blk_drewN ?_ _ | refine blk_drew ?_ | refine blk_alloc ?_ _)); exact BK252.out) hb); have n2_ := Aside0.mk (below_step (by repeat (first | (with_reducible first | exact HB.out | apply below_alloc | apply pw_below_drewN | apply below_drew1 | refine below_set ?_ GE252.out) | exact HB.out)) hb); clear HO_11; clear BK252; clear HB; have HO_11 := n0_; have BK252 := n1_; have HB := n2_; clear n0_ n1_ n2_; (try clear hb); (try clear hb2); (try clear hk); (try clear hi)))
                                go_ret
                                exact ⟨by first | rfl | (simp [errW_none, errW_some] <;> rfl) | (simp [*, errW_none, errW_some] <;> rfl), by repeat (first | (with_reducible first | exact HB.out | apply below_alloc | apply pw_below_drewN | apply below_drew1 | refine below_set ?_ GE252.out) | exact HB.out)⟩
                            · replace c64 := Bool.eq_false_iff.mpr c64
                              subst c64
                              have H1 : ((carillonlaw23_works.f k4).bind fun t296 => (some t296)) = some r := by rw [if_neg (show ¬ (false = true) by decide)] at H; exact H
                              clear H
                              have H := H1
                              clear H1
                              replace H := Option.bind_eq_some_iff.mp H
                              obtain ⟨t296, A870, H⟩ := H
                              replace H : (some t296) = some r := H
                              have A87 := Aside0.mk A870
                              clear A870
                              obtain rfl := Option.some.inj H
                              go_wp2_with (first | ((with_reducible refine gate_callee (f := 14) rfl ?_); refine goesL_ (some 161) rfl rfl Try.func14 (by kernel_rfl) rfl #[.slice Ao28 x11_4.length co28] rfl (by (try simp only [List.map_toArray, List.map_cons, List.map_nil]); first | done | rfl | (simp only [List.length_drop, List.length_take]; rfl)) ?_; (with_reducible refine (carillonref23_May.calls k4 _ _ x11_4 false _ ?side1 ?side2 A63.out).mono ?_); (case side1 => repeat (first | exact (Kd.R_reads' HO_11.out).2.2 | (with_reducible refine Kd.C_alloc ?_ _) | (with_reducible refine Kd.C_drewN ?_ _) | (with_reducible refine Kd.C_drew ?_))); (case side2 => exact (Kd.R_reads' HO_11.out).2.1); rintro e w88 ⟨rfl, hb⟩; refine ⟨_, rfl, ?_⟩; have n0_ := Aside0.mk (Kd.R_below (by (with_reducible repeat (first | apply Kd.R_alloc | apply Kd.R_drewN | apply Kd.R_drew)); exact HO_11.out) hb); have n1_ := Aside0.mk (blk_below (g := gb252) (o := .cells #[.int .i64 x253000_4, .int .i64 x253001_4, .int .i64 a1_2] 38 (0, 0)) (by (with_reducible repeat (first | refine blk_drewN ?_ _ | refine blk_drew ?_ | refine blk_alloc ?_ _)); exact BK252.out) hb); have n2_ := Aside0.mk (below_step (by repeat (first | (with_reducible first | exact HB.out | apply below_alloc | apply pw_below_drewN | apply below_drew1 | refine below_set ?_ GE252.out) | exact HB.out)) hb); clear HO_11; clear BK252; clear HB; have HO_11 := n0_; have BK252 := n1_; have HB := n2_; clear n0_ n1_ n2_; (try clear hb); (try clear hb2); (try clear hk); (try clear hi)) | ((with_reducible refine gate_callee (f := 8) rfl ?_); refine goesL_ (some 163) rfl rfl Try.func8 (by kernel_rfl) rfl #[] rfl (by (try simp only [List.map_toArray, List.map_cons, List.map_nil]); first | done | rfl | (simp only [List.length_drop, List.length_take]; rfl)) ?_; (with_reducible refine (carillonlaw23_works.calls k4  t296 _ A87.out).mono ?_); rintro e w89 ⟨rfl, hb⟩; refine ⟨_, rfl, ?_⟩; have n0_ := Aside0.mk (Kd.R_below (by (with_reducible repeat (first | apply Kd.R_alloc | apply Kd.R_drewN | apply Kd.R_drew)); exact HO_11.out) hb); have n1_ := Aside0.mk (blk_below (g := gb252) (o := .cells #[.int .i64 x253000_4, .int .i64 x253001_4, .int .i64 a1_2] 38 (0, 0)) (by (with_reducible repeat (first | refine blk_drewN ?_ _ | refine blk_drew ?_ | refine blk_alloc ?_ _)); exact BK252.out) hb); have n2_ := Aside0.mk (below_step (by repeat (first | (with_reducible first | exact HB.out | apply below_alloc | apply pw_below_drewN | apply below_drew1 | refine below_set ?_ GE252.out) | exact HB.out)) hb); clear HO_11; clear BK252; clear HB; have HO_11 := n0_; have BK252 := n1_; have HB := n2_; clear n0_ n1_ n2_; (try clear hb); (try clear hb2); (try clear hk); (try clear hi)))
                              go_ret
                              exact ⟨by first | rfl | (simp [errW_none, errW_some] <;> rfl) | (simp [*, errW_none, errW_some] <;> rfl), by repeat (first | (with_reducible first | exact HB.out | apply below_alloc | apply pw_below_drewN | apply below_drew1 | refine below_set ?_ GE252.out) | exact HB.out)⟩
  · rw [if_neg c7] at H
    exact absurd H (by simp)

-- NOT PRINTED: function 7 (carillonlaw23_DemandOrder)

end Go.Proofs.Ytlmmdpdkddmklab.Q
