import Derived.Test.YtfondhcppjkchaaGreatC3
import Derived.Test.YtfondhcppjkchaaGreatC17
import Derived.Test.YtfondhcppjkchaaGreatC41
import Derived.Test.YtfondhcppjkchaaGreatC40
import Derived.Test.YtfondhcppjkchaaGreatC44
import Derived.Test.YtfondhcppjkchaaGreatC45
set_option maxHeartbeats 40000000
set_option maxRecDepth 100000
set_option linter.unusedVariables false
set_option linter.unusedSimpArgs false
namespace Go.Proofs.YtfondhcppjkchaaGreat.Q
noncomputable section
open Go.RowKit Go.Proofs.YtfondhcppjkchaaGreatW.PrintWords Go.Proofs.YtfondhcppjkchaaGreatW.PrintLast Go.Proofs.YtfondhcppjkchaaGreatW.PrintMore
attribute [local go_sem] max2_int min2_int max_two min_two max_three min_three max_four min_four
def carillonlaw24_works.f (k : Nat)  : Option (Bool) := (some (([10, 5] : List Int) : List Int)).bind fun y308 => ((sample.f 50).bind fun bt311 => ((due_Adjust.f bt311.1 bt311.2 y308).bind fun bt317 => ((sample.f 20).bind fun bt321 => ((due_Adjust.f bt321.1 bt321.2 y308).bind fun bt327 => ((gate_Load.f k bt311.1 bt311.2 y308).bind fun bt331 => ((gate_Works.f k bt311.1 bt311.2 y308 bt317.1).bind fun bt334 => (if bt317.2 = 0 then (if bt327.2 = 0 then (if bt331.1 = 15 then (if bt331.2.1 = 50 then (if bt331.2.2 = 0 then (if bt334.2 = 0 then (if (bt334.1.length : Int) = 6 then ((gate_Pass.f bt311.1 bt311.2 y308 bt317.1).bind fun t338 => (if t338 = 0 then ((gate_Pass.f bt321.1 bt321.2 y308 bt327.1).bind fun t339 => (some (t339 == 241))) else (some false))) else (some false)) else (some false)) else (some false)) else (some false)) else (some false)) else (some false)) else (some false))))))))
theorem carillonlaw24_works.mono : ∀ k, LeO (carillonlaw24_works.f k ) (carillonlaw24_works.f (k + 1) ) := by
 intro  k
 unfold carillonlaw24_works.f
 repeat' first
   | (with_reducible exact gate_Load.mono _ _ _ _)
   | (with_reducible exact gate_Works.mono _ _ _ _ _)
   | (with_reducible exact LeO.refl _)
   | (with_reducible exact LeO.none _)
   | (with_reducible refine LeO.ite ?_ ?_)
   | (with_reducible refine LeO.bind ?_ (fun _ => ?_))
   | exact gate_Load.mono _ _ _ _
   | exact gate_Works.mono _ _ _ _ _
   | exact LeO.none _
   | refine LeO.ite ?_ ?_
   | refine LeO.bind ?_ (fun _ => ?_)
theorem carillonlaw24_works.calls (k : Nat)  (r : Bool) (w : World) (h : carillonlaw24_works.f k  = some r) :
  Calls Tryz.prog 9 #[] w fun e w' => e = .returned (.bool r) ∧ Below w.heap.size w w' := by
 have HB := zb.mk (Below.refl w.heap.size w)
 have H : ((some (([10, 5] : List Int) : List Int)).bind fun y308 => ((sample.f 50).bind fun bt311 => ((due_Adjust.f bt311.1 bt311.2 y308).bind fun bt317 => ((sample.f 20).bind fun bt321 => ((due_Adjust.f bt321.1 bt321.2 y308).bind fun bt327 => ((gate_Load.f k bt311.1 bt311.2 y308).bind fun bt331 => ((gate_Works.f k bt311.1 bt311.2 y308 bt317.1).bind fun bt334 => (if bt317.2 = 0 then (if bt327.2 = 0 then (if bt331.1 = 15 then (if bt331.2.1 = 50 then (if bt331.2.2 = 0 then (if bt334.2 = 0 then (if (bt334.1.length : Int) = 6 then ((gate_Pass.f bt311.1 bt311.2 y308 bt317.1).bind fun t338 => (if t338 = 0 then ((gate_Pass.f bt321.1 bt321.2 y308 bt327.1).bind fun t339 => (some (t339 == 241))) else (some false))) else (some false)) else (some false)) else (some false)) else (some false)) else (some false)) else (some false)) else (some false))))))))) = some r := h
 clear h
 obtain ⟨y308, hy308⟩ : ∃ y_ : List Int, y_ = (([10, 5] : List Int)) := ⟨_, rfl⟩
 replace H : ((sample.f 50).bind fun bt311 => ((due_Adjust.f bt311.1 bt311.2 y308).bind fun bt317 => ((sample.f 20).bind fun bt321 => ((due_Adjust.f bt321.1 bt321.2 y308).bind fun bt327 => ((gate_Load.f k bt311.1 bt311.2 y308).bind fun bt331 => ((gate_Works.f k bt311.1 bt311.2 y308 bt317.1).bind fun bt334 => (if bt317.2 = 0 then (if bt327.2 = 0 then (if bt331.1 = 15 then (if bt331.2.1 = 50 then (if bt331.2.2 = 0 then (if bt334.2 = 0 then (if (bt334.1.length : Int) = 6 then ((gate_Pass.f bt311.1 bt311.2 y308 bt317.1).bind fun t338 => (if t338 = 0 then ((gate_Pass.f bt321.1 bt321.2 y308 bt327.1).bind fun t339 => (some (t339 == 241))) else (some false))) else (some false)) else (some false)) else (some false)) else (some false)) else (some false)) else (some false)) else (some false)))))))) = some r := by first | (rw [hy308]; with_reducible exact H) | (have H2_ := (Option.bind_some _ _).symm.trans H; rw [hy308]; with_reducible exact H2_) | (have H2_ := (Option.bind_some _ _).symm.trans H; with_reducible exact H2_) | with_reducible exact H | (rw [hy308]; exact H) | exact H
 have Ny308 := zb.mk hy308
 clear hy308
 replace H := Option.bind_eq_some_iff.mp H
 obtain ⟨⟨t311, t312⟩, A10, H⟩ := H
 replace H : ((due_Adjust.f t311 t312 y308).bind fun bt317 => ((sample.f 20).bind fun bt321 => ((due_Adjust.f bt321.1 bt321.2 y308).bind fun bt327 => ((gate_Load.f k t311 t312 y308).bind fun bt331 => ((gate_Works.f k t311 t312 y308 bt317.1).bind fun bt334 => (if bt317.2 = 0 then (if bt327.2 = 0 then (if bt331.1 = 15 then (if bt331.2.1 = 50 then (if bt331.2.2 = 0 then (if bt334.2 = 0 then (if (bt334.1.length : Int) = 6 then ((gate_Pass.f t311 t312 y308 bt317.1).bind fun t338 => (if t338 = 0 then ((gate_Pass.f bt321.1 bt321.2 y308 bt327.1).bind fun t339 => (some (t339 == 241))) else (some false))) else (some false)) else (some false)) else (some false)) else (some false)) else (some false)) else (some false)) else (some false))))))) = some r := H
 have A1 := zb.mk A10
 clear A10
 replace H := Option.bind_eq_some_iff.mp H
 obtain ⟨⟨t317, t318⟩, A20, H⟩ := H
 replace H : ((sample.f 20).bind fun bt321 => ((due_Adjust.f bt321.1 bt321.2 y308).bind fun bt327 => ((gate_Load.f k t311 t312 y308).bind fun bt331 => ((gate_Works.f k t311 t312 y308 t317).bind fun bt334 => (if t318 = 0 then (if bt327.2 = 0 then (if bt331.1 = 15 then (if bt331.2.1 = 50 then (if bt331.2.2 = 0 then (if bt334.2 = 0 then (if (bt334.1.length : Int) = 6 then ((gate_Pass.f t311 t312 y308 t317).bind fun t338 => (if t338 = 0 then ((gate_Pass.f bt321.1 bt321.2 y308 bt327.1).bind fun t339 => (some (t339 == 241))) else (some false))) else (some false)) else (some false)) else (some false)) else (some false)) else (some false)) else (some false)) else (some false)))))) = some r := H
 have A2 := zb.mk A20
 clear A20
 replace H := Option.bind_eq_some_iff.mp H
 obtain ⟨⟨t321, t322⟩, A30, H⟩ := H
 replace H : ((due_Adjust.f t321 t322 y308).bind fun bt327 => ((gate_Load.f k t311 t312 y308).bind fun bt331 => ((gate_Works.f k t311 t312 y308 t317).bind fun bt334 => (if t318 = 0 then (if bt327.2 = 0 then (if bt331.1 = 15 then (if bt331.2.1 = 50 then (if bt331.2.2 = 0 then (if bt334.2 = 0 then (if (bt334.1.length : Int) = 6 then ((gate_Pass.f t311 t312 y308 t317).bind fun t338 => (if t338 = 0 then ((gate_Pass.f t321 t322 y308 bt327.1).bind fun t339 => (some (t339 == 241))) else (some false))) else (some false)) else (some false)) else (some false)) else (some false)) else (some false)) else (some false)) else (some false))))) = some r := H
 have A3 := zb.mk A30
 clear A30
 replace H := Option.bind_eq_some_iff.mp H
 obtain ⟨⟨t327, t328⟩, A40, H⟩ := H
 replace H : ((gate_Load.f k t311 t312 y308).bind fun bt331 => ((gate_Works.f k t311 t312 y308 t317).bind fun bt334 => (if t318 = 0 then (if t328 = 0 then (if bt331.1 = 15 then (if bt331.2.1 = 50 then (if bt331.2.2 = 0 then (if bt334.2 = 0 then (if (bt334.1.length : Int) = 6 then ((gate_Pass.f t311 t312 y308 t317).bind fun t338 => (if t338 = 0 then ((gate_Pass.f t321 t322 y308 t327).bind fun t339 => (some (t339 == 241))) else (some false))) else (some false)) else (some false)) else (some false)) else (some false)) else (some false)) else (some false)) else (some false)))) = some r := H
 have A4 := zb.mk A40
 clear A40
 replace H := Option.bind_eq_some_iff.mp H
 obtain ⟨⟨t331, t332, t333⟩, A50, H⟩ := H
 replace H : ((gate_Works.f k t311 t312 y308 t317).bind fun bt334 => (if t318 = 0 then (if t328 = 0 then (if t331 = 15 then (if t332 = 50 then (if t333 = 0 then (if bt334.2 = 0 then (if (bt334.1.length : Int) = 6 then ((gate_Pass.f t311 t312 y308 t317).bind fun t338 => (if t338 = 0 then ((gate_Pass.f t321 t322 y308 t327).bind fun t339 => (some (t339 == 241))) else (some false))) else (some false)) else (some false)) else (some false)) else (some false)) else (some false)) else (some false)) else (some false))) = some r := H
 have A5 := zb.mk A50
 clear A50
 replace H := Option.bind_eq_some_iff.mp H
 obtain ⟨⟨t334, t335⟩, A60, H⟩ := H
 replace H : (if t318 = 0 then (if t328 = 0 then (if t331 = 15 then (if t332 = 50 then (if t333 = 0 then (if t335 = 0 then (if (t334.length : Int) = 6 then ((gate_Pass.f t311 t312 y308 t317).bind fun t338 => (if t338 = 0 then ((gate_Pass.f t321 t322 y308 t327).bind fun t339 => (some (t339 == 241))) else (some false))) else (some false)) else (some false)) else (some false)) else (some false)) else (some false)) else (some false)) else (some false)) = some r := H
 have A6 := zb.mk A60
 clear A60
 refine dite (t318 = 0) (fun c7 => ?pp1) (fun c7 => ?nn1)
 case' nn1 =>
  rw [if_neg c7] at H
  have c7b0 : (t318 == 0) = false := beq_eq_false_iff_ne.mpr c7
  have c7b1 : (t318 != 0) = true := bne_iff_ne.mpr c7
  obtain rfl := Option.some.inj H
 case' pp1 =>
  rw [if_pos c7] at H
  have c7b0 : (t318 == 0) = true := beq_iff_eq.mpr c7
  have c7b1 : (t318 != 0) = false := bne_eq_false_iff_eq.mpr c7
  clear c7
  refine dite (t328 = 0) (fun c8 => ?pp2) (fun c8 => ?nn2)
  case' nn2 =>
   rw [if_neg c8] at H
   have c8b0 : (t328 == 0) = false := beq_eq_false_iff_ne.mpr c8
   have c8b1 : (t328 != 0) = true := bne_iff_ne.mpr c8
   obtain rfl := Option.some.inj H
  case' pp2 =>
   rw [if_pos c8] at H
   have c8b0 : (t328 == 0) = true := beq_iff_eq.mpr c8
   have c8b1 : (t328 != 0) = false := bne_eq_false_iff_eq.mpr c8
   clear c8
   refine dite (t331 = 15) (fun c9 => ?pp3) (fun c9 => ?nn3)
   case' nn3 =>
    rw [if_neg c9] at H
    have c9b0 : (t331 == 15) = false := beq_eq_false_iff_ne.mpr c9
    have c9b1 : (t331 != 15) = true := bne_iff_ne.mpr c9
    obtain rfl := Option.some.inj H
   case' pp3 =>
    rw [if_pos c9] at H
    have c9b0 : (t331 == 15) = true := beq_iff_eq.mpr c9
    have c9b1 : (t331 != 15) = false := bne_eq_false_iff_eq.mpr c9
    clear c9
    refine dite (t332 = 50) (fun c10 => ?pp4) (fun c10 => ?nn4)
    case' nn4 =>
     rw [if_neg c10] at H
     have c10b0 : (t332 == 50) = false := beq_eq_false_iff_ne.mpr c10
     have c10b1 : (t332 != 50) = true := bne_iff_ne.mpr c10
     obtain rfl := Option.some.inj H
    case' pp4 =>
     rw [if_pos c10] at H
     have c10b0 : (t332 == 50) = true := beq_iff_eq.mpr c10
     have c10b1 : (t332 != 50) = false := bne_eq_false_iff_eq.mpr c10
     clear c10
     refine dite (t333 = 0) (fun c11 => ?pp5) (fun c11 => ?nn5)
     case' nn5 =>
      rw [if_neg c11] at H
      have c11b0 : (t333 == 0) = false := beq_eq_false_iff_ne.mpr c11
      have c11b1 : (t333 != 0) = true := bne_iff_ne.mpr c11
      obtain rfl := Option.some.inj H
     case' pp5 =>
      rw [if_pos c11] at H
      have c11b0 : (t333 == 0) = true := beq_iff_eq.mpr c11
      have c11b1 : (t333 != 0) = false := bne_eq_false_iff_eq.mpr c11
      clear c11
      refine dite (t335 = 0) (fun c12 => ?pp6) (fun c12 => ?nn6)
      case' nn6 =>
       rw [if_neg c12] at H
       have c12b0 : (t335 == 0) = false := beq_eq_false_iff_ne.mpr c12
       have c12b1 : (t335 != 0) = true := bne_iff_ne.mpr c12
       obtain rfl := Option.some.inj H
      case' pp6 =>
       rw [if_pos c12] at H
       have c12b0 : (t335 == 0) = true := beq_iff_eq.mpr c12
       have c12b1 : (t335 != 0) = false := bne_eq_false_iff_eq.mpr c12
       clear c12
       refine dite ((t334.length : Int) = 6) (fun c13 => ?pp7) (fun c13 => ?nn7)
       case' nn7 =>
        rw [if_neg c13] at H
        have c13b0 : ((t334.length : Int) == 6) = false := beq_eq_false_iff_ne.mpr c13
        have c13b1 : ((t334.length : Int) != 6) = true := bne_iff_ne.mpr c13
        obtain rfl := Option.some.inj H
       case' pp7 =>
        rw [if_pos c13] at H
        have c13b0 : ((t334.length : Int) == 6) = true := beq_iff_eq.mpr c13
        have c13b1 : ((t334.length : Int) != 6) = false := bne_eq_false_iff_eq.mpr c13
        clear c13
        replace H := Option.bind_eq_some_iff.mp H
        obtain ⟨t338, A140, H⟩ := H
        replace H : (if t338 = 0 then ((gate_Pass.f t321 t322 y308 t327).bind fun t339 => (some (t339 == 241))) else (some false)) = some r := H
        have A14 := zb.mk A140
        clear A140
        refine dite (t338 = 0) (fun c15 => ?pp8) (fun c15 => ?nn8)
        case' nn8 =>
         rw [if_neg c15] at H
         have c15b0 : (t338 == 0) = false := beq_eq_false_iff_ne.mpr c15
         have c15b1 : (t338 != 0) = true := bne_iff_ne.mpr c15
         obtain rfl := Option.some.inj H
        case' pp8 =>
         rw [if_pos c15] at H
         have c15b0 : (t338 == 0) = true := beq_iff_eq.mpr c15
         have c15b1 : (t338 != 0) = false := bne_eq_false_iff_eq.mpr c15
         clear c15
         replace H := Option.bind_eq_some_iff.mp H
         obtain ⟨t339, A160, H⟩ := H
         replace H : (some (t339 == 241)) = some r := H
         have A16 := zb.mk A160
         clear A160
         obtain rfl := Option.some.inj H
 all_goals
  as_aux_lemma =>
   go_enter Tryz.func9, Tryz.ntmps9
   go_wp2_with (first | ((with_reducible refine zda (N := 15) rfl ?_); (try (refine zta (by rfl) ?_; dsimp only)); refine Kd.R_lit (Kd.int .i64) _ 2 ?hg (N := 15) ?hd (xs := ([10, 5] : List Int)) (inner := [.int .i64 10, .int .i64 5]) (ok := fun _ => True) (okp := fun _ => True) ?hr ?hp (fun _ hk => hk) trivial (Below.refl _ _) (Nat.le_refl _) (by simp) ?_; (case hd => rfl); (case hg => rfl); (case hr => first | (go_simp; done) | (go_simp; rfl)); (case hp => exact (Reps.one (show Kd.M (Kd.int .i64) _ _ _ 10 [.int .i64 10] from rfl) (Reps.one (show Kd.M (Kd.int .i64) _ _ _ 5 [.int .i64 5] from rfl) (Reps.none _ _)))); intro v309 w17 ho18 hb hg_ hnew_; clear hg_ hnew_; (first | rw [← Ny308.out] at ho18 | (simp only [Int.reduceToNat] at ho18; rw [← Ny308.out] at ho18)); have n0_ := zb.mk (Kd.zxa ho18 (zn (by repeat with_reducible first | exact HB.out | apply zd | apply za | apply ze))); have n1_ := zb.mk (zo (by repeat with_reducible first | exact HB.out | apply zd | apply za | apply ze) hb); clear HB; have HO310 := n0_; have HB := n1_; clear n0_ n1_; clear hb ho18) | ((with_reducible refine zt (f := 33) rfl ?_); refine zka (some 17) rfl rfl Tryz.func33 (by kernel_rfl) rfl #[.int .i64 50] rfl (by (try simp only [List.map_toArray, List.map_cons, List.map_nil]); first | done | rfl | (simp only [List.length_drop, List.length_take]; rfl)) ?_; (with_reducible refine (sample.calls 50 t311 t312 _ A1.out).mono ?_); rintro e w19 ⟨v313, v315, rfl, ho0, ho1, hb⟩; refine ⟨_, rfl, ?_⟩; have n0_ := zb.mk (Kd.zga (by (with_reducible repeat (first | apply Kd.zv | apply Kd.zx | apply Kd.zz)); exact HO310.out) hb); have n1_ := zb.mk (Kd.zxa ho0 (zn (by repeat with_reducible first | exact HB.out | apply zd | apply za | apply ze))); have n2_ := zb.mk (Kd.zxa ho1 (zn (by repeat with_reducible first | exact HB.out | apply zd | apply za | apply ze))); have n3_ := zb.mk (zo (by repeat with_reducible first | exact HB.out | apply zd | apply za | apply ze) hb); clear HO310; clear HB; have HO310 := n0_; have HO314 := n1_; have HO316 := n2_; have HB := n3_; clear n0_ n1_ n2_ n3_; (try clear hb); (try clear ho0); (try clear ho1); obtain ⟨Ao20, co20, eo20⟩ := Kd.zoa HO314.out; subst eo20; obtain ⟨Ao21, co21, eo21⟩ := Kd.zoa HO316.out; subst eo21; obtain ⟨Ao22, co22, eo22⟩ := Kd.zoa HO310.out; subst eo22) | ((with_reducible refine zt (f := 23) rfl ?_); refine zka (some 24) rfl rfl Tryz.func23 (by kernel_rfl) rfl #[.slice Ao20 t311.length co20, .slice Ao21 t312.length co21, .slice Ao22 y308.length co22] rfl (by (try simp only [List.map_toArray, List.map_cons, List.map_nil]); first | done | rfl | (simp only [List.length_drop, List.length_take]; rfl)) ?_; (with_reducible refine (due_Adjust.calls _ _ t311 _ _ t312 _ _ y308 t317 t318 _ ?side1 ?side2 ?side3 ?side4 ?side5 ?side6 A2.out).mono ?_); (case side1 => repeat (first | exact (Kd.R_reads' HO314.out).2.2 | (with_reducible refine Kd.zea ?_ _) | (with_reducible refine Kd.zfa ?_ _) | (with_reducible refine Kd.zia ?_))); (case side2 => exact (Kd.R_reads' HO314.out).2.1); (case side3 => repeat (first | exact (Kd.R_reads' HO316.out).2.2 | (with_reducible refine Kd.zea ?_ _) | (with_reducible refine Kd.zfa ?_ _) | (with_reducible refine Kd.zia ?_))); (case side4 => exact (Kd.R_reads' HO316.out).2.1); (case side5 => repeat (first | exact (Kd.R_reads' HO310.out).2.2 | (with_reducible refine Kd.zea ?_ _) | (with_reducible refine Kd.zfa ?_ _) | (with_reducible refine Kd.zia ?_))); (case side6 => exact (Kd.R_reads' HO310.out).2.1); rintro e w23 ⟨v319, rfl, ho0, hb⟩; refine ⟨_, rfl, ?_⟩; have n0_ := zb.mk (Kd.zga (by (with_reducible repeat (first | apply Kd.zv | apply Kd.zx | apply Kd.zz)); exact HO310.out) hb); have n1_ := zb.mk (Kd.zga (by (with_reducible repeat (first | apply Kd.zv | apply Kd.zx | apply Kd.zz)); exact HO314.out) hb); have n2_ := zb.mk (Kd.zga (by (with_reducible repeat (first | apply Kd.zv | apply Kd.zx | apply Kd.zz)); exact HO316.out) hb); have n3_ := zb.mk (Kd.S_lower (Kd.S_new' ho0 (Kd.R_lt (by (with_reducible repeat (first | apply Kd.zv | apply Kd.zx | apply Kd.zz)); exact HO310.out))) (zn (by repeat with_reducible first | exact HB.out | apply zd | apply za | apply ze))); have n4_ := zb.mk (zo (by repeat with_reducible first | exact HB.out | apply zd | apply za | apply ze) hb); clear HO310; clear HO314; clear HO316; clear HB; have HO310 := n0_; have HO314 := n1_; have HO316 := n2_; have HO320 := n3_; have HB := n4_; clear n0_ n1_ n2_ n3_ n4_; (try clear hb); (try clear ho0)) | ((with_reducible refine zt (f := 33) rfl ?_); refine zka (some 28) rfl rfl Tryz.func33 (by kernel_rfl) rfl #[.int .i64 20] rfl (by (try simp only [List.map_toArray, List.map_cons, List.map_nil]); first | done | rfl | (simp only [List.length_drop, List.length_take]; rfl)) ?_; (with_reducible refine (sample.calls 20 t321 t322 _ A3.out).mono ?_); rintro e w24 ⟨v323, v325, rfl, ho0, ho1, hb⟩; refine ⟨_, rfl, ?_⟩; have n0_ := zb.mk (Kd.zga (by (with_reducible repeat (first | apply Kd.zv | apply Kd.zx | apply Kd.zz)); exact HO310.out) hb); have n1_ := zb.mk (Kd.R_elder' (by (with_reducible repeat (first | apply Kd.zv | apply Kd.zx | apply Kd.zz)); exact HO314.out) (Kd.R_base ho0) hb); have n2_ := zb.mk (Kd.R_elder' (by (with_reducible repeat (first | apply Kd.zv | apply Kd.zx | apply Kd.zz)); exact HO316.out) (Kd.R_base ho1) hb); have n3_ := zb.mk (Kd.zdb (by (with_reducible repeat (first | apply Kd.zib | apply Kd.zjb | apply Kd.zpb)); exact HO320.out) hb); have n4_ := zb.mk (Kd.zxa (Kd.R_new' ho0 (Kd.R_lt (by (with_reducible repeat (first | apply Kd.zv | apply Kd.zx | apply Kd.zz)); exact HO314.out))) (zn (by repeat with_reducible first | exact HB.out | apply zd | apply za | apply ze))); have n5_ := zb.mk (Kd.zxa (Kd.R_new' ho1 (Kd.R_lt (by (with_reducible repeat (first | apply Kd.zv | apply Kd.zx | apply Kd.zz)); exact HO316.out))) (zn (by repeat with_reducible first | exact HB.out | apply zd | apply za | apply ze))); have n6_ := zb.mk (zo (by repeat with_reducible first | exact HB.out | apply zd | apply za | apply ze) hb); clear HO310; clear HO314; clear HO316; clear HO320; clear HB; have HO310 := n0_; have HO314 := n1_; have HO316 := n2_; have HO320 := n3_; have HO324 := n4_; have HO326 := n5_; have HB := n6_; clear n0_ n1_ n2_ n3_ n4_ n5_ n6_; (try clear hb); (try clear ho0); (try clear ho1); obtain ⟨Ao25, co25, eo25⟩ := Kd.zoa HO324.out; subst eo25; obtain ⟨Ao26, co26, eo26⟩ := Kd.zoa HO326.out; subst eo26) | ((with_reducible refine zt (f := 23) rfl ?_); refine zka (some 35) rfl rfl Tryz.func23 (by kernel_rfl) rfl #[.slice Ao25 t321.length co25, .slice Ao26 t322.length co26, .slice Ao22 y308.length co22] rfl (by (try simp only [List.map_toArray, List.map_cons, List.map_nil]); first | done | rfl | (simp only [List.length_drop, List.length_take]; rfl)) ?_; (with_reducible refine (due_Adjust.calls _ _ t321 _ _ t322 _ _ y308 t327 t328 _ ?side1 ?side2 ?side3 ?side4 ?side5 ?side6 A4.out).mono ?_); (case side1 => repeat (first | exact (Kd.R_reads' HO324.out).2.2 | (with_reducible refine Kd.zea ?_ _) | (with_reducible refine Kd.zfa ?_ _) | (with_reducible refine Kd.zia ?_))); (case side2 => exact (Kd.R_reads' HO324.out).2.1); (case side3 => repeat (first | exact (Kd.R_reads' HO326.out).2.2 | (with_reducible refine Kd.zea ?_ _) | (with_reducible refine Kd.zfa ?_ _) | (with_reducible refine Kd.zia ?_))); (case side4 => exact (Kd.R_reads' HO326.out).2.1); (case side5 => repeat (first | exact (Kd.R_reads' HO310.out).2.2 | (with_reducible refine Kd.zea ?_ _) | (with_reducible refine Kd.zfa ?_ _) | (with_reducible refine Kd.zia ?_))); (case side6 => exact (Kd.R_reads' HO310.out).2.1); rintro e w27 ⟨v329, rfl, ho0, hb⟩; refine ⟨_, rfl, ?_⟩; have n0_ := zb.mk (Kd.zga (by (with_reducible repeat (first | apply Kd.zv | apply Kd.zx | apply Kd.zz)); exact HO310.out) hb); have n1_ := zb.mk (Kd.zga (by (with_reducible repeat (first | apply Kd.zv | apply Kd.zx | apply Kd.zz)); exact HO314.out) hb); have n2_ := zb.mk (Kd.zga (by (with_reducible repeat (first | apply Kd.zv | apply Kd.zx | apply Kd.zz)); exact HO316.out) hb); have n3_ := zb.mk (Kd.S_elder' (by (with_reducible repeat (first | apply Kd.zib | apply Kd.zjb | apply Kd.zpb)); exact HO320.out) (Kd.S_base ho0) hb); have n4_ := zb.mk (Kd.zga (by (with_reducible repeat (first | apply Kd.zv | apply Kd.zx | apply Kd.zz)); exact HO324.out) hb); have n5_ := zb.mk (Kd.zga (by (with_reducible repeat (first | apply Kd.zv | apply Kd.zx | apply Kd.zz)); exact HO326.out) hb); have n6_ := zb.mk (Kd.S_lower (Kd.S_new' (Kd.S_new' ho0 (Kd.R_lt (by (with_reducible repeat (first | apply Kd.zv | apply Kd.zx | apply Kd.zz)); exact HO310.out))) (Kd.S_lt (by (with_reducible repeat (first | apply Kd.zib | apply Kd.zjb | apply Kd.zpb)); exact HO320.out))) (zn (by repeat with_reducible first | exact HB.out | apply zd | apply za | apply ze))); have n7_ := zb.mk (zo (by repeat with_reducible first | exact HB.out | apply zd | apply za | apply ze) hb); clear HO310; clear HO314; clear HO316; clear HO320; clear HO324; clear HO326; clear HB; have HO310 := n0_; have HO314 := n1_; have HO316 := n2_; have HO320 := n3_; have HO324 := n4_; have HO326 := n5_; have HO330 := n6_; have HB := n7_; clear n0_ n1_ n2_ n3_ n4_ n5_ n6_ n7_; (try clear hb); (try clear ho0)) | ((with_reducible refine zt (f := 10) rfl ?_); refine zka (some 42) rfl rfl Tryz.func10 (by kernel_rfl) rfl #[.slice Ao20 t311.length co20, .slice Ao21 t312.length co21, .slice Ao22 y308.length co22] rfl (by (try simp only [List.map_toArray, List.map_cons, List.map_nil]); first | done | rfl | (simp only [List.length_drop, List.length_take]; rfl)) ?_; (with_reducible refine (gate_Load.calls k _ _ t311 _ _ t312 _ _ y308 t331 t332 t333 _ ?side1 ?side2 ?side3 ?side4 ?side5 ?side6 A5.out).mono ?_); (case side1 => repeat (first | exact (Kd.R_reads' HO314.out).2.2 | (with_reducible refine Kd.zea ?_ _) | (with_reducible refine Kd.zfa ?_ _) | (with_reducible refine Kd.zia ?_))); (case side2 => exact (Kd.R_reads' HO314.out).2.1); (case side3 => repeat (first | exact (Kd.R_reads' HO316.out).2.2 | (with_reducible refine Kd.zea ?_ _) | (with_reducible refine Kd.zfa ?_ _) | (with_reducible refine Kd.zia ?_))); (case side4 => exact (Kd.R_reads' HO316.out).2.1); (case side5 => repeat (first | exact (Kd.R_reads' HO310.out).2.2 | (with_reducible refine Kd.zea ?_ _) | (with_reducible refine Kd.zfa ?_ _) | (with_reducible refine Kd.zia ?_))); (case side6 => exact (Kd.R_reads' HO310.out).2.1); rintro e w28 ⟨rfl, hb⟩; refine ⟨_, rfl, ?_⟩; have n0_ := zb.mk (Kd.zga (by (with_reducible repeat (first | apply Kd.zv | apply Kd.zx | apply Kd.zz)); exact HO310.out) hb); have n1_ := zb.mk (Kd.zga (by (with_reducible repeat (first | apply Kd.zv | apply Kd.zx | apply Kd.zz)); exact HO314.out) hb); have n2_ := zb.mk (Kd.zga (by (with_reducible repeat (first | apply Kd.zv | apply Kd.zx | apply Kd.zz)); exact HO316.out) hb); have n3_ := zb.mk (Kd.zdb (by (with_reducible repeat (first | apply Kd.zib | apply Kd.zjb | apply Kd.zpb)); exact HO320.out) hb); have n4_ := zb.mk (Kd.zga (by (with_reducible repeat (first | apply Kd.zv | apply Kd.zx | apply Kd.zz)); exact HO324.out) hb); have n5_ := zb.mk (Kd.zga (by (with_reducible repeat (first | apply Kd.zv | apply Kd.zx | apply Kd.zz)); exact HO326.out) hb); have n6_ := zb.mk (Kd.zdb (by (with_reducible repeat (first | apply Kd.zib | apply Kd.zjb | apply Kd.zpb)); exact HO330.out) hb); have n7_ := zb.mk (zo (by repeat with_reducible first | exact HB.out | apply zd | apply za | apply ze) hb); clear HO310; clear HO314; clear HO316; clear HO320; clear HO324; clear HO326; clear HO330; clear HB; have HO310 := n0_; have HO314 := n1_; have HO316 := n2_; have HO320 := n3_; have HO324 := n4_; have HO326 := n5_; have HO330 := n6_; have HB := n7_; clear n0_ n1_ n2_ n3_ n4_ n5_ n6_ n7_; (try clear hb); obtain ⟨Ao29, co29, eo29⟩ := Kd.S_slice HO320.out; subst eo29) | ((with_reducible refine zt (f := 12) rfl ?_); refine zka (some 51) rfl rfl Tryz.func12 (by kernel_rfl) rfl #[.slice Ao20 t311.length co20, .slice Ao21 t312.length co21, .slice Ao22 y308.length co22, .slice Ao29 t317.length co29] rfl (by (try simp only [List.map_toArray, List.map_cons, List.map_nil]); first | done | rfl | (simp only [List.length_drop, List.length_take]; rfl)) ?_; (with_reducible refine (gate_Works.calls k _ _ t311 _ _ t312 _ _ y308 _ _ t317 t334 t335 _ ?side1 ?side2 ?side3 ?side4 ?side5 ?side6 ?side7 ?side8 A6.out).mono ?_); (case side1 => repeat (first | exact (Kd.R_reads' HO314.out).2.2 | (with_reducible refine Kd.zea ?_ _) | (with_reducible refine Kd.zfa ?_ _) | (with_reducible refine Kd.zia ?_))); (case side2 => exact (Kd.R_reads' HO314.out).2.1); (case side3 => repeat (first | exact (Kd.R_reads' HO316.out).2.2 | (with_reducible refine Kd.zea ?_ _) | (with_reducible refine Kd.zfa ?_ _) | (with_reducible refine Kd.zia ?_))); (case side4 => exact (Kd.R_reads' HO316.out).2.1); (case side5 => repeat (first | exact (Kd.R_reads' HO310.out).2.2 | (with_reducible refine Kd.zea ?_ _) | (with_reducible refine Kd.zfa ?_ _) | (with_reducible refine Kd.zia ?_))); (case side6 => exact (Kd.R_reads' HO310.out).2.1); (case side7 => repeat (first | exact (Kd.S_reads' HO320.out).2.2 | (with_reducible refine Kd.zea ?_ _) | (with_reducible refine Kd.zfa ?_ _) | (with_reducible refine Kd.zia ?_))); (case side8 => exact (Kd.S_reads' HO320.out).2.1); rintro e w30 ⟨v336, rfl, ho0, hb⟩; refine ⟨_, rfl, ?_⟩; have n0_ := zb.mk (Kd.zga (by (with_reducible repeat (first | apply Kd.zv | apply Kd.zx | apply Kd.zz)); exact HO310.out) hb); have n1_ := zb.mk (Kd.zga (by (with_reducible repeat (first | apply Kd.zv | apply Kd.zx | apply Kd.zz)); exact HO314.out) hb); have n2_ := zb.mk (Kd.zga (by (with_reducible repeat (first | apply Kd.zv | apply Kd.zx | apply Kd.zz)); exact HO316.out) hb); have n3_ := zb.mk (Kd.zdb (by (with_reducible repeat (first | apply Kd.zib | apply Kd.zjb | apply Kd.zpb)); exact HO320.out) hb); have n4_ := zb.mk (Kd.zga (by (with_reducible repeat (first | apply Kd.zv | apply Kd.zx | apply Kd.zz)); exact HO324.out) hb); have n5_ := zb.mk (Kd.zga (by (with_reducible repeat (first | apply Kd.zv | apply Kd.zx | apply Kd.zz)); exact HO326.out) hb); have n6_ := zb.mk (Kd.zdb (by (with_reducible repeat (first | apply Kd.zib | apply Kd.zjb | apply Kd.zpb)); exact HO330.out) hb); have n7_ := zb.mk (Kd.zxa ho0 (zn (by repeat with_reducible first | exact HB.out | apply zd | apply za | apply ze))); have n8_ := zb.mk (zo (by repeat with_reducible first | exact HB.out | apply zd | apply za | apply ze) hb); clear HO310; clear HO314; clear HO316; clear HO320; clear HO324; clear HO326; clear HO330; clear HB; have HO310 := n0_; have HO314 := n1_; have HO316 := n2_; have HO320 := n3_; have HO324 := n4_; have HO326 := n5_; have HO330 := n6_; have HO337 := n7_; have HB := n8_; clear n0_ n1_ n2_ n3_ n4_ n5_ n6_ n7_ n8_; (try clear hb); (try clear ho0); obtain ⟨Ao31, co31, eo31⟩ := Kd.zoa HO337.out; subst eo31) | (go_at_call 13; (with_reducible refine (gate_Pass.calls _ _ t311 _ _ t312 _ _ y308 _ _ t317 t338 _ ?side1 ?side2 ?side3 ?side4 ?side5 ?side6 ?side7 ?side8 A14.out).mono ?_); (case side1 => repeat (first | exact (Kd.R_reads' HO314.out).2.2 | (with_reducible refine Kd.zea ?_ _) | (with_reducible refine Kd.zfa ?_ _) | (with_reducible refine Kd.zia ?_))); (case side2 => exact (Kd.R_reads' HO314.out).2.1); (case side3 => repeat (first | exact (Kd.R_reads' HO316.out).2.2 | (with_reducible refine Kd.zea ?_ _) | (with_reducible refine Kd.zfa ?_ _) | (with_reducible refine Kd.zia ?_))); (case side4 => exact (Kd.R_reads' HO316.out).2.1); (case side5 => repeat (first | exact (Kd.R_reads' HO310.out).2.2 | (with_reducible refine Kd.zea ?_ _) | (with_reducible refine Kd.zfa ?_ _) | (with_reducible refine Kd.zia ?_))); (case side6 => exact (Kd.R_reads' HO310.out).2.1); (case side7 => repeat (first | exact (Kd.S_reads' HO320.out).2.2 | (with_reducible refine Kd.zea ?_ _) | (with_reducible refine Kd.zfa ?_ _) | (with_reducible refine Kd.zia ?_))); (case side8 => exact (Kd.S_reads' HO320.out).2.1); rintro e w32 ⟨rfl, hb⟩; have n0_ := zb.mk (Kd.zga (by (with_reducible repeat (first | apply Kd.zv | apply Kd.zx | apply Kd.zz)); exact HO310.out) hb); have n1_ := zb.mk (Kd.zga (by (with_reducible repeat (first | apply Kd.zv | apply Kd.zx | apply Kd.zz)); exact HO314.out) hb); have n2_ := zb.mk (Kd.zga (by (with_reducible repeat (first | apply Kd.zv | apply Kd.zx | apply Kd.zz)); exact HO316.out) hb); have n3_ := zb.mk (Kd.zdb (by (with_reducible repeat (first | apply Kd.zib | apply Kd.zjb | apply Kd.zpb)); exact HO320.out) hb); have n4_ := zb.mk (Kd.zga (by (with_reducible repeat (first | apply Kd.zv | apply Kd.zx | apply Kd.zz)); exact HO324.out) hb); have n5_ := zb.mk (Kd.zga (by (with_reducible repeat (first | apply Kd.zv | apply Kd.zx | apply Kd.zz)); exact HO326.out) hb); have n6_ := zb.mk (Kd.zdb (by (with_reducible repeat (first | apply Kd.zib | apply Kd.zjb | apply Kd.zpb)); exact HO330.out) hb); have n7_ := zb.mk (Kd.zga (by (with_reducible repeat (first | apply Kd.zv | apply Kd.zx | apply Kd.zz)); exact HO337.out) hb); have n8_ := zb.mk (zo (by repeat with_reducible first | exact HB.out | apply zd | apply za | apply ze) hb); clear HO310; clear HO314; clear HO316; clear HO320; clear HO324; clear HO326; clear HO330; clear HO337; clear HB; have HO310 := n0_; have HO314 := n1_; have HO316 := n2_; have HO320 := n3_; have HO324 := n4_; have HO326 := n5_; have HO330 := n6_; have HO337 := n7_; have HB := n8_; clear n0_ n1_ n2_ n3_ n4_ n5_ n6_ n7_ n8_; (try clear hb); obtain ⟨Ao33, co33, eo33⟩ := Kd.S_slice HO330.out; subst eo33) | (go_at_call 13; (with_reducible refine (gate_Pass.calls _ _ t321 _ _ t322 _ _ y308 _ _ t327 t339 _ ?side1 ?side2 ?side3 ?side4 ?side5 ?side6 ?side7 ?side8 A16.out).mono ?_); (case side1 => repeat (first | exact (Kd.R_reads' HO324.out).2.2 | (with_reducible refine Kd.zea ?_ _) | (with_reducible refine Kd.zfa ?_ _) | (with_reducible refine Kd.zia ?_))); (case side2 => exact (Kd.R_reads' HO324.out).2.1); (case side3 => repeat (first | exact (Kd.R_reads' HO326.out).2.2 | (with_reducible refine Kd.zea ?_ _) | (with_reducible refine Kd.zfa ?_ _) | (with_reducible refine Kd.zia ?_))); (case side4 => exact (Kd.R_reads' HO326.out).2.1); (case side5 => repeat (first | exact (Kd.R_reads' HO310.out).2.2 | (with_reducible refine Kd.zea ?_ _) | (with_reducible refine Kd.zfa ?_ _) | (with_reducible refine Kd.zia ?_))); (case side6 => exact (Kd.R_reads' HO310.out).2.1); (case side7 => repeat (first | exact (Kd.S_reads' HO330.out).2.2 | (with_reducible refine Kd.zea ?_ _) | (with_reducible refine Kd.zfa ?_ _) | (with_reducible refine Kd.zia ?_))); (case side8 => exact (Kd.S_reads' HO330.out).2.1); rintro e w34 ⟨rfl, hb⟩; have n0_ := zb.mk (Kd.zga (by (with_reducible repeat (first | apply Kd.zv | apply Kd.zx | apply Kd.zz)); exact HO310.out) hb); have n1_ := zb.mk (Kd.zga (by (with_reducible repeat (first | apply Kd.zv | apply Kd.zx | apply Kd.zz)); exact HO314.out) hb); have n2_ := zb.mk (Kd.zga (by (with_reducible repeat (first | apply Kd.zv | apply Kd.zx | apply Kd.zz)); exact HO316.out) hb); have n3_ := zb.mk (Kd.zdb (by (with_reducible repeat (first | apply Kd.zib | apply Kd.zjb | apply Kd.zpb)); exact HO320.out) hb); have n4_ := zb.mk (Kd.zga (by (with_reducible repeat (first | apply Kd.zv | apply Kd.zx | apply Kd.zz)); exact HO324.out) hb); have n5_ := zb.mk (Kd.zga (by (with_reducible repeat (first | apply Kd.zv | apply Kd.zx | apply Kd.zz)); exact HO326.out) hb); have n6_ := zb.mk (Kd.zdb (by (with_reducible repeat (first | apply Kd.zib | apply Kd.zjb | apply Kd.zpb)); exact HO330.out) hb); have n7_ := zb.mk (Kd.zga (by (with_reducible repeat (first | apply Kd.zv | apply Kd.zx | apply Kd.zz)); exact HO337.out) hb); have n8_ := zb.mk (zo (by repeat with_reducible first | exact HB.out | apply zd | apply za | apply ze) hb); clear HO310; clear HO314; clear HO316; clear HO320; clear HO324; clear HO326; clear HO330; clear HO337; clear HB; have HO310 := n0_; have HO314 := n1_; have HO316 := n2_; have HO320 := n3_; have HO324 := n4_; have HO326 := n5_; have HO330 := n6_; have HO337 := n7_; have HB := n8_; clear n0_ n1_ n2_ n3_ n4_ n5_ n6_ n7_ n8_; (try clear hb)))
   go_ret
   exact ⟨by first | rfl | (simp [zp, zq] <;> rfl) | (simp [*, zp, zq] <;> rfl), by repeat with_reducible first | exact HB.out | apply zd | apply za | apply ze⟩
end
end Go.Proofs.YtfondhcppjkchaaGreat.Q
