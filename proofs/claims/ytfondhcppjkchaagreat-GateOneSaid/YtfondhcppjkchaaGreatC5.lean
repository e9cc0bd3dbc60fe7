import Derived.Test.YtfondhcppjkchaaGreatC3
import Derived.Test.YtfondhcppjkchaaGreatC4
set_option maxHeartbeats 40000000
set_option maxRecDepth 100000
set_option linter.unusedVariables false
set_option linter.unusedSimpArgs false
namespace Go.Proofs.YtfondhcppjkchaaGreat.Q
open Go.RowKit Go.Proofs.YtfondhcppjkchaaGreatW.PrintWords Go.Proofs.YtfondhcppjkchaaGreatW.PrintLast Go.Proofs.YtfondhcppjkchaaGreatW.PrintMore
attribute [local go_sem] max2_int min2_int max_two min_two max_three min_three max_four min_four
def unfold_below.f (a0_0 : Int) (a0_1 : Int) (a1 : Int) : Option (Int) := (num_Ceil.f (mx 0 (wrap64 (a1 - a0_1))) a0_0).bind fun bt234 => (some bt234.1)
theorem unfold_below.calls (a0_0 : Int) (a0_1 : Int) (a1 : Int) (r : Int) (w : World) (h : unfold_below.f a0_0 a0_1 a1 = some r) :
  Calls Tryz.prog 61 #[.agg #[.int .i64 a0_0, .int .i64 a0_1], .int .i64 a1] w fun e w' => e = .returned (.int .i64 r) ∧ Below w.heap.size w w' := by
 have hu68 := Tryz.underlying68
 have HB := zb.mk (Below.refl w.heap.size w)
 have H : ((num_Ceil.f (mx 0 (wrap64 (a1 - a0_1))) a0_0).bind fun bt234 => (some bt234.1)) = some r := h
 clear h
 obtain ⟨ji3, hji3⟩ : ∃ j_ : Int, (mx 0 (wrap64 (a1 - a0_1))) = j_ := ⟨_, rfl⟩
 replace H : ((num_Ceil.f (ji3) a0_0).bind fun bt234 => (some bt234.1)) = some r := by first | (rw [hji3] at H; exact H) | (simp only [hji3] at H ⊢; exact H)
 (try (have hji3l : 0 ≤ ji3 := by (rw [← hji3]; unfold mx; (repeat' split) <;> omega)))
 (try (have hji3m : 0 ≤ ji3 := by omega))
 have hji3_ : (if 0 < (wrap64 (a1 - a0_1)) then (wrap64 (a1 - a0_1)) else 0) = ji3 := hji3
 replace H := Option.bind_eq_some_iff.mp H
 obtain ⟨⟨t234, t235⟩, A40, H⟩ := H
 replace H : (some t234) = some r := H
 have A4 := zb.mk A40
 clear A40
 obtain rfl := Option.some.inj H
 go_enter Tryz.func61, Tryz.ntmps61
 go_wp2_with (first | ((with_reducible refine zda (N := 2) rfl ?_); refine zaa ?hg (N := 2) ?hd (cs := #[.int .i64 a0_0, .int .i64 a0_1]) (t := 68) ?hr ?_; (case hd => rfl); (case hg => rfl); (case hr => first | (go_simp; done) | (go_simp; rfl)); intro gb233 hg w5 hbox hb; have n0_ := zb.mk (zo (by repeat with_reducible first | exact HB.out | apply zd | apply za | apply ze) hb); have n1_ := zb.mk (hbox); have n2_ := zb.mk ((by rw [hg]; exact (zn (by repeat with_reducible first | exact HB.out | apply zd | apply za | apply ze)) : w.heap.size ≤ gb233)); have n3_ := zb.mk ((by rw [hg]; exact (zn (by repeat with_reducible first | exact HB.out | apply zd | apply za | apply ze)) : w.heap.size ≤ gb233)); clear HB; have HB := n0_; have BK233 := n1_; have GW233 := n2_; have GE233 := n3_; clear n0_ n1_ n2_ n3_; clear hb hbox hg; have hcz6_0 : w5.cell? ⟨gb233, 0, none⟩ = some (.int .i64 a0_0) := (zg BK233.out 0).trans rfl; have hcz6_1 : w5.cell? ⟨gb233, 1, none⟩ = some (.int .i64 a0_1) := (zg BK233.out 1).trans rfl; have hfz6_0 := zf BK233.out 0; have hfz6_1 := zf BK233.out 1) | ((with_reducible refine zt (f := 98) rfl ?_); refine zka (some 15) rfl rfl Tryz.func98 (by kernel_rfl) rfl #[.int .i64 ji3, .int .i64 a0_0] rfl (by (try simp only [List.map_toArray, List.map_cons, List.map_nil]); first | done | (simp only [hji3]; rfl) | rfl | (simp only [List.length_drop, List.length_take]; rfl)) ?_; (with_reducible refine (num_Ceil.calls ji3 a0_0 t234 t235 _ A4.out).mono ?_); rintro e w7 ⟨rfl, hb⟩; refine ⟨_, rfl, ?_⟩; have n0_ := zb.mk (zr (g := gb233) (o := .cells #[.int .i64 a0_0, .int .i64 a0_1] 68 (0, 0)) (by (with_reducible repeat first | apply zi | apply zl | apply zh); exact BK233.out) hb); have n1_ := zb.mk (zo (by repeat with_reducible first | exact HB.out | apply zd | apply za | apply ze | refine zk ?_ GE233.out) hb); clear BK233; clear HB; have BK233 := n0_; have HB := n1_; clear n0_ n1_; (try clear hb)))
 go_ret
 exact ⟨by first | rfl | (simp [zp, zq] <;> rfl) | (simp only [← hji3]; first | rfl | (simp [zp, zq] <;> rfl)) | (simp [*, zp, zq] <;> rfl), by repeat with_reducible first | exact HB.out | apply zd | apply za | apply ze | refine zk ?_ GE233.out⟩
def unfold_count.f (a0_0 : Int) (a0_1 : Int) (a1_0 : Int) (a1_1 : Int) : Option (Int × Int) := (unfold_below.f a1_0 a1_1 a0_0).bind fun t238 => (if a1_0 = 0 then (none) else (some (t238, wrap64 (Int.tdiv a0_1 a1_0))))
def unfold_count.T1 : Bool × List (List Nat × List Nat) := (true, [([], []), ([], []), ([1], [1]), ([0, 2], [0, 2]), ([], []), ([4], [4]), ([], []), ([6], [6]), ([5, 7], [5, 7]), ([3, 3, 0, 1, 2, 3], [3]), ([8, 9, 0, 1, 2, 3, 4, 5, 6, 7, 8, 9], [8])])
def unfold_count.B1 : List Nat := [0, 0, 2, 7, 0, 16, 0, 64, 240, 15, 1023]
theorem unfold_count.tab1 : rtab .any (opsOf Tryz.f57 1) = unfold_count.T1 := by kernel_rfl
theorem unfold_count.bits1 : waitsOk unfold_count.T1.2 unfold_count.B1 = true := by kernel_rfl
theorem unfold_count.calls (a0_0 : Int) (a0_1 : Int) (a1_0 : Int) (a1_1 : Int) (r1 : Int) (r2 : Int) (w : World) (h : unfold_count.f a0_0 a0_1 a1_0 a1_1 = some (r1, r2)) :
  Calls Tryz.prog 57 #[.agg #[.int .i64 a0_0, .int .i64 a0_1], .agg #[.int .i64 a1_0, .int .i64 a1_1]] w fun e w' => e = .returned (.tuple #[.int .i64 r1, .int .i64 r2]) ∧ Below w.heap.size w w' := by
 have hu39 := Tryz.underlying39
 have hu68 := Tryz.underlying68
 have HB := zb.mk (Below.refl w.heap.size w)
 have H : ((unfold_below.f a1_0 a1_1 a0_0).bind fun t238 => (if a1_0 = 0 then (none) else (some (t238, wrap64 (Int.tdiv a0_1 a1_0))))) = some (r1, r2) := h
 clear h
 replace H := Option.bind_eq_some_iff.mp H
 obtain ⟨t238, A30, H⟩ := H
 replace H : (if a1_0 = 0 then (none) else (some (t238, wrap64 (Int.tdiv a0_1 a1_0)))) = some (r1, r2) := H
 have A3 := zb.mk A30
 clear A30
 by_cases c4 : a1_0 = 0
 ·rw [if_pos c4] at H
  exact absurd H (by simp)
 ·rw [if_neg c4] at H
  have c4b0 : (a1_0 == 0) = false := beq_eq_false_iff_ne.mpr c4
  have c4b1 : (a1_0 != 0) = true := bne_iff_ne.mpr c4
  simp only [Option.some.injEq, Prod.mk.injEq] at H
  obtain ⟨rfl, rfl⟩ := H
  go_enter Tryz.func57, Tryz.ntmps57
  try go_wp2_with (first | ((with_reducible refine zda (N := 2) rfl ?_); refine zaa ?hg (N := 2) ?hd (cs := #[.int .i64 a0_0, .int .i64 a0_1]) (t := 39) ?hr ?_; (case hd => rfl); (case hg => rfl); (case hr => first | (go_simp; done) | (go_simp; rfl)); intro gb236 hg w5 hbox hb; have n0_ := zb.mk (zo (by repeat with_reducible first | exact HB.out | apply zd | apply za | apply ze) hb); have n1_ := zb.mk (hbox); have n2_ := zb.mk ((by rw [hg]; exact (zn (by repeat with_reducible first | exact HB.out | apply zd | apply za | apply ze)) : w.heap.size ≤ gb236)); have n3_ := zb.mk ((by rw [hg]; exact (zn (by repeat with_reducible first | exact HB.out | apply zd | apply za | apply ze)) : w.heap.size ≤ gb236)); clear HB; have HB := n0_; have BK236 := n1_; have GW236 := n2_; have GE236 := n3_; clear n0_ n1_ n2_ n3_; clear hb hbox hg) | ((with_reducible refine zda (N := 3) rfl ?_); refine zaa ?hg (N := 3) ?hd (cs := #[.int .i64 a1_0, .int .i64 a1_1]) (t := 68) ?hr ?_; (case hd => rfl); (case hg => rfl); (case hr => first | (go_simp; done) | (go_simp; rfl)); intro gb237 hg w6 hbox hb; have n0_ := zb.mk (zr (g := gb236) (o := .cells #[.int .i64 a0_0, .int .i64 a0_1] 39 (0, 0)) (by (with_reducible repeat first | apply zi | apply zl | apply zh); exact BK236.out) hb); have n1_ := zb.mk (zo (by repeat with_reducible first | exact HB.out | apply zd | apply za | apply ze | refine zk ?_ GE236.out) hb); have n2_ := zb.mk (hbox); have n3_ := zb.mk ((by rw [hg]; exact (zn (by repeat with_reducible first | exact HB.out | apply zd | apply za | apply ze | refine zk ?_ GE236.out)) : w.heap.size ≤ gb237)); have n4_ := zb.mk ((by rw [hg]; exact (zn (by repeat with_reducible first | exact HB.out | apply zd | apply za | apply ze | refine zk ?_ GE236.out)) : w.heap.size ≤ gb237)); have n5_ := zb.mk ((by rw [hg]; exact Nat.ne_of_lt (zja (g := gb236) (o := .cells #[.int .i64 a0_0, .int .i64 a0_1] 39 (0, 0)) (by (with_reducible repeat first | apply zi | apply zl | apply zh); exact BK236.out)) : gb236 ≠ gb237)); have n6_ := zb.mk ((by rw [hg]; exact Nat.ne_of_gt (zja (g := gb236) (o := .cells #[.int .i64 a0_0, .int .i64 a0_1] 39 (0, 0)) (by (with_reducible repeat first | apply zi | apply zl | apply zh); exact BK236.out)) : gb237 ≠ gb236)); clear BK236; clear HB; have BK236 := n0_; have HB := n1_; have BK237 := n2_; have GW237 := n3_; have GE237 := n4_; have NB236_237 := n5_; have NB237_236 := n6_; clear n0_ n1_ n2_ n3_ n4_ n5_ n6_; clear hb hbox hg))
  have n0_ := zb.mk (zl BK236.out)
  have n1_ := zb.mk (zl BK237.out)
  have n2_ := zb.mk (ze HB.out)
  clear BK236
  clear BK237
  clear HB
  have BK236 := n0_
  have BK237 := n1_
  have HB := n2_
  clear n0_ n1_ n2_
  refine start_ (n := 11) (S := fun w' => w'.cell? ⟨gb237, 0, none⟩ = some (.int .i64 a1_0) ∧ w'.cell? ⟨gb237, 1, none⟩ = some (.int .i64 a1_1) ∧ w'.cell? ⟨gb236, 0, none⟩ = some (.int .i64 a0_0) ∧ w'.cell? ⟨gb236, 1, none⟩ = some (.int .i64 a0_1)) (ds := []) #[false, false, false, false, false, false, false, false, false, false, false] (by kernel_rfl) rfl rfl ⟨(zg BK237.out 0).trans rfl, (zg BK237.out 1).trans rfl, (zg BK236.out 0).trans rfl, (zg BK236.out 1).trans rfl⟩ (fun hHeld => ?_); refine with_tabW unfold_count.tab1 unfold_count.bits1 (fun HT_ HW_ => ?_)
  generalize w6.drew = w7 at BK236 BK237 HB hHeld ⊢
  refine pure_ (i := 1) (N := some 7) (v := ?_) (a' := ?_) #[false, true, false, false, false, false, false, false, false, false, false] rfl rfl (zqa HT_.out (by kernel_rfl)) (fun _ _ _ h => h) (Or.inl ⟨by rfl, ?_⟩) ?_ ?_
  rotate_left
  ·intro w'
   go_simp
   with_reducible rfl
  rotate_left
  ·simp only [Act.put, List.setIfInBounds_toArray, List.set_cons_zero, List.set_cons_succ, i64_w, i32_w]
   rfl
  refine pure_ (i := 4) (N := some 10) (v := ?_) (a' := ?_) #[false, true, false, false, true, false, false, false, false, false, false] rfl rfl (zqa HT_.out (by kernel_rfl)) (fun _ _ _ h => h) (Or.inl ⟨by rfl, ?_⟩) ?_ ?_
  rotate_left
  ·intro w'
   go_simp
   with_reducible rfl
  rotate_left
  ·simp only [Act.put, List.setIfInBounds_toArray, List.set_cons_zero, List.set_cons_succ, i64_w, i32_w]
   rfl
  refine pure_ (i := 6) (N := some 12) (v := ?_) (a' := ?_) #[false, true, false, false, true, false, true, false, false, false, false] rfl rfl (zqa HT_.out (by kernel_rfl)) (fun _ _ _ h => h) (Or.inl ⟨by rfl, ?_⟩) ?_ ?_
  rotate_left
  ·intro w'
   go_simp
   with_reducible rfl
  rotate_left
  ·simp only [Act.put, List.setIfInBounds_toArray, List.set_cons_zero, List.set_cons_succ, i64_w, i32_w]
   rfl
  refine take_ (i := 0) (N := some 6) (v := ?_) (a' := ?_) #[true, true, false, false, true, false, true, false, false, false, false] rfl rfl (zua HT_.out HW_.out (by kernel_rfl)) (fun _ _ _ h => h) (Or.inl ⟨by rfl, ?_⟩) hHeld ?_ ?_
  rotate_left
  ·rintro w' ⟨s0, s1, s2, s3⟩
   go_simp
   with_reducible rfl
  rotate_left
  ·simp only [Act.put, List.setIfInBounds_toArray, List.set_cons_zero, List.set_cons_succ, i64_w, i32_w]
   rfl
  refine take_ (i := 2) (N := some 8) (v := ?_) (a' := ?_) #[true, true, true, false, true, false, true, false, false, false, false] rfl rfl (zua HT_.out HW_.out (by kernel_rfl)) (fun _ _ _ h => h) (Or.inl ⟨by rfl, ?_⟩) hHeld ?_ ?_
  rotate_left
  ·rintro w' ⟨s0, s1, s2, s3⟩
   go_simp
   with_reducible rfl
  rotate_left
  ·simp only [Act.put, List.setIfInBounds_toArray, List.set_cons_zero, List.set_cons_succ, i64_w, i32_w]
   rfl
  refine take_ (i := 5) (N := some 11) (v := ?_) (a' := ?_) #[true, true, true, false, true, true, true, false, false, false, false] rfl rfl (zua HT_.out HW_.out (by kernel_rfl)) (fun _ _ _ h => h) (Or.inl ⟨by rfl, ?_⟩) hHeld ?_ ?_
  rotate_left
  ·rintro w' ⟨s0, s1, s2, s3⟩
   go_simp
   with_reducible rfl
  rotate_left
  ·simp only [Act.put, List.setIfInBounds_toArray, List.set_cons_zero, List.set_cons_succ, i64_w, i32_w]
   rfl
  refine take_ (i := 7) (N := some 13) (v := ?_) (a' := ?_) #[true, true, true, false, true, true, true, true, false, false, false] rfl rfl (zua HT_.out HW_.out (by kernel_rfl)) (fun _ _ _ h => h) (Or.inl ⟨by rfl, ?_⟩) hHeld ?_ ?_
  rotate_left
  ·rintro w' ⟨s0, s1, s2, s3⟩
   go_simp
   with_reducible rfl
  rotate_left
  ·simp only [Act.put, List.setIfInBounds_toArray, List.set_cons_zero, List.set_cons_succ, i64_w, i32_w]
   rfl
  refine pure_ (i := 8) (N := some 14) (v := ?_) (a' := ?_) #[true, true, true, false, true, true, true, true, true, false, false] rfl rfl (zqa HT_.out (by kernel_rfl)) (fun _ _ _ h => h) (Or.inl ⟨by rfl, ?_⟩) ?_ ?_
  rotate_left
  ·intro w'
   go_simp
   with_reducible rfl
  rotate_left
  ·simp only [Act.put, List.setIfInBounds_toArray, List.set_cons_zero, List.set_cons_succ, i64_w, i32_w]
   rfl
  refine one_ (i := 3) (N := some 9) #[true, true, true, true, true, true, true, true, true, false, false] rfl rfl (ztb HT_.out (by kernel_rfl)) (by decide) (fun K hK => ?_)
  refine goes_ Tryz.func61 (by kernel_rfl) rfl #[.agg #[.int .i64 a1_0, .int .i64 a1_1], .int .i64 a0_0] (by rfl) rfl rfl (by (try simp only [List.map_toArray, List.map_cons, List.map_nil]); first | done | rfl | (simp only [List.length_drop, List.length_take]; rfl)) ?_
  with_reducible refine (unfold_below.calls a1_0 a1_1 a0_0 t238 _ A3.out).mono ?_
  rintro e w8 ⟨rfl, hb⟩
  refine ⟨_, rfl, ?_⟩
  have n0_ := zb.mk (zr (g := gb236) (o := .cells #[.int .i64 a0_0, .int .i64 a0_1] 39 (0, 0)) (by (with_reducible repeat first | apply zi | apply zl | apply zh); exact BK236.out) hb)
  have n1_ := zb.mk (zr (g := gb237) (o := .cells #[.int .i64 a1_0, .int .i64 a1_1] 68 (0, 0)) (by (with_reducible repeat first | apply zi | apply zl | apply zh); exact BK237.out) hb)
  have n2_ := zb.mk (zo (by repeat with_reducible first | exact HB.out | apply zd | apply za | apply ze | refine zk ?_ GE236.out | refine zk ?_ GE237.out) hb)
  clear BK236
  clear BK237
  clear HB
  have BK236 := n0_
  have BK237 := n1_
  have HB := n2_
  clear n0_ n1_ n2_
  (try clear hb)
  (try clear hb2)
  (try clear hk)
  (try clear hi)
  refine hK.out _ _ ⟨(zg BK237.out 0).trans rfl, (zg BK237.out 1).trans rfl, (zg BK236.out 0).trans rfl, (zg BK236.out 1).trans rfl⟩ (fun hHeld => ?_)
  clear hK K
  refine norm_ (a' := ?_) ?_ ?_
  rotate_left
  ·show Act.put _ (some 9) _ = _
   simp only [Act.put, List.setIfInBounds_toArray, List.set_cons_zero, List.set_cons_succ, i64_w, i32_w]
   rfl
  refine pure_ (i := 9) (N := some 4) (v := ?_) (a' := ?_) #[true, true, true, true, true, true, true, true, true, true, false] rfl rfl (zqa HT_.out (by kernel_rfl)) (fun _ _ _ h => h) (Or.inl ⟨by rfl, ?_⟩) ?_ ?_
  rotate_left
  ·intro w'
   go_simp
   with_reducible rfl
  rotate_left
  ·simp only [Act.put, List.setIfInBounds_toArray, List.set_cons_zero, List.set_cons_succ, i64_w, i32_w]
   rfl
  refine pure_ (i := 10) (N := some 5) (v := ?_) (a' := ?_) #[true, true, true, true, true, true, true, true, true, true, true] rfl rfl (zqa HT_.out (by kernel_rfl)) (fun _ _ _ h => h) (Or.inl ⟨by rfl, ?_⟩) ?_ ?_
  rotate_left
  ·intro w'
   go_simp
   with_reducible rfl
  rotate_left
  ·simp only [Act.put, List.setIfInBounds_toArray, List.set_cons_zero, List.set_cons_succ, i64_w, i32_w]
   rfl
  refine done_ (done_of HT_.out (by kernel_rfl)) ?_
  try go_wp2
  go_ret2
  exact ⟨by first | rfl | (simp [zp, zq] <;> rfl) | (simp [*, zp, zq] <;> rfl), by repeat with_reducible first | exact HB.out | apply zd | apply za | apply ze | refine zk ?_ GE236.out | refine zk ?_ GE237.out⟩
def unfold_Count.f (k : Nat) (a0_0 : Int) (a0_1 : Int) (a1_0 : Int) (a1_1 : Int) : Option (Int × Int × Int) := (unfold_mayClock.f k a1_0 a1_1).bind fun t244 => (if t244 = true then (if a0_0 < 0 then (some (0, 0, 2)) else (if a0_0 > 17592186044416 then (some (0, 0, 2)) else (if a0_1 < 1 then (some (0, 0, 2)) else (if a0_1 > 17592186044416 then (some (0, 0, 2)) else (if a1_0 = 0 then (none) else (if (Int.tmod a0_1 a1_0) = 0 then ((unfold_count.f a0_0 a0_1 a1_0 a1_1).bind fun bt245 => (some (bt245.1, bt245.2, 0))) else (some (0, 0, 2)))))))) else (some (0, 0, 2)))
theorem unfold_Count.mono : ∀ a0 a1 a2 a3 k, LeO (unfold_Count.f k a0 a1 a2 a3) (unfold_Count.f (k + 1) a0 a1 a2 a3) := by
 intro a0 a1 a2 a3 k
 unfold unfold_Count.f
 repeat' first
   | (with_reducible exact unfold_mayClock.mono _ _ _)
   | (with_reducible exact LeO.refl _)
   | (with_reducible exact LeO.none _)
   | (with_reducible refine LeO.ite ?_ ?_)
   | (with_reducible refine LeO.bind ?_ (fun _ => ?_))
   | exact unfold_mayClock.mono _ _ _
   | exact LeO.none _
   | refine LeO.ite ?_ ?_
   | refine LeO.bind ?_ (fun _ => ?_)
theorem unfold_Count.calls (k : Nat) (a0_0 : Int) (a0_1 : Int) (a1_0 : Int) (a1_1 : Int) (r1 : Int) (r2 : Int) (r3 : Int) (w : World) (h : unfold_Count.f k a0_0 a0_1 a1_0 a1_1 = some (r1, r2, r3)) :
  Calls Tryz.prog 34 #[.agg #[.int .i64 a0_0, .int .i64 a0_1], .agg #[.int .i64 a1_0, .int .i64 a1_1]] w fun e w' => e = .returned (.tuple #[.int .i64 r1, .int .i64 r2, .int .i64 r3]) ∧ Below w.heap.size w w' := by
 have hu39 := Tryz.underlying39
 have hu68 := Tryz.underlying68
 have HB := zb.mk (Below.refl w.heap.size w)
 have H : ((unfold_mayClock.f k a1_0 a1_1).bind fun t244 => (if t244 = true then (if a0_0 < 0 then (some (0, 0, 2)) else (if a0_0 > 17592186044416 then (some (0, 0, 2)) else (if a0_1 < 1 then (some (0, 0, 2)) else (if a0_1 > 17592186044416 then (some (0, 0, 2)) else (if a1_0 = 0 then (none) else (if (Int.tmod a0_1 a1_0) = 0 then ((unfold_count.f a0_0 a0_1 a1_0 a1_1).bind fun bt245 => (some (bt245.1, bt245.2, 0))) else (some (0, 0, 2)))))))) else (some (0, 0, 2)))) = some (r1, r2, r3) := h
 clear h
 replace H := Option.bind_eq_some_iff.mp H
 obtain ⟨t244, A30, H⟩ := H
 replace H : (if t244 = true then (if a0_0 < 0 then (some (0, 0, 2)) else (if a0_0 > 17592186044416 then (some (0, 0, 2)) else (if a0_1 < 1 then (some (0, 0, 2)) else (if a0_1 > 17592186044416 then (some (0, 0, 2)) else (if a1_0 = 0 then (none) else (if (Int.tmod a0_1 a1_0) = 0 then ((unfold_count.f a0_0 a0_1 a1_0 a1_1).bind fun bt245 => (some (bt245.1, bt245.2, 0))) else (some (0, 0, 2)))))))) else (some (0, 0, 2))) = some (r1, r2, r3) := H
 have A3 := zb.mk A30
 clear A30
 refine dite (t244 = true) (fun c4 => ?pp1) (fun c4 => ?nn1)
 case' nn1 =>
  replace c4 := Bool.eq_false_iff.mpr c4
  subst c4
  have H1 : (some (0, 0, 2)) = some (r1, r2, r3) := by rw [if_neg (show ¬ (false = true) by decide)] at H; exact H
  clear H
  have H := H1
  clear H1
  simp only [Option.some.injEq, Prod.mk.injEq] at H
  obtain ⟨rfl, rfl, rfl⟩ := H
 case' pp1 =>
  subst c4
  have H1 : (if a0_0 < 0 then (some (0, 0, 2)) else (if a0_0 > 17592186044416 then (some (0, 0, 2)) else (if a0_1 < 1 then (some (0, 0, 2)) else (if a0_1 > 17592186044416 then (some (0, 0, 2)) else (if a1_0 = 0 then (none) else (if (Int.tmod a0_1 a1_0) = 0 then ((unfold_count.f a0_0 a0_1 a1_0 a1_1).bind fun bt245 => (some (bt245.1, bt245.2, 0))) else (some (0, 0, 2)))))))) = some (r1, r2, r3) := by rw [if_pos rfl] at H; exact H
  clear H
  have H := H1
  clear H1
  refine dite (a0_0 < 0) (fun c5 => ?pp2) (fun c5 => ?nn2)
  case' nn2 =>
   rw [if_neg c5] at H
   have c5b0 : decide (a0_0 < 0) = false := decide_eq_false c5
   clear c5
   refine dite (a0_0 > 17592186044416) (fun c12 => ?pp3) (fun c12 => ?nn3)
   case' nn3 =>
    rw [if_neg c12] at H
    have c12b0 : decide (17592186044416 < a0_0) = false := decide_eq_false c12
    clear c12
    refine dite (a0_1 < 1) (fun c19 => ?pp4) (fun c19 => ?nn4)
    case' nn4 =>
     rw [if_neg c19] at H
     have c19b0 : decide (a0_1 < 1) = false := decide_eq_false c19
     clear c19
     refine dite (a0_1 > 17592186044416) (fun c26 => ?pp5) (fun c26 => ?nn5)
     case' nn5 =>
      rw [if_neg c26] at H
      have c26b0 : decide (17592186044416 < a0_1) = false := decide_eq_false c26
      clear c26
      refine dite (a1_0 = 0) (fun c33 => ?pp6) (fun c33 => ?nn6)
      case' nn6 =>
       rw [if_neg c33] at H
       have c33b0 : (a1_0 == 0) = false := beq_eq_false_iff_ne.mpr c33
       have c33b1 : (a1_0 != 0) = true := bne_iff_ne.mpr c33
       refine dite ((Int.tmod a0_1 a1_0) = 0) (fun c34 => ?pp7) (fun c34 => ?nn7)
       case' nn7 =>
        rw [if_neg c34] at H
        have c34b0 : ((Int.tmod a0_1 a1_0) == 0) = false := beq_eq_false_iff_ne.mpr c34
        have c34b1 : ((Int.tmod a0_1 a1_0) != 0) = true := bne_iff_ne.mpr c34
        simp only [Option.some.injEq, Prod.mk.injEq] at H
        obtain ⟨rfl, rfl, rfl⟩ := H
       case' pp7 =>
        rw [if_pos c34] at H
        have c34b0 : ((Int.tmod a0_1 a1_0) == 0) = true := beq_iff_eq.mpr c34
        have c34b1 : ((Int.tmod a0_1 a1_0) != 0) = false := bne_eq_false_iff_eq.mpr c34
        clear c34
        replace H := Option.bind_eq_some_iff.mp H
        obtain ⟨⟨t245, t246⟩, A350, H⟩ := H
        replace H : (some (t245, t246, 0)) = some (r1, r2, r3) := H
        have A35 := zb.mk A350
        clear A350
        simp only [Option.some.injEq, Prod.mk.injEq] at H
        obtain ⟨rfl, rfl, rfl⟩ := H
      case' pp6 =>
       rw [if_pos c33] at H
       exact absurd H (by simp)
     case' pp5 =>
      rw [if_pos c26] at H
      have c26b0 : decide (17592186044416 < a0_1) = true := decide_eq_true c26
      clear c26
      simp only [Option.some.injEq, Prod.mk.injEq] at H
      obtain ⟨rfl, rfl, rfl⟩ := H
    case' pp4 =>
     rw [if_pos c19] at H
     have c19b0 : decide (a0_1 < 1) = true := decide_eq_true c19
     clear c19
     simp only [Option.some.injEq, Prod.mk.injEq] at H
     obtain ⟨rfl, rfl, rfl⟩ := H
   case' pp3 =>
    rw [if_pos c12] at H
    have c12b0 : decide (17592186044416 < a0_0) = true := decide_eq_true c12
    clear c12
    simp only [Option.some.injEq, Prod.mk.injEq] at H
    obtain ⟨rfl, rfl, rfl⟩ := H
  case' pp2 =>
   rw [if_pos c5] at H
   have c5b0 : decide (a0_0 < 0) = true := decide_eq_true c5
   clear c5
   simp only [Option.some.injEq, Prod.mk.injEq] at H
   obtain ⟨rfl, rfl, rfl⟩ := H
 all_goals
  as_aux_lemma =>
   go_enter Tryz.func34, Tryz.ntmps34
   go_wp2_with (first | ((with_reducible refine zda (N := 2) rfl ?_); refine zaa ?hg (N := 2) ?hd (cs := #[.int .i64 a0_0, .int .i64 a0_1]) (t := 39) ?hr ?_; (case hd => rfl); (case hg => rfl); (case hr => first | (go_simp; done) | (go_simp; rfl)); intro gb242 hg w36 hbox hb; have n0_ := zb.mk (zo (by repeat with_reducible first | exact HB.out | apply zd | apply za | apply ze) hb); have n1_ := zb.mk (hbox); have n2_ := zb.mk ((by rw [hg]; exact (zn (by repeat with_reducible first | exact HB.out | apply zd | apply za | apply ze)) : w.heap.size ≤ gb242)); have n3_ := zb.mk ((by rw [hg]; exact (zn (by repeat with_reducible first | exact HB.out | apply zd | apply za | apply ze)) : w.heap.size ≤ gb242)); clear HB; have HB := n0_; have BK242 := n1_; have GW242 := n2_; have GE242 := n3_; clear n0_ n1_ n2_ n3_; clear hb hbox hg) | ((with_reducible refine zda (N := 3) rfl ?_); refine zaa ?hg (N := 3) ?hd (cs := #[.int .i64 a1_0, .int .i64 a1_1]) (t := 68) ?hr ?_; (case hd => rfl); (case hg => rfl); (case hr => first | (go_simp; done) | (go_simp; rfl)); intro gb243 hg w37 hbox hb; have n0_ := zb.mk (zr (g := gb242) (o := .cells #[.int .i64 a0_0, .int .i64 a0_1] 39 (0, 0)) (by (with_reducible repeat first | apply zi | apply zl | apply zh); exact BK242.out) hb); have n1_ := zb.mk (zo (by repeat with_reducible first | exact HB.out | apply zd | apply za | apply ze | refine zk ?_ GE242.out) hb); have n2_ := zb.mk (hbox); have n3_ := zb.mk ((by rw [hg]; exact (zn (by repeat with_reducible first | exact HB.out | apply zd | apply za | apply ze | refine zk ?_ GE242.out)) : w.heap.size ≤ gb243)); have n4_ := zb.mk ((by rw [hg]; exact (zn (by repeat with_reducible first | exact HB.out | apply zd | apply za | apply ze | refine zk ?_ GE242.out)) : w.heap.size ≤ gb243)); have n5_ := zb.mk ((by rw [hg]; exact Nat.ne_of_lt (zja (g := gb242) (o := .cells #[.int .i64 a0_0, .int .i64 a0_1] 39 (0, 0)) (by (with_reducible repeat first | apply zi | apply zl | apply zh); exact BK242.out)) : gb242 ≠ gb243)); have n6_ := zb.mk ((by rw [hg]; exact Nat.ne_of_gt (zja (g := gb242) (o := .cells #[.int .i64 a0_0, .int .i64 a0_1] 39 (0, 0)) (by (with_reducible repeat first | apply zi | apply zl | apply zh); exact BK242.out)) : gb243 ≠ gb242)); clear BK242; clear HB; have BK242 := n0_; have HB := n1_; have BK243 := n2_; have GW243 := n3_; have GE243 := n4_; have NB242_243 := n5_; have NB243_242 := n6_; clear n0_ n1_ n2_ n3_ n4_ n5_ n6_; clear hb hbox hg; have hnb38 := NB243_242.out; have hnc38 := NB242_243.out; have hcz39_0 : w37.cell? ⟨gb243, 0, none⟩ = some (.int .i64 a1_0) := (zg BK243.out 0).trans rfl; have hcz39_1 : w37.cell? ⟨gb243, 1, none⟩ = some (.int .i64 a1_1) := (zg BK243.out 1).trans rfl; have hfz39_0 := zf BK243.out 0; have hfz39_1 := zf BK243.out 1) | ((with_reducible refine zt (f := 58) rfl ?_); refine zka (some 8) rfl rfl Tryz.func58 (by kernel_rfl) rfl #[.agg #[.int .i64 a1_0, .int .i64 a1_1]] rfl (by (try simp only [List.map_toArray, List.map_cons, List.map_nil]); first | done | rfl | (simp only [List.length_drop, List.length_take]; rfl)) ?_; (with_reducible refine (unfold_mayClock.calls k a1_0 a1_1 _ _ A3.out).mono ?_); rintro e w40 ⟨rfl, hb⟩; refine ⟨_, rfl, ?_⟩; have n0_ := zb.mk (zr (g := gb242) (o := .cells #[.int .i64 a0_0, .int .i64 a0_1] 39 (0, 0)) (by (with_reducible repeat first | apply zi | apply zl | apply zh); exact BK242.out) hb); have n1_ := zb.mk (zr (g := gb243) (o := .cells #[.int .i64 a1_0, .int .i64 a1_1] 68 (0, 0)) (by (with_reducible repeat first | apply zi | apply zl | apply zh); exact BK243.out) hb); have n2_ := zb.mk (zo (by repeat with_reducible first | exact HB.out | apply zd | apply za | apply ze | refine zk ?_ GE242.out | refine zk ?_ GE243.out) hb); clear BK242; clear BK243; clear HB; have BK242 := n0_; have BK243 := n1_; have HB := n2_; clear n0_ n1_ n2_; (try clear hb); have hcz41_0 : w40.cell? ⟨gb242, 0, none⟩ = some (.int .i64 a0_0) := (zg BK242.out 0).trans rfl; have hcz41_1 : w40.cell? ⟨gb242, 1, none⟩ = some (.int .i64 a0_1) := (zg BK242.out 1).trans rfl; have hfz41_0 := zf BK242.out 0; have hfz41_1 := zf BK242.out 1; have hcz42_0 : w40.cell? ⟨gb243, 0, none⟩ = some (.int .i64 a1_0) := (zg BK243.out 0).trans rfl; have hcz42_1 : w40.cell? ⟨gb243, 1, none⟩ = some (.int .i64 a1_1) := (zg BK243.out 1).trans rfl; have hfz42_0 := zf BK243.out 0; have hfz42_1 := zf BK243.out 1) | ((with_reducible refine zt (f := 57) rfl ?_); refine zka (some 41) rfl rfl Tryz.func57 (by kernel_rfl) rfl #[.agg #[.int .i64 a0_0, .int .i64 a0_1], .agg #[.int .i64 a1_0, .int .i64 a1_1]] rfl (by (try simp only [List.map_toArray, List.map_cons, List.map_nil]); first | done | rfl | (simp only [List.length_drop, List.length_take]; rfl)) ?_; (with_reducible refine (unfold_count.calls a0_0 a0_1 a1_0 a1_1 t245 t246 _ A35.out).mono ?_); rintro e w43 ⟨rfl, hb⟩; refine ⟨_, rfl, ?_⟩; have n0_ := zb.mk (zr (g := gb242) (o := .cells #[.int .i64 a0_0, .int .i64 a0_1] 39 (0, 0)) (by (with_reducible repeat first | apply zi | apply zl | apply zh); exact BK242.out) hb); have n1_ := zb.mk (zr (g := gb243) (o := .cells #[.int .i64 a1_0, .int .i64 a1_1] 68 (0, 0)) (by (with_reducible repeat first | apply zi | apply zl | apply zh); exact BK243.out) hb); have n2_ := zb.mk (zo (by repeat with_reducible first | exact HB.out | apply zd | apply za | apply ze | refine zk ?_ GE242.out | refine zk ?_ GE243.out) hb); clear BK242; clear BK243; clear HB; have BK242 := n0_; have BK243 := n1_; have HB := n2_; clear n0_ n1_ n2_; (try clear hb)))
   go_ret3
   exact ⟨by first | rfl | (simp [zp, zq] <;> rfl) | (simp [*, zp, zq] <;> rfl), by repeat with_reducible first | exact HB.out | apply zd | apply za | apply ze | refine zk ?_ GE242.out | refine zk ?_ GE243.out⟩
def num_divisor.f : Nat → Int → Int → Option (Int)
 | 0, _, _ => none
 | k + 1, a0, a1 => if a1 = 0 then (some a0) else ((num_divisor.f k a1 (Int.tmod a0 a1)).bind fun t650 => (some t650))
theorem num_divisor.zma : ∀ k, (∀ y0 y1, LeO (num_divisor.f k y0 y1) (num_divisor.f (k + 1) y0 y1))
 | 0 => fun _ _ r h => by simp [num_divisor.f] at h
 | k + 1 => by
  have ih0 := num_divisor.zma k
  ·intro y0 y1
   unfold num_divisor.f
   repeat' first
   | (with_reducible exact ih0 _ _)
   | (with_reducible exact LeO.refl _)
   | (with_reducible exact LeO.none _)
   | (with_reducible refine LeO.ite ?_ ?_)
   | (with_reducible refine LeO.bind ?_ (fun _ => ?_))
   | exact ih0 _ _
   | exact LeO.none _
   | refine LeO.ite ?_ ?_
   | refine LeO.bind ?_ (fun _ => ?_)
theorem num_divisor.mono : ∀ a0 a1 k, LeO (num_divisor.f k a0 a1) (num_divisor.f (k + 1) a0 a1) := by
 intro a0 a1 k
 have ih0 := num_divisor.zma k
 exact ih0 a0 a1
theorem num_divisor.calls (k : Nat) : ∀ (a0 : Int) (a1 : Int) (r : Int) (w : World) (h : num_divisor.f k a0 a1 = some r),
  Calls Tryz.prog 94 #[.int .u64 a0, .int .u64 a1] w fun e w' => e = .returned (.int .u64 r) ∧ Drawn0 w w' := by
 induction k using Nat.strongRecOn with
 | _ k ih =>
 intro a0 a1 r w h
 cases k with
 | zero => exact absurd h (by simp [num_divisor.f])
 | succ k =>
 simp only [num_divisor.f] at h
 have H : (if a1 = 0 then (some a0) else ((num_divisor.f k a1 (Int.tmod a0 a1)).bind fun t650 => (some t650))) = some r := h
 clear h
 by_cases c3 : a1 = 0
 ·rw [if_pos c3] at H
  have c3b0 : (a1 == 0) = true := beq_iff_eq.mpr c3
  have c3b1 : (a1 != 0) = false := bne_eq_false_iff_eq.mpr c3
  clear c3
  obtain rfl := Option.some.inj H
  go_enter Tryz.func94, Tryz.ntmps94
  go_wp2
  go_ret
  exact ⟨by first | rfl | (simp; done) | (simp [*]; done), by repeat (first | exact Drawn0.refl _ | apply Drawn0.step)⟩
 ·rw [if_neg c3] at H
  have c3b0 : (a1 == 0) = false := beq_eq_false_iff_ne.mpr c3
  have c3b1 : (a1 != 0) = true := bne_iff_ne.mpr c3
  replace H := Option.bind_eq_some_iff.mp H
  obtain ⟨t650, A40, H⟩ := H
  replace H : (some t650) = some r := H
  have A4 := zb.mk A40
  clear A40
  obtain rfl := Option.some.inj H
  go_enter Tryz.func94, Tryz.ntmps94
  go_wp2_with (first | ((with_reducible refine zt (f := 94) rfl ?_); refine zka (some 12) rfl rfl Tryz.func94 (by kernel_rfl) rfl #[.int .u64 a1, .int .u64 (Int.tmod a0 a1)] rfl (by (try simp only [List.map_toArray, List.map_cons, List.map_nil]); first | done | rfl | (simp only [List.length_drop, List.length_take]; rfl)) ?_; (with_reducible refine (ih k (by omega) a1 (Int.tmod a0 a1) t650 _ A4.out).mono ?_); rintro e w' ⟨rfl, ⟨nd, rfl⟩⟩; refine ⟨_, rfl, ?_⟩))
  go_ret
  exact ⟨by first | rfl | (simp; done) | (simp [*]; done), by repeat (first | exact Drawn0.refl _ | apply Drawn0.step)⟩
def num_Lcm.j0 : Nat → Int → Int → Bool → Option (Int × Bool)
 | 0, _, _, _ => none
 | k + 1, x0, x1, x15 => if x15 = true then (some (0, true)) else ((num_plain.f x0).bind fun t651 => ((num_plain.f x1).bind fun t652 => ((num_divisor.f k t651 t652).bind fun t653 => (if t653 = 0 then (none) else ((bits_Mul64.f (IntKind.u64.wrap (Int.tdiv t651 t653)) t652).bind fun bt654 => (if bt654.1 = 0 then ((num_signed.f k bt654.2 false).bind fun bt656 => (some (bt656.1, bt656.2))) else (some (0, false))))))))
def num_Lcm.f (k : Nat) (a0 : Int) (a1 : Int) : Option (Int × Bool) := if a0 = 0 then (num_Lcm.j0 k a0 a1 true) else (num_Lcm.j0 k a0 a1 (a1 == 0))
theorem num_Lcm.zma : ∀ k, (∀ y0 y1 y2, LeO (num_Lcm.j0 k y0 y1 y2) (num_Lcm.j0 (k + 1) y0 y1 y2))
 | 0 => fun _ _ _ r h => by simp [num_Lcm.j0] at h
 | k + 1 => by
  have ih0 := num_Lcm.zma k
  ·intro y0 y1 y2
   unfold num_Lcm.j0
   repeat' first
   | (with_reducible exact ih0 _ _ _)
   | (with_reducible exact num_divisor.mono _ _ _)
   | (with_reducible exact num_signed.mono _ _ _)
   | (with_reducible exact LeO.refl _)
   | (with_reducible exact LeO.none _)
   | (with_reducible refine LeO.ite ?_ ?_)
   | (with_reducible refine LeO.bind ?_ (fun _ => ?_))
   | exact ih0 _ _ _
   | exact num_divisor.mono _ _ _
   | exact num_signed.mono _ _ _
   | exact LeO.none _
   | refine LeO.ite ?_ ?_
   | refine LeO.bind ?_ (fun _ => ?_)
theorem num_Lcm.mono : ∀ a0 a1 k, LeO (num_Lcm.f k a0 a1) (num_Lcm.f (k + 1) a0 a1) := by
 intro a0 a1 k
 have ih0 := num_Lcm.zma k
 unfold num_Lcm.f
 repeat' first
   | (with_reducible exact ih0 _ _ _)
   | (with_reducible exact num_divisor.mono _ _ _)
   | (with_reducible exact num_signed.mono _ _ _)
   | (with_reducible exact LeO.refl _)
   | (with_reducible exact LeO.none _)
   | (with_reducible refine LeO.ite ?_ ?_)
   | (with_reducible refine LeO.bind ?_ (fun _ => ?_))
   | exact ih0 _ _ _
   | exact num_divisor.mono _ _ _
   | exact num_signed.mono _ _ _
   | exact LeO.none _
   | refine LeO.ite ?_ ?_
   | refine LeO.bind ?_ (fun _ => ?_)
theorem num_Lcm.calls (k : Nat) (a0 : Int) (a1 : Int) (r1 : Int) (r2 : Bool) (w : World) (h : num_Lcm.f k a0 a1 = some (r1, r2)) :
  Calls Tryz.prog 55 #[.int .i64 a0, .int .i64 a1] w fun e w' => e = .returned (.tuple #[.int .i64 r1, .bool r2]) ∧ Drawn0 w w' := by
 have H : (if a0 = 0 then (num_Lcm.j0 k a0 a1 true) else (num_Lcm.j0 k a0 a1 (a1 == 0))) = some (r1, r2) := h
 clear h
 have HC3 := zb.mk H
 clear H
 go_enter Tryz.func55, Tryz.ntmps55
 go_upto_region 1 with (fail)
 go_cut [15] (fun v15 wc => ∃ (kq : Nat) (x15_2 : Bool), v15 = .bool x15_2 ∧ zb (num_Lcm.j0 kq a0 a1 x15_2 = some (r1, r2)) ∧ zb (kq ≤ k) ∧ Drawn0 w wc)
 case first =>
  have H := HC3.out
  clear HC3
  by_cases c4 : a0 = 0
  ·rw [if_pos c4] at H
   have c4b0 : (a0 == 0) = true := beq_iff_eq.mpr c4
   have c4b1 : (a0 != 0) = false := bne_eq_false_iff_eq.mpr c4
   clear c4
   (first | rw [c4b0] | (simp only [i64_w, i32_w]; rw [c4b0]) | skip)
   have H' := zb.mk H
   clear H
   go_wp2
   go_meet
   case rel => exact ⟨_, (true), (by first | rfl | (simp; done) | (simp [*]; done)), H', ⟨by first | omega | exact Nat.le_refl _⟩, by repeat (first | exact Drawn0.refl _ | apply Drawn0.step)⟩
  ·rw [if_neg c4] at H
   have c4b0 : (a0 == 0) = false := beq_eq_false_iff_ne.mpr c4
   have c4b1 : (a0 != 0) = true := bne_iff_ne.mpr c4
   (first | rw [c4b0] | (simp only [i64_w, i32_w]; rw [c4b0]) | skip)
   have H' := zb.mk H
   clear H
   go_wp2
   go_meet
   case rel => exact ⟨_, ((a1 == 0)), (by first | rfl | (simp; done) | (simp [*]; done)), H', ⟨by first | omega | exact Nat.le_refl _⟩, by repeat (first | exact Drawn0.refl _ | apply Drawn0.step)⟩
 case rest =>
  clear HC3
  try clear p2
  try clear c4
  try clear c4b0
  try clear c4b1
  obtain ⟨kq, x15_2, rfl, HA, HJ2, ⟨mc2, rfl⟩⟩ := hcut
  cases kq with
  | zero => exact absurd HA.out (by simp [num_Lcm.j0])
  | succ kj2 =>
   have H := HA.out
   clear HA
   simp only [num_Lcm.j0] at H
   refine dite (x15_2 = true) (fun c5 => ?pp2) (fun c5 => ?nn2)
   case' nn2 =>
    replace c5 := Bool.eq_false_iff.mpr c5
    subst c5
    have H1 : ((num_plain.f a0).bind fun t651 => ((num_plain.f a1).bind fun t652 => ((num_divisor.f kj2 t651 t652).bind fun t653 => (if t653 = 0 then (none) else ((bits_Mul64.f (IntKind.u64.wrap (Int.tdiv t651 t653)) t652).bind fun bt654 => (if bt654.1 = 0 then ((num_signed.f kj2 bt654.2 false).bind fun bt656 => (some (bt656.1, bt656.2))) else (some (0, false)))))))) = some (r1, r2) := by rw [if_neg (show ¬ (false = true) by decide)] at H; exact H
    clear H
    have H := H1
    clear H1
    replace H := Option.bind_eq_some_iff.mp H
    obtain ⟨t651, A60, H⟩ := H
    replace H : ((num_plain.f a1).bind fun t652 => ((num_divisor.f kj2 t651 t652).bind fun t653 => (if t653 = 0 then (none) else ((bits_Mul64.f (IntKind.u64.wrap (Int.tdiv t651 t653)) t652).bind fun bt654 => (if bt654.1 = 0 then ((num_signed.f kj2 bt654.2 false).bind fun bt656 => (some (bt656.1, bt656.2))) else (some (0, false))))))) = some (r1, r2) := H
    have A6 := zb.mk A60
    clear A60
    replace H := Option.bind_eq_some_iff.mp H
    obtain ⟨t652, A70, H⟩ := H
    replace H : ((num_divisor.f kj2 t651 t652).bind fun t653 => (if t653 = 0 then (none) else ((bits_Mul64.f (IntKind.u64.wrap (Int.tdiv t651 t653)) t652).bind fun bt654 => (if bt654.1 = 0 then ((num_signed.f kj2 bt654.2 false).bind fun bt656 => (some (bt656.1, bt656.2))) else (some (0, false)))))) = some (r1, r2) := H
    have A7 := zb.mk A70
    clear A70
    replace H := Option.bind_eq_some_iff.mp H
    obtain ⟨t653, A80, H⟩ := H
    replace H : (if t653 = 0 then (none) else ((bits_Mul64.f (IntKind.u64.wrap (Int.tdiv t651 t653)) t652).bind fun bt654 => (if bt654.1 = 0 then ((num_signed.f kj2 bt654.2 false).bind fun bt656 => (some (bt656.1, bt656.2))) else (some (0, false))))) = some (r1, r2) := H
    have A8 := zb.mk A80
    clear A80
    refine dite (t653 = 0) (fun c9 => ?pp3) (fun c9 => ?nn3)
    case' nn3 =>
     rw [if_neg c9] at H
     have c9b0 : (t653 == 0) = false := beq_eq_false_iff_ne.mpr c9
     have c9b1 : (t653 != 0) = true := bne_iff_ne.mpr c9
     replace H := Option.bind_eq_some_iff.mp H
     obtain ⟨⟨t654, t655⟩, A100, H⟩ := H
     replace H : (if t654 = 0 then ((num_signed.f kj2 t655 false).bind fun bt656 => (some (bt656.1, bt656.2))) else (some (0, false))) = some (r1, r2) := H
     have A10 := zb.mk A100
     clear A100
     refine dite (t654 = 0) (fun c11 => ?pp4) (fun c11 => ?nn4)
     case' nn4 =>
      rw [if_neg c11] at H
      have c11b0 : (t654 == 0) = false := beq_eq_false_iff_ne.mpr c11
      have c11b1 : (t654 != 0) = true := bne_iff_ne.mpr c11
      simp only [Option.some.injEq, Prod.mk.injEq] at H
      obtain ⟨rfl, rfl⟩ := H
     case' pp4 =>
      rw [if_pos c11] at H
      have c11b0 : (t654 == 0) = true := beq_iff_eq.mpr c11
      have c11b1 : (t654 != 0) = false := bne_eq_false_iff_eq.mpr c11
      clear c11
      replace H := Option.bind_eq_some_iff.mp H
      obtain ⟨⟨t656, t657⟩, A120, H⟩ := H
      replace H : (some (t656, t657)) = some (r1, r2) := H
      have A12 := zb.mk A120
      clear A120
      simp only [Option.some.injEq, Prod.mk.injEq] at H
      obtain ⟨rfl, rfl⟩ := H
    case' pp3 =>
     rw [if_pos c9] at H
     exact absurd H (by simp)
   case' pp2 =>
    subst c5
    have H1 : (some (0, true)) = some (r1, r2) := by rw [if_pos rfl] at H; exact H
    clear H
    have H := H1
    clear H1
    simp only [Option.some.injEq, Prod.mk.injEq] at H
    obtain ⟨rfl, rfl⟩ := H
   all_goals
    as_aux_lemma =>
     go_wp2_with (first | ((with_reducible refine zt (f := 92) rfl ?_); refine zka (some 17) rfl rfl Tryz.func92 (by kernel_rfl) rfl #[.int .i64 a0] rfl (by (try simp only [List.map_toArray, List.map_cons, List.map_nil]); first | done | rfl | (simp only [List.length_drop, List.length_take]; rfl)) ?_; (with_reducible refine (num_plain.calls a0 t651 _ A6.out).mono ?_); rintro e w' ⟨rfl, ⟨nd, rfl⟩⟩; refine ⟨_, rfl, ?_⟩) | ((with_reducible refine zt (f := 92) rfl ?_); refine zka (some 19) rfl rfl Tryz.func92 (by kernel_rfl) rfl #[.int .i64 a1] rfl (by (try simp only [List.map_toArray, List.map_cons, List.map_nil]); first | done | rfl | (simp only [List.length_drop, List.length_take]; rfl)) ?_; (with_reducible refine (num_plain.calls a1 t652 _ A7.out).mono ?_); rintro e w' ⟨rfl, ⟨nd, rfl⟩⟩; refine ⟨_, rfl, ?_⟩) | ((with_reducible refine zt (f := 94) rfl ?_); refine zka (some 24) rfl rfl Tryz.func94 (by kernel_rfl) rfl #[.int .u64 t651, .int .u64 t652] rfl (by (try simp only [List.map_toArray, List.map_cons, List.map_nil]); first | done | rfl | (simp only [List.length_drop, List.length_take]; rfl)) ?_; (with_reducible refine (num_divisor.calls kj2 t651 t652 t653 _ A8.out).mono ?_); rintro e w' ⟨rfl, ⟨nd, rfl⟩⟩; refine ⟨_, rfl, ?_⟩) | ((with_reducible refine zt (f := 93) rfl ?_); refine zka (some 27) rfl rfl Tryz.func93 (by kernel_rfl) rfl #[.int .u64 (IntKind.u64.wrap (Int.tdiv t651 t653)), .int .u64 t652] rfl (by (try simp only [List.map_toArray, List.map_cons, List.map_nil]); first | done | rfl | (simp only [List.length_drop, List.length_take]; rfl)) ?_; (with_reducible refine (bits_Mul64.calls (IntKind.u64.wrap (Int.tdiv t651 t653)) t652 t654 t655 _ A10.out).mono ?_); rintro e w' ⟨rfl, ⟨nd, rfl⟩⟩; refine ⟨_, rfl, ?_⟩) | ((with_reducible refine zt (f := 95) rfl ?_); refine zka (some 33) rfl rfl Tryz.func95 (by kernel_rfl) rfl #[.int .u64 t655, .bool false] rfl (by (try simp only [List.map_toArray, List.map_cons, List.map_nil]); first | done | rfl | (simp only [List.length_drop, List.length_take]; rfl)) ?_; (with_reducible refine (num_signed.calls kj2 t655 false t656 t657 _ A12.out).mono ?_); rintro e w' ⟨rfl, ⟨nd, rfl⟩⟩; refine ⟨_, rfl, ?_⟩))
     go_ret2
     exact ⟨by first | rfl | (simp; done) | (simp [*]; done), by repeat (first | exact Drawn0.refl _ | apply Drawn0.step)⟩
def unfold_date.f (a0_0 : Int) (a0_1 : Int) (a1 : Int) : Option (Int) := some (wrap64 (a0_1 + (wrap64 (a1 * a0_0))))
theorem unfold_date.calls (a0_0 : Int) (a0_1 : Int) (a1 : Int) (r : Int) (w : World) (h : unfold_date.f a0_0 a0_1 a1 = some r) :
  Calls Tryz.prog 56 #[.agg #[.int .i64 a0_0, .int .i64 a0_1], .int .i64 a1] w fun e w' => e = .returned (.int .i64 r) ∧ Below w.heap.size w w' := by
 have hu68 := Tryz.underlying68
 have HB := zb.mk (Below.refl w.heap.size w)
 have H : (some (wrap64 (a0_1 + (wrap64 (a1 * a0_0))))) = some r := h
 clear h
 obtain rfl := Option.some.inj H
 go_enter Tryz.func56, Tryz.ntmps56
 go_wp2_with (first | ((with_reducible refine zda (N := 2) rfl ?_); refine zaa ?hg (N := 2) ?hd (cs := #[.int .i64 a0_0, .int .i64 a0_1]) (t := 68) ?hr ?_; (case hd => rfl); (case hg => rfl); (case hr => first | (go_simp; done) | (go_simp; rfl)); intro gb232 hg w3 hbox hb; have n0_ := zb.mk (zo (by repeat with_reducible first | exact HB.out | apply zd | apply za | apply ze) hb); have n1_ := zb.mk (hbox); have n2_ := zb.mk ((by rw [hg]; exact (zn (by repeat with_reducible first | exact HB.out | apply zd | apply za | apply ze)) : w.heap.size ≤ gb232)); have n3_ := zb.mk ((by rw [hg]; exact (zn (by repeat with_reducible first | exact HB.out | apply zd | apply za | apply ze)) : w.heap.size ≤ gb232)); clear HB; have HB := n0_; have BK232 := n1_; have GW232 := n2_; have GE232 := n3_; clear n0_ n1_ n2_ n3_; clear hb hbox hg; have hcz4_0 : w3.cell? ⟨gb232, 0, none⟩ = some (.int .i64 a0_0) := (zg BK232.out 0).trans rfl; have hcz4_1 : w3.cell? ⟨gb232, 1, none⟩ = some (.int .i64 a0_1) := (zg BK232.out 1).trans rfl; have hfz4_0 := zf BK232.out 0; have hfz4_1 := zf BK232.out 1))
 go_ret
 exact ⟨by first | rfl | (simp [zp, zq] <;> rfl) | (simp [*, zp, zq] <;> rfl), by repeat with_reducible first | exact HB.out | apply zd | apply za | apply ze | refine zk ?_ GE232.out⟩
end Go.Proofs.YtfondhcppjkchaaGreat.Q
namespace Go.Proofs.YtfondhcppjkchaaGreat.Q
open Go.RowKit Go.Proofs.YtfondhcppjkchaaGreatW.PrintWords Go.Proofs.YtfondhcppjkchaaGreatW.PrintLast
open Go.Proofs.YtfondhcppjkchaaGreatW.PrintMore
def lcmS (a b : Int) : Int × Bool := if (Nat.lcm a.toNat b.toNat : Int) ≤ 9223372036854775807 then ((Nat.lcm a.toNat b.toNat : Int), true) else (0, false)
theorem divisor_eq : ∀ (k : Nat) (u v : Nat), v < k → num_divisor.f k u v = some ((Nat.gcd u v : Nat) : Int) := by
 intro k
 induction k with
 | zero => intro u v h; omega
 | succ k ih =>
  intro u v h
  simp only [num_divisor.f]
  by_cases hv : v = 0
  ·subst hv
   simp
  ·rw [if_neg (by omega)]
   have e : Int.tmod (u : Int) (v : Int) = ((u % v : Nat) : Int) := by
    rw [Int.tmod_eq_emod_of_nonneg (by omega)]; rfl
   rw [e, ih v (u % v) (by have := Nat.mod_lt u (show 0 < v by omega); omega)]
   simp only [Option.bind_some]
   rw [Nat.gcd_comm u v, Nat.gcd_rec v u, Nat.gcd_comm]
theorem num_Lcm_eq (k : Nat) {a b : Int} (ha : 1 ≤ a) (ha2 : a ≤ 9223372036854775807) (hb : 1 ≤ b) (hb2 : b ≤ 9223372036854775807) (hk : b.toNat + 3 ≤ k) : num_Lcm.f k a b = some (lcmS a b) := by
 obtain ⟨j, rfl⟩ : ∃ j, k = j + 2 := ⟨k - 2, by omega⟩
 unfold num_Lcm.f
 rw [if_neg (by omega)]
 have hb0 : (b == 0) = false := by rw [beq_eq_false_iff_ne]; omega
 rw [hb0]
 simp only [num_Lcm.j0, Bool.false_eq_true, if_false]
 obtain ⟨x, rfl⟩ : ∃ x : Nat, a = x := ⟨a.toNat, by omega⟩
 obtain ⟨y, rfl⟩ : ∃ y : Nat, b = y := ⟨b.toNat, by omega⟩
 rw [plain_eq (by unfold I64; omega), plain_eq (by unfold I64; omega), if_neg (by omega), if_neg (by omega)]
 simp only [Option.bind_some]
 have hg : 0 < Nat.gcd x y := Nat.gcd_pos_of_pos_left _ (by omega)
 rw [divisor_eq (j + 1) x y (by simp at hk; omega)]
 simp only [Option.bind_some]
 rw [if_neg (by omega)]
 have e1 : Int.tdiv (x : Int) (Nat.gcd x y : Nat) = ((x / Nat.gcd x y : Nat) : Int) := by
  rw [Int.tdiv_eq_ediv_of_nonneg (by omega)]; rfl
 have hle : x / Nat.gcd x y ≤ x := Nat.div_le_self _ _
 have e2 : x / Nat.gcd x y * y = Nat.lcm x y := by
  unfold Nat.lcm
  rw [Nat.div_mul_right_comm (Nat.gcd_dvd_left x y)]
 rw [e1]
 have e3 : ((x / Nat.gcd x y : Nat) : Int) * (y : Int) = (Nat.lcm x y : Nat) := by rw [← e2]; simp
 generalize x / Nat.gcd x y = q at hle e3 ⊢
 rw [u64_wrap, Int.emod_eq_of_lt (by omega) (by omega), mul64_eq _ _ (by omega) (by omega) (by omega) (by omega)]
 simp only [Option.bind_some]
 rw [e3]
 unfold lcmS
 simp only [Int.toNat_natCast]
 generalize Nat.lcm x y = m
 by_cases hhi : (m : Int) / 18446744073709551616 = 0
 ·rw [if_pos hhi]
  have hm : (m : Int) % 18446744073709551616 = m := by omega
  rw [hm, signed_eq j (by omega) (by omega), if_neg (by simp)]
  simp only [Option.bind_some]
  by_cases h : (m : Int) > 9223372036854775807
  ·rw [if_pos h, if_neg (by omega)]
  ·rw [if_neg h, if_pos (by omega)]
 ·rw [if_neg hhi, if_neg (by omega)]
theorem lcmS_pos {a b : Int} (ha : 1 ≤ a) (hb : 1 ≤ b) (h : (lcmS a b).2 = true) : 1 ≤ (lcmS a b).1 ∧ (lcmS a b).1 ≤ 9223372036854775807 := by
 unfold lcmS at *
 by_cases hc : (Nat.lcm a.toNat b.toNat : Int) ≤ 9223372036854775807
 ·rw [if_pos hc]
  have := Nat.lcm_pos (show 0 < a.toNat by omega) (show 0 < b.toNat by omega)
  exact ⟨by simp; omega, by simpa using hc⟩
 ·rw [if_neg hc] at h
  cases h
def more2 (h n : Int) : Int × Bool := ((lcmS h n).1, (lcmS h n).2 && decide ((lcmS h n).1 ≤ 17592186044416))
theorem more_calls (b : Nat) (h n : Int) (w : World) (hc : w.cell? ⟨b, 1, none⟩ = some (.int .i64 h)) (hf : w.frozen? ⟨b, 1, none⟩ = false) (h1 : 1 ≤ h) (h2 : h ≤ 9223372036854775807) (n1 : 1 ≤ n) (n2 : n ≤ 9223372036854775807) :
  Calls Tryz.prog 54 #[.int .i64 n, .pointer (some ⟨b, 0, none⟩)] w fun e w' => e = .returned (.bool (more2 h n).2) ∧ ∃ q, w' = (w.drewN q).setCell ⟨b, 1, none⟩ (.int .i64 (more2 h n).1) := by
 have hu : undef = Value.tuple #[] := rfl
 have HL := Lib.hid (num_Lcm_eq (n.toNat + 3) h1 h2 n1 n2 (Nat.le_refl _))
 unfold more2
 obtain ⟨m, ok, e⟩ : ∃ m ok, lcmS h n = (m, ok) := ⟨_, _, rfl⟩
 rw [e] at HL ⊢
 dsimp only
 clear e
 cases ok with
 | false =>
  go_enter Tryz.func54, Tryz.ntmps54
  go_wp2_with (first | (go_at_call 55; (with_reducible refine (num_Lcm.calls _ _ _ _ _ _ HL.out).mono ?_); rintro e w1 ⟨rfl, ⟨q, rfl⟩⟩))
  go_ret
  exact ⟨rfl, q, rfl⟩
 | true =>
  by_cases hm : m ≤ 17592186044416
  ·have hd : decide (m ≤ 17592186044416) = true := decide_eq_true hm
   rw [hd]
   go_enter Tryz.func54, Tryz.ntmps54
   go_wp2_with (first | (go_at_call 55; (with_reducible refine (num_Lcm.calls _ _ _ _ _ _ HL.out).mono ?_); rintro e w1 ⟨rfl, ⟨q, rfl⟩⟩))
   go_ret
   exact ⟨rfl, q, rfl⟩
  ·have hd : decide (m ≤ 17592186044416) = false := decide_eq_false hm
   rw [hd]
   go_enter Tryz.func54, Tryz.ntmps54
   go_wp2_with (first | (go_at_call 55; (with_reducible refine (num_Lcm.calls _ _ _ _ _ _ HL.out).mono ?_); rintro e w1 ⟨rfl, ⟨q, rfl⟩⟩))
   go_ret
   exact ⟨rfl, q, rfl⟩
section
variable {α β : Type} (f : β → α → Option β)
theorem foldlM_take_succ (s : β) (l : List α) (k : Nat) (h : k < l.length) : (l.take (k + 1)).foldlM f s = ((l.take k).foldlM f s).bind (fun b => f b l[k]) := by
 rw [List.take_succ_eq_append_getElem h, List.foldlM_append]
 simp only [List.foldlM_cons, List.foldlM_nil]
 cases (l.take k).foldlM f s with
 | none => rfl
 | some b =>
  show (f b l[k]).bind (fun x => some x) = f b l[k]
  cases f b l[k] <;> rfl
theorem foldlM_none (s : β) (l : List α) (k : Nat) (h : (l.take k).foldlM f s = none) : l.foldlM f s = none := by
 conv => lhs; rw [← List.take_append_drop k l]
 rw [List.foldlM_append, h]
 rfl
end
def readStep (c : S68) (s : Int × Int) (r : S75) : Option (Int × Int) :=
 if (more2 s.2 (c.f0 * r.f3.f1.length)).2 = true then some (mx s.1 (c.f1 + r.f3.f0.length * c.f0), (more2 s.2 (c.f0 * r.f3.f1.length)).1) else none
def taskStep (s : Int × Int) (t : S78) : Option (Int × Int) := t.f4.foldlM (readStep t.f0) (mx s.1 t.f0.f1, s.2)
def spanL (l : List S78) : Option (Int × Int) := l.foldlM taskStep (0, 1)
def cntS (p h : Int) (c : S68) : Int × Int := (ceilS (mx 0 (p - c.f1)) c.f0, h / c.f0)
def jobStep (p h : Int) (n : Int) (t : S78) : Option Int := if n + ((cntS p h t.f0).1 + (cntS p h t.f0).2) > 1024 then none else some (n + ((cntS p h t.f0).1 + (cntS p h t.f0).2))
def ofS (l : List S78) : Int × Int × Int :=
 match spanL l with
 | none => (0, 0, 4)
 | some (p, h) => if p + h > 17592186044416 then (0, 0, 4) else match l.foldlM (jobStep p h) 0 with
  | none => (0, 0, 4)
  | some _ => (p, h, 0)
def fitR (r : S75) : Bool := decide (1 ≤ r.f3.f1.length ∧ r.f3.f1.length ≤ 4096 ∧ r.f3.f0.length ≤ 4096)
def fitT (t : S78) : Bool := clockB t.f0 && t.f4.all fitR
theorem fitT_clock {t : S78} (h : fitT t = true) : 1 ≤ t.f0.f0 ∧ t.f0.f0 ≤ 1099511627776 ∧ 0 ≤ t.f0.f1 ∧ t.f0.f1 ≤ 1099511627776 := by
 unfold fitT clockB at h
 rw [Bool.and_eq_true] at h
 exact of_decide_eq_true h.1
theorem fitT_read {t : S78} (h : fitT t = true) {r : S75} (hr : r ∈ t.f4) : 1 ≤ r.f3.f1.length ∧ r.f3.f1.length ≤ 4096 ∧ r.f3.f0.length ≤ 4096 := by
 unfold fitT at h
 rw [Bool.and_eq_true, List.all_eq_true] at h
 exact of_decide_eq_true (h.2 r hr)
def SpanOk (s : Int × Int) : Prop := 0 ≤ s.1 ∧ s.1 ≤ 4611686018427387904 ∧ 1 ≤ s.2 ∧ s.2 ≤ 17592186044416
theorem readStep_ok {c : S68} {s s' : Int × Int} {r : S75} (hc : 1 ≤ c.f0 ∧ c.f0 ≤ 1099511627776 ∧ 0 ≤ c.f1 ∧ c.f1 ≤ 1099511627776) (hr : 1 ≤ r.f3.f1.length ∧ r.f3.f1.length ≤ 4096 ∧ r.f3.f0.length ≤ 4096) (hs : SpanOk s) (h : readStep c s r = some s') : SpanOk s' := by
 unfold readStep at h
 split at h
 ·rename_i hm
  injection h with h
  subst h
  have hn : 1 ≤ c.f0 * (r.f3.f1.length : Int) := by
   have := Int.mul_le_mul hc.1 (show (1 : Int) ≤ r.f3.f1.length by omega) (by omega) (by omega)
   omega
  have hp := Int.mul_le_mul (show (r.f3.f0.length : Int) ≤ 4096 by omega) hc.2.1 (by omega) (by omega)
  have hp0 := Int.mul_nonneg (show (0 : Int) ≤ r.f3.f0.length by omega) (show 0 ≤ c.f0 by omega)
  unfold more2 at hm ⊢
  simp only [Bool.and_eq_true, decide_eq_true_eq] at hm
  have hl := lcmS_pos hs.2.2.1 hn hm.1
  unfold SpanOk mx
  refine ⟨?_, ?_, hl.1, hm.2⟩
  ·split <;> simp only <;> have := hs.1 <;> omega
  ·split <;> simp only <;> have := hs.2.1 <;> omega
 ·cases h
end Go.Proofs.YtfondhcppjkchaaGreat.Q
namespace Go.Proofs.YtfondhcppjkchaaGreat.Q
open Go.RowKit
theorem bcell {W w1 : World} (hb : Below W.heap.size W w1) : (∀ b o, b < W.heap.size → w1.cell? ⟨b, o, none⟩ = W.cell? ⟨b, o, none⟩) ∧ (∀ b o, b < W.heap.size → w1.frozen? ⟨b, o, none⟩ = W.frozen? ⟨b, o, none⟩) :=
 ⟨fun b o h => hb.cell (p := ⟨b, o, none⟩) h, fun b o h => hb.frozen (p := ⟨b, o, none⟩) h⟩
theorem keepc {w W : World} (hb : Below w.heap.size w W) {p : Addr} {v : Value} (h : w.cell? p = some v) : W.cell? p = some v := (hb.cell (World.block_lt_of_cell? w _ h)).trans h
theorem wp_ex {P : Program} {c : Code} {Q : Exit → Act → World → Prop} {a : Act} {w : World} (A : Act) (I : World → Prop) (h : c.wp P (fun e a w => match e with | .normal => a = A ∧ I w | _ => False) a w) (hq : ∀ W, I W → Q .normal A W) : c.wp P Q a w :=
 Code.wp_mono (fun e a w q => by
  cases e with
  | normal => obtain ⟨rfl, q⟩ := q; exact hq _ q
  | _ => exact q.elim) h
end Go.Proofs.YtfondhcppjkchaaGreat.Q
