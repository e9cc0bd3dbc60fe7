import Derived.Test.YtfondhcppjkchaaGreatC3
import Derived.Laws.BitsAllLaws
import Derived.Lib.Hide
import Derived.Handy
set_option maxHeartbeats 40000000
set_option maxRecDepth 100000
set_option linter.unusedVariables false
set_option linter.unusedSimpArgs false
namespace Go.Proofs.YtfondhcppjkchaaGreat.Q
open Go.RowKit Go.Proofs.YtfondhcppjkchaaGreatW.PrintWords Go.Proofs.YtfondhcppjkchaaGreatW.PrintLast Go.Proofs.YtfondhcppjkchaaGreatW.PrintMore
attribute [local go_sem] max2_int min2_int max_two min_two max_three min_three max_four min_four
def num_plain.f (a0 : Int) : Option (Int) := if a0 < 0 then (some (IntKind.u64.wrap (-(IntKind.u64.wrap (a0))))) else (some (IntKind.u64.wrap (a0)))
theorem num_plain.calls (a0 : Int) (r : Int) (w : World) (h : num_plain.f a0 = some r) :
  Calls Tryz.prog 92 #[.int .i64 a0] w fun e w' => e = .returned (.int .u64 r) ∧ Drawn0 w w' := by
 have H : (if a0 < 0 then (some (IntKind.u64.wrap (-(IntKind.u64.wrap (a0))))) else (some (IntKind.u64.wrap (a0)))) = some r := h
 clear h
 by_cases c2 : a0 < 0
 ·rw [if_pos c2] at H
  have c2b0 : decide (a0 < 0) = true := decide_eq_true c2
  clear c2
  obtain rfl := Option.some.inj H
  go_enter Tryz.func92, Tryz.ntmps92
  go_wp2
  go_ret
  exact ⟨by first | rfl | (simp; done) | (simp [*]; done), by repeat (first | exact Drawn0.refl _ | apply Drawn0.step)⟩
 ·rw [if_neg c2] at H
  have c2b0 : decide (a0 < 0) = false := decide_eq_false c2
  clear c2
  obtain rfl := Option.some.inj H
  go_enter Tryz.func92, Tryz.ntmps92
  go_wp2
  go_ret
  exact ⟨by first | rfl | (simp; done) | (simp [*]; done), by repeat (first | exact Drawn0.refl _ | apply Drawn0.step)⟩
def bits_Mul64.f (a0 : Int) (a1 : Int) : Option (Int × Int) := some (IntKind.u64.wrap ((IntKind.u64.wrap ((IntKind.u64.wrap ((a0 / 4294967296) * (a1 / 4294967296))) + ((IntKind.u64.wrap ((IntKind.u64.wrap ((a0 / 4294967296) * (Go.bits .and .u64 a1 4294967295))) + ((IntKind.u64.wrap ((Go.bits .and .u64 a0 4294967295) * (Go.bits .and .u64 a1 4294967295))) / 4294967296))) / 4294967296))) + ((IntKind.u64.wrap ((Go.bits .and .u64 (IntKind.u64.wrap ((IntKind.u64.wrap ((a0 / 4294967296) * (Go.bits .and .u64 a1 4294967295))) + ((IntKind.u64.wrap ((Go.bits .and .u64 a0 4294967295) * (Go.bits .and .u64 a1 4294967295))) / 4294967296))) 4294967295) + (IntKind.u64.wrap ((Go.bits .and .u64 a0 4294967295) * (a1 / 4294967296))))) / 4294967296)), IntKind.u64.wrap (a0 * a1))
theorem bits_Mul64.calls (a0 : Int) (a1 : Int) (r1 : Int) (r2 : Int) (w : World) (h : bits_Mul64.f a0 a1 = some (r1, r2)) :
  Calls Tryz.prog 93 #[.int .u64 a0, .int .u64 a1] w fun e w' => e = .returned (.tuple #[.int .u64 r1, .int .u64 r2]) ∧ Drawn0 w w' := by
 have H : (some (IntKind.u64.wrap ((IntKind.u64.wrap ((IntKind.u64.wrap ((a0 / 4294967296) * (a1 / 4294967296))) + ((IntKind.u64.wrap ((IntKind.u64.wrap ((a0 / 4294967296) * (Go.bits .and .u64 a1 4294967295))) + ((IntKind.u64.wrap ((Go.bits .and .u64 a0 4294967295) * (Go.bits .and .u64 a1 4294967295))) / 4294967296))) / 4294967296))) + ((IntKind.u64.wrap ((Go.bits .and .u64 (IntKind.u64.wrap ((IntKind.u64.wrap ((a0 / 4294967296) * (Go.bits .and .u64 a1 4294967295))) + ((IntKind.u64.wrap ((Go.bits .and .u64 a0 4294967295) * (Go.bits .and .u64 a1 4294967295))) / 4294967296))) 4294967295) + (IntKind.u64.wrap ((Go.bits .and .u64 a0 4294967295) * (a1 / 4294967296))))) / 4294967296)), IntKind.u64.wrap (a0 * a1))) = some (r1, r2) := h
 clear h
 simp only [Option.some.injEq, Prod.mk.injEq] at H
 obtain ⟨rfl, rfl⟩ := H
 go_enter Tryz.func93, Tryz.ntmps93
 go_wp2
 go_ret2
 exact ⟨by first | rfl | (simp; done) | (simp [*]; done), by repeat (first | exact Drawn0.refl _ | apply Drawn0.step)⟩
def num_signed.j0 : Nat → Int → Bool → Option (Int × Bool)
 | 0, _, _ => none
 | k + 1, x0, x6 => if x6 = true then (some (wrap64 (IntKind.u64.wrap (-x0)), true)) else (if x0 > 9223372036854775807 then (some (0, false)) else (some (wrap64 (x0), true)))
def num_signed.f (k : Nat) (a0 : Int) (a1 : Bool) : Option (Int × Bool) := if a1 = true then (num_signed.j0 k a0 (decide (a0 ≤ 9223372036854775808))) else (num_signed.j0 k a0 false)
theorem num_signed.zma : ∀ k, (∀ y0 y1, LeO (num_signed.j0 k y0 y1) (num_signed.j0 (k + 1) y0 y1))
 | 0 => fun _ _ r h => by simp [num_signed.j0] at h
 | k + 1 => by
  have ih0 := num_signed.zma k
  ·intro y0 y1
   unfold num_signed.j0
   repeat' first
   | (with_reducible exact ih0 _ _)
   | (with_reducible exact LeO.refl _)
   | (with_reducible exact LeO.none _)
   | (with_reducible refine LeO.ite ?_ ?_)
   | (with_reducible refine LeO.bind ?_ (fun _ => ?_))
   | exact ih0 _ _
   | exact LeO.none _
   | refine LeO.ite ?_ ?_
   | refine LeO.bind ?_ (fun _ => ?_)
theorem num_signed.mono : ∀ a0 a1 k, LeO (num_signed.f k a0 a1) (num_signed.f (k + 1) a0 a1) := by
 intro a0 a1 k
 have ih0 := num_signed.zma k
 unfold num_signed.f
 repeat' first
   | (with_reducible exact ih0 _ _)
   | (with_reducible exact LeO.refl _)
   | (with_reducible exact LeO.none _)
   | (with_reducible refine LeO.ite ?_ ?_)
   | (with_reducible refine LeO.bind ?_ (fun _ => ?_))
   | exact ih0 _ _
   | exact LeO.none _
   | refine LeO.ite ?_ ?_
   | refine LeO.bind ?_ (fun _ => ?_)
theorem num_signed.calls (k : Nat) (a0 : Int) (a1 : Bool) (r1 : Int) (r2 : Bool) (w : World) (h : num_signed.f k a0 a1 = some (r1, r2)) :
  Calls Tryz.prog 95 #[.int .u64 a0, .bool a1] w fun e w' => e = .returned (.tuple #[.int .i64 r1, .bool r2]) ∧ Drawn0 w w' := by
 have H : (if a1 = true then (num_signed.j0 k a0 (decide (a0 ≤ 9223372036854775808))) else (num_signed.j0 k a0 false)) = some (r1, r2) := h
 clear h
 have HC3 := zb.mk H
 clear H
 go_enter Tryz.func95, Tryz.ntmps95
 go_upto_region 1 with (fail)
 go_cut [6] (fun v6 wc => ∃ (kq : Nat) (x6_2 : Bool), v6 = .bool x6_2 ∧ zb (num_signed.j0 kq a0 x6_2 = some (r1, r2)) ∧ zb (kq ≤ k) ∧ Drawn0 w wc)
 case first =>
  have H := HC3.out
  clear HC3
  by_cases c4 : a1 = true
  ·subst c4
   have H1 : (num_signed.j0 k a0 (decide (a0 ≤ 9223372036854775808))) = some (r1, r2) := by rw [if_pos rfl] at H; exact H
   clear H
   have H := H1
   clear H1
   have H' := zb.mk H
   clear H
   go_wp2
   go_meet
   case rel => exact ⟨_, (decide (a0 ≤ 9223372036854775808)), (by first | rfl | (simp; done) | (simp [*]; done)), H', ⟨by first | omega | exact Nat.le_refl _⟩, by repeat (first | exact Drawn0.refl _ | apply Drawn0.step)⟩
  ·replace c4 := Bool.eq_false_iff.mpr c4
   subst c4
   have H1 : (num_signed.j0 k a0 false) = some (r1, r2) := by rw [if_neg (show ¬ (false = true) by decide)] at H; exact H
   clear H
   have H := H1
   clear H1
   have H' := zb.mk H
   clear H
   go_wp2
   go_meet
   case rel => exact ⟨_, (false), (by first | rfl | (simp; done) | (simp [*]; done)), H', ⟨by first | omega | exact Nat.le_refl _⟩, by repeat (first | exact Drawn0.refl _ | apply Drawn0.step)⟩
 case rest =>
  clear HC3
  try clear p2
  try clear c4
  obtain ⟨kq, x6_2, rfl, HA, HJ2, ⟨mc2, rfl⟩⟩ := hcut
  cases kq with
  | zero => exact absurd HA.out (by simp [num_signed.j0])
  | succ kj2 =>
   have H := HA.out
   clear HA
   simp only [num_signed.j0] at H
   by_cases c5 : x6_2 = true
   ·subst c5
    have H1 : (some (wrap64 (IntKind.u64.wrap (-a0)), true)) = some (r1, r2) := by rw [if_pos rfl] at H; exact H
    clear H
    have H := H1
    clear H1
    simp only [Option.some.injEq, Prod.mk.injEq] at H
    obtain ⟨rfl, rfl⟩ := H
    go_wp2
    go_ret2
    exact ⟨by first | rfl | (simp; done) | (simp [*]; done), by repeat (first | exact Drawn0.refl _ | apply Drawn0.step)⟩
   ·replace c5 := Bool.eq_false_iff.mpr c5
    subst c5
    have H1 : (if a0 > 9223372036854775807 then (some (0, false)) else (some (wrap64 (a0), true))) = some (r1, r2) := by rw [if_neg (show ¬ (false = true) by decide)] at H; exact H
    clear H
    have H := H1
    clear H1
    by_cases c6 : a0 > 9223372036854775807
    ·rw [if_pos c6] at H
     have c6b0 : decide (9223372036854775807 < a0) = true := decide_eq_true c6
     clear c6
     simp only [Option.some.injEq, Prod.mk.injEq] at H
     obtain ⟨rfl, rfl⟩ := H
     go_wp2
     go_ret2
     exact ⟨by first | rfl | (simp; done) | (simp [*]; done), by repeat (first | exact Drawn0.refl _ | apply Drawn0.step)⟩
    ·rw [if_neg c6] at H
     have c6b0 : decide (9223372036854775807 < a0) = false := decide_eq_false c6
     clear c6
     simp only [Option.some.injEq, Prod.mk.injEq] at H
     obtain ⟨rfl, rfl⟩ := H
     go_wp2
     go_ret2
     exact ⟨by first | rfl | (simp; done) | (simp [*]; done), by repeat (first | exact Drawn0.refl _ | apply Drawn0.step)⟩
def num_Mul.f (k : Nat) (a0 : Int) (a1 : Int) : Option (Int × Bool) := (num_plain.f a0).bind fun t179 => ((num_plain.f a1).bind fun t180 => ((bits_Mul64.f t179 t180).bind fun bt181 => (if bt181.1 = 0 then ((num_signed.f k bt181.2 ((decide (a0 < 0)) != (decide (a1 < 0)))).bind fun bt183 => (some (bt183.1, bt183.2))) else (some (0, false)))))
theorem num_Mul.mono : ∀ a0 a1 k, LeO (num_Mul.f k a0 a1) (num_Mul.f (k + 1) a0 a1) := by
 intro a0 a1 k
 unfold num_Mul.f
 repeat' first
   | (with_reducible exact num_signed.mono _ _ _)
   | (with_reducible exact LeO.refl _)
   | (with_reducible exact LeO.none _)
   | (with_reducible refine LeO.ite ?_ ?_)
   | (with_reducible refine LeO.bind ?_ (fun _ => ?_))
   | exact num_signed.mono _ _ _
   | exact LeO.none _
   | refine LeO.ite ?_ ?_
   | refine LeO.bind ?_ (fun _ => ?_)
theorem num_Mul.calls (k : Nat) (a0 : Int) (a1 : Int) (r1 : Int) (r2 : Bool) (w : World) (h : num_Mul.f k a0 a1 = some (r1, r2)) :
  Calls Tryz.prog 124 #[.int .i64 a0, .int .i64 a1] w fun e w' => e = .returned (.tuple #[.int .i64 r1, .bool r2]) ∧ Drawn0 w w' := by
 have H : ((num_plain.f a0).bind fun t179 => ((num_plain.f a1).bind fun t180 => ((bits_Mul64.f t179 t180).bind fun bt181 => (if bt181.1 = 0 then ((num_signed.f k bt181.2 ((decide (a0 < 0)) != (decide (a1 < 0)))).bind fun bt183 => (some (bt183.1, bt183.2))) else (some (0, false)))))) = some (r1, r2) := h
 clear h
 replace H := Option.bind_eq_some_iff.mp H
 obtain ⟨t179, A30, H⟩ := H
 replace H : ((num_plain.f a1).bind fun t180 => ((bits_Mul64.f t179 t180).bind fun bt181 => (if bt181.1 = 0 then ((num_signed.f k bt181.2 ((decide (a0 < 0)) != (decide (a1 < 0)))).bind fun bt183 => (some (bt183.1, bt183.2))) else (some (0, false))))) = some (r1, r2) := H
 have A3 := zb.mk A30
 clear A30
 replace H := Option.bind_eq_some_iff.mp H
 obtain ⟨t180, A40, H⟩ := H
 replace H : ((bits_Mul64.f t179 t180).bind fun bt181 => (if bt181.1 = 0 then ((num_signed.f k bt181.2 ((decide (a0 < 0)) != (decide (a1 < 0)))).bind fun bt183 => (some (bt183.1, bt183.2))) else (some (0, false)))) = some (r1, r2) := H
 have A4 := zb.mk A40
 clear A40
 replace H := Option.bind_eq_some_iff.mp H
 obtain ⟨⟨t181, t182⟩, A50, H⟩ := H
 replace H : (if t181 = 0 then ((num_signed.f k t182 ((decide (a0 < 0)) != (decide (a1 < 0)))).bind fun bt183 => (some (bt183.1, bt183.2))) else (some (0, false))) = some (r1, r2) := H
 have A5 := zb.mk A50
 clear A50
 refine dite (t181 = 0) (fun c6 => ?pp1) (fun c6 => ?nn1)
 case' nn1 =>
  rw [if_neg c6] at H
  have c6b0 : (t181 == 0) = false := beq_eq_false_iff_ne.mpr c6
  have c6b1 : (t181 != 0) = true := bne_iff_ne.mpr c6
  simp only [Option.some.injEq, Prod.mk.injEq] at H
  obtain ⟨rfl, rfl⟩ := H
 case' pp1 =>
  rw [if_pos c6] at H
  have c6b0 : (t181 == 0) = true := beq_iff_eq.mpr c6
  have c6b1 : (t181 != 0) = false := bne_eq_false_iff_eq.mpr c6
  clear c6
  replace H := Option.bind_eq_some_iff.mp H
  obtain ⟨⟨t183, t184⟩, A70, H⟩ := H
  replace H : (some (t183, t184)) = some (r1, r2) := H
  have A7 := zb.mk A70
  clear A70
  simp only [Option.some.injEq, Prod.mk.injEq] at H
  obtain ⟨rfl, rfl⟩ := H
 all_goals
  as_aux_lemma =>
   go_enter Tryz.func124, Tryz.ntmps124
   go_wp2_with (first | ((with_reducible refine zt (f := 92) rfl ?_); refine zka (some 10) rfl rfl Tryz.func92 (by kernel_rfl) rfl #[.int .i64 a0] rfl (by (try simp only [List.map_toArray, List.map_cons, List.map_nil]); first | done | rfl | (simp only [List.length_drop, List.length_take]; rfl)) ?_; (with_reducible refine (num_plain.calls a0 t179 _ A3.out).mono ?_); rintro e w' ⟨rfl, ⟨nd, rfl⟩⟩; refine ⟨_, rfl, ?_⟩) | ((with_reducible refine zt (f := 92) rfl ?_); refine zka (some 12) rfl rfl Tryz.func92 (by kernel_rfl) rfl #[.int .i64 a1] rfl (by (try simp only [List.map_toArray, List.map_cons, List.map_nil]); first | done | rfl | (simp only [List.length_drop, List.length_take]; rfl)) ?_; (with_reducible refine (num_plain.calls a1 t180 _ A4.out).mono ?_); rintro e w' ⟨rfl, ⟨nd, rfl⟩⟩; refine ⟨_, rfl, ?_⟩) | ((with_reducible refine zt (f := 93) rfl ?_); refine zka (some 13) rfl rfl Tryz.func93 (by kernel_rfl) rfl #[.int .u64 t179, .int .u64 t180] rfl (by (try simp only [List.map_toArray, List.map_cons, List.map_nil]); first | done | rfl | (simp only [List.length_drop, List.length_take]; rfl)) ?_; (with_reducible refine (bits_Mul64.calls t179 t180 t181 t182 _ A5.out).mono ?_); rintro e w' ⟨rfl, ⟨nd, rfl⟩⟩; refine ⟨_, rfl, ?_⟩) | ((with_reducible refine zt (f := 95) rfl ?_); refine zka (some 24) rfl rfl Tryz.func95 (by kernel_rfl) rfl #[.int .u64 t182, .bool ((decide (a0 < 0)) != (decide (a1 < 0)))] rfl (by (try simp only [List.map_toArray, List.map_cons, List.map_nil]); first | done | rfl | (simp only [List.length_drop, List.length_take]; rfl)) ?_; (with_reducible refine (num_signed.calls k t182 ((decide (a0 < 0)) != (decide (a1 < 0))) t183 t184 _ A7.out).mono ?_); rintro e w' ⟨rfl, ⟨nd, rfl⟩⟩; refine ⟨_, rfl, ?_⟩))
   go_ret2
   exact ⟨by first | rfl | (simp; done) | (simp [*]; done), by repeat (first | exact Drawn0.refl _ | apply Drawn0.step)⟩
def num_Add.f (a0 : Int) (a1 : Int) : Option (Int × Bool) := if ((decide ((wrap64 (a0 + a1)) < a0)) != (decide (a1 < 0))) = true then (some (0, false)) else (some (wrap64 (a0 + a1), true))
theorem num_Add.calls (a0 : Int) (a1 : Int) (r1 : Int) (r2 : Bool) (w : World) (h : num_Add.f a0 a1 = some (r1, r2)) :
  Calls Tryz.prog 127 #[.int .i64 a0, .int .i64 a1] w fun e w' => e = .returned (.tuple #[.int .i64 r1, .bool r2]) ∧ Drawn0 w w' := by
 have H : (if ((decide ((wrap64 (a0 + a1)) < a0)) != (decide (a1 < 0))) = true then (some (0, false)) else (some (wrap64 (a0 + a1), true))) = some (r1, r2) := h
 clear h
 by_cases c3 : ((decide ((wrap64 (a0 + a1)) < a0)) != (decide (a1 < 0))) = true
 ·rw [if_pos c3] at H
  have c3b0 : ((decide ((wrap64 (a0 + a1)) < a0)) != (decide (a1 < 0))) = true := c3
  (try (have c3b1 : decide ((decide ((wrap64 (a0 + a1)) < a0)) = (decide (a1 < 0))) = false := by simpa using c3))
  (try (have c3b2 : ((decide ((wrap64 (a0 + a1)) < a0)) == (decide (a1 < 0))) = false := by simpa using c3))
  (try (have c3b3 : ¬ ((decide ((wrap64 (a0 + a1)) < a0)) = (decide (a1 < 0))) := by simpa using c3))
  clear c3
  simp only [Option.some.injEq, Prod.mk.injEq] at H
  obtain ⟨rfl, rfl⟩ := H
  go_enter Tryz.func127, Tryz.ntmps127
  go_wp2
  go_ret2
  exact ⟨by first | rfl | (simp; done) | (simp [*]; done), by repeat (first | exact Drawn0.refl _ | apply Drawn0.step)⟩
 ·rw [if_neg c3] at H
  have c3b0 : ((decide ((wrap64 (a0 + a1)) < a0)) != (decide (a1 < 0))) = false := by simpa using c3
  (try (have c3b1 : decide ((decide ((wrap64 (a0 + a1)) < a0)) = (decide (a1 < 0))) = true := by simpa using c3))
  (try (have c3b2 : ((decide ((wrap64 (a0 + a1)) < a0)) == (decide (a1 < 0))) = true := by simpa using c3))
  clear c3
  simp only [Option.some.injEq, Prod.mk.injEq] at H
  obtain ⟨rfl, rfl⟩ := H
  go_enter Tryz.func127, Tryz.ntmps127
  go_wp2
  go_ret2
  exact ⟨by first | rfl | (simp; done) | (simp [*]; done), by repeat (first | exact Drawn0.refl _ | apply Drawn0.step)⟩
end Go.Proofs.YtfondhcppjkchaaGreat.Q
namespace Go.Proofs.YtfondhcppjkchaaGreat.Q
open Go.RowKit
def I64 (x : Int) : Prop := -9223372036854775808 ≤ x ∧ x ≤ 9223372036854775807
theorem zsa {x : Int} (h : I64 x) : wrap64 x = x := by unfold I64 at h; unfold wrap64; omega
theorem u64_wrap (x : Int) : IntKind.u64.wrap x = x % 18446744073709551616 := by
 simp [IntKind.wrap, IntKind.signed, IntKind.bits]
theorem u64_mask32 {x : Int} (h0 : 0 ≤ x) (h1 : x < 18446744073709551616) : bits .and .u64 x 4294967295 = x % 4294967296 := by
 rw [u64_and x 4294967295 h0 h1 (by decide) (by decide)]
 have : (4294967295 : Int).toNat = 2 ^ 32 - 1 := by decide
 rw [this, Nat.and_two_pow_sub_one_eq_mod]
 omega
theorem mul64_eq (u v : Int) (hu0 : 0 ≤ u) (hu1 : u < 18446744073709551616) (hv0 : 0 ≤ v) (hv1 : v < 18446744073709551616) :
  bits_Mul64.f u v = some (u * v / 18446744073709551616, u * v % 18446744073709551616) := by
 unfold bits_Mul64.f
 rw [u64_mask32 hu0 hu1, u64_mask32 hv0 hv1]
 have e1 : u = u / 4294967296 * 4294967296 + u % 4294967296 := by omega
 have e2 : v = v / 4294967296 * 4294967296 + v % 4294967296 := by omega
 have b1 : 0 ≤ u / 4294967296 ∧ u / 4294967296 ≤ 4294967295 := by omega
 have b2 : 0 ≤ u % 4294967296 ∧ u % 4294967296 ≤ 4294967295 := by omega
 have b3 : 0 ≤ v / 4294967296 ∧ v / 4294967296 ≤ 4294967295 := by omega
 have b4 : 0 ≤ v % 4294967296 ∧ v % 4294967296 ≤ 4294967295 := by omega
 generalize u / 4294967296 = x1 at *
 generalize u % 4294967296 = x0 at *
 generalize v / 4294967296 = y1 at *
 generalize v % 4294967296 = y0 at *
 subst e1 e2
 have e : (x1 * 4294967296 + x0) * (y1 * 4294967296 + y0) = x1 * y1 * 18446744073709551616 + (x1 * y0 + x0 * y1) * 4294967296 + x0 * y0 := by
  rw [Int.add_mul, Int.mul_add, Int.mul_add]
  have h1 : x1 * 4294967296 * (y1 * 4294967296) = x1 * y1 * 18446744073709551616 := by
   rw [Int.mul_assoc, Int.mul_left_comm 4294967296 y1, ← Int.mul_assoc]; rfl
  have h2 : x1 * 4294967296 * y0 = x1 * y0 * 4294967296 := by rw [Int.mul_assoc, Int.mul_comm 4294967296 y0, ← Int.mul_assoc]
  have h3 : x0 * (y1 * 4294967296) = x0 * y1 * 4294967296 := by rw [← Int.mul_assoc]
  omega
 have bound : ∀ a b : Int, 0 ≤ a → a ≤ 4294967295 → 0 ≤ b → b ≤ 4294967295 → 0 ≤ a * b ∧ a * b ≤ 18446744065119617025 := fun a b h1 h2 h3 h4 =>
  ⟨Int.mul_nonneg h1 h3, by have := Int.mul_le_mul h2 h4 h3 (by decide : (0 : Int) ≤ 4294967295); omega⟩
 have p11 := bound x1 y1 b1.1 b1.2 b3.1 b3.2
 have p10 := bound x1 y0 b1.1 b1.2 b4.1 b4.2
 have p01 := bound x0 y1 b2.1 b2.2 b3.1 b3.2
 have p00 := bound x0 y0 b2.1 b2.2 b4.1 b4.2
 rw [e]
 generalize x1 * y1 = p at *
 generalize x1 * y0 = q at *
 generalize x0 * y1 = r at *
 generalize x0 * y0 = s at *
 simp only [u64_wrap]
 have hq : (q % 18446744073709551616 + s % 18446744073709551616 / 4294967296) % 18446744073709551616 = q + s / 4294967296 := by omega
 rw [hq, u64_mask32 (by omega) (by omega)]
 congr 2
 omega
def mulS (a b : Int) : Int × Bool := if -9223372036854775808 ≤ a * b ∧ a * b ≤ 9223372036854775807 then (a * b, true) else (0, false)
def addS (a b : Int) : Int × Bool := if -9223372036854775808 ≤ a + b ∧ a + b ≤ 9223372036854775807 then (a + b, true) else (0, false)
theorem plain_eq {a : Int} (h : I64 a) : num_plain.f a = some (if a < 0 then -a else a) := by
 unfold I64 at h
 unfold num_plain.f
 by_cases ha : a < 0
 ·rw [if_pos ha, if_pos ha]; simp only [u64_wrap]; congr 1; omega
 ·rw [if_neg ha, if_neg ha]; simp only [u64_wrap]; congr 1; omega
theorem signed_eq (k : Nat) {u : Int} (h0 : 0 ≤ u) (h1 : u < 18446744073709551616) (neg : Bool) :
  num_signed.f (k + 1) u neg = some (if neg = true ∧ u ≤ 9223372036854775808 then (-u, true) else if u > 9223372036854775807 then (0, false) else (u, true)) := by
 unfold num_signed.f
 cases neg with
 | true =>
  by_cases hu : u ≤ 9223372036854775808
  ·simp only [num_signed.j0, hu, decide_true, if_true, u64_wrap, true_and]
   congr 2
   unfold wrap64; omega
  ·simp only [num_signed.j0, hu, decide_false, if_true, if_false, Bool.false_eq_true, and_false]
   rw [if_pos (by omega), if_pos (by omega)]
 | false =>
  simp only [num_signed.j0, if_false, Bool.false_eq_true, false_and]
  by_cases hu : u > 9223372036854775807
  ·rw [if_pos hu, if_pos hu]
  ·rw [if_neg hu, if_neg hu]
   congr 2
   unfold wrap64; omega
theorem prod_sign (a b : Int) : a * b = (if a < 0 then -a else a) * (if b < 0 then -b else b) * (if (decide (a < 0) != decide (b < 0)) = true then -1 else 1) := by
 by_cases ha : a < 0 <;> by_cases hb : b < 0 <;> simp [ha, hb, Int.neg_mul, Int.mul_neg]
theorem num_Mul_eq (k : Nat) {a b : Int} (ha : I64 a) (hb : I64 b) : num_Mul.f (k + 1) a b = some (mulS a b) := by
 unfold num_Mul.f
 rw [plain_eq ha, plain_eq hb]
 simp only [Option.bind_some]
 have hs := prod_sign a b
 generalize hneg : (decide (a < 0) != decide (b < 0)) = neg at hs ⊢
 have hu : 0 ≤ (if a < 0 then -a else a) ∧ (if a < 0 then -a else a) ≤ 9223372036854775808 := by unfold I64 at ha; split <;> omega
 have hv : 0 ≤ (if b < 0 then -b else b) ∧ (if b < 0 then -b else b) ≤ 9223372036854775808 := by unfold I64 at hb; split <;> omega
 generalize (if a < 0 then -a else a) = u at hs hu ⊢
 generalize (if b < 0 then -b else b) = v at hs hv ⊢
 rw [mul64_eq u v hu.1 (by omega) hv.1 (by omega)]
 simp only [Option.bind_some]
 have hp : 0 ≤ u * v := Int.mul_nonneg hu.1 hv.1
 unfold mulS
 rw [hs]
 generalize u * v = p at hp ⊢
 by_cases hhi : p / 18446744073709551616 = 0
 ·rw [if_pos hhi, signed_eq k (by omega) (by omega)]
  have hpm : p % 18446744073709551616 = p := by omega
  rw [hpm]
  cases neg with
  | true =>
   simp only [if_true, true_and, Option.bind_some]
   by_cases h : p ≤ 9223372036854775808
   ·rw [if_pos h, if_pos (by omega)]; simp
   ·rw [if_neg h, if_pos (by omega), if_neg (by omega)]
  | false =>
   simp only [Bool.false_eq_true, if_false, false_and, Option.bind_some]
   by_cases h : p > 9223372036854775807
   ·rw [if_pos h, if_neg (by omega)]
   ·rw [if_neg h, if_pos (by omega)]; simp
 ·rw [if_neg hhi]
  cases neg with
  | true => simp only [if_true]; rw [if_neg (by omega)]
  | false => simp only [Bool.false_eq_true, if_false]; rw [if_neg (by omega)]
theorem num_Add_eq {a b : Int} (ha : I64 a) (hb : I64 b) : num_Add.f a b = some (addS a b) := by
 unfold I64 at ha hb
 unfold num_Add.f addS
 by_cases h : -9223372036854775808 ≤ a + b ∧ a + b ≤ 9223372036854775807
 ·have hw : wrap64 (a + b) = a + b := zsa h
  rw [hw, if_pos h, if_neg]
  by_cases h1 : a + b < a <;> by_cases h2 : b < 0 <;> simp [h1, h2] <;> omega
 ·rw [if_neg h, if_pos]
  unfold wrap64
  by_cases h2 : b < 0
  ·have h1 : ¬ (a + b + 9223372036854775808) % 18446744073709551616 - 9223372036854775808 < a := by omega
   simp [h1, h2]
  ·have h1 : (a + b + 9223372036854775808) % 18446744073709551616 - 9223372036854775808 < a := by omega
   simp [h1, h2]
end Go.Proofs.YtfondhcppjkchaaGreat.Q
namespace Go.Proofs.YtfondhcppjkchaaGreat.Q
open Go.RowKit Go.Proofs.YtfondhcppjkchaaGreatW.PrintWords Go.Proofs.YtfondhcppjkchaaGreatW.PrintLast Go.Proofs.YtfondhcppjkchaaGreatW.PrintMore
attribute [local go_sem] max2_int min2_int max_two min_two max_three min_three max_four min_four
def clocks_may.f (a0_0 : Int) (a0_1 : Int) : Option (Bool) := if a0_0 ≥ 1 then (if a0_0 ≤ 1099511627776 then (if a0_1 ≥ 0 then (some (decide (a0_1 ≤ 1099511627776))) else (some false)) else (some false)) else (some false)
theorem clocks_may.calls (a0_0 : Int) (a0_1 : Int) (r : Bool) (w : World) (h : clocks_may.f a0_0 a0_1 = some r) :
  Calls Tryz.prog 126 #[.agg #[.int .i64 a0_0, .int .i64 a0_1]] w fun e w' => e = .returned (.bool r) ∧ Below w.heap.size w w' := by
 have hu68 := Tryz.underlying68
 have HB := zb.mk (Below.refl w.heap.size w)
 have H : (if a0_0 ≥ 1 then (if a0_0 ≤ 1099511627776 then (if a0_1 ≥ 0 then (some (decide (a0_1 ≤ 1099511627776))) else (some false)) else (some false)) else (some false)) = some r := h
 clear h
 refine dite (a0_0 ≥ 1) (fun c2 => ?pp1) (fun c2 => ?nn1)
 case' nn1 =>
  rw [if_neg c2] at H
  have c2b0 : decide (1 ≤ a0_0) = false := decide_eq_false c2
  clear c2
  obtain rfl := Option.some.inj H
 case' pp1 =>
  rw [if_pos c2] at H
  have c2b0 : decide (1 ≤ a0_0) = true := decide_eq_true c2
  clear c2
  refine dite (a0_0 ≤ 1099511627776) (fun c3 => ?pp2) (fun c3 => ?nn2)
  case' nn2 =>
   rw [if_neg c3] at H
   have c3b0 : decide (a0_0 ≤ 1099511627776) = false := decide_eq_false c3
   clear c3
   obtain rfl := Option.some.inj H
  case' pp2 =>
   rw [if_pos c3] at H
   have c3b0 : decide (a0_0 ≤ 1099511627776) = true := decide_eq_true c3
   clear c3
   refine dite (a0_1 ≥ 0) (fun c4 => ?pp3) (fun c4 => ?nn3)
   case' nn3 =>
    rw [if_neg c4] at H
    have c4b0 : decide (0 ≤ a0_1) = false := decide_eq_false c4
    clear c4
    obtain rfl := Option.some.inj H
   case' pp3 =>
    rw [if_pos c4] at H
    have c4b0 : decide (0 ≤ a0_1) = true := decide_eq_true c4
    clear c4
    obtain rfl := Option.some.inj H
 all_goals
  as_aux_lemma =>
   go_enter Tryz.func126, Tryz.ntmps126
   go_wp2_with (first | ((with_reducible refine zda (N := 1) rfl ?_); refine zaa ?hg (N := 1) ?hd (cs := #[.int .i64 a0_0, .int .i64 a0_1]) (t := 68) ?hr ?_; (case hd => rfl); (case hg => rfl); (case hr => first | (go_simp; done) | (go_simp; rfl)); intro gb185 hg w11 hbox hb; have n0_ := zb.mk (zo (by repeat with_reducible first | exact HB.out | apply zd | apply za | apply ze) hb); have n1_ := zb.mk (hbox); have n2_ := zb.mk ((by rw [hg]; exact (zn (by repeat with_reducible first | exact HB.out | apply zd | apply za | apply ze)) : w.heap.size ≤ gb185)); have n3_ := zb.mk ((by rw [hg]; exact (zn (by repeat with_reducible first | exact HB.out | apply zd | apply za | apply ze)) : w.heap.size ≤ gb185)); clear HB; have HB := n0_; have BK185 := n1_; have GW185 := n2_; have GE185 := n3_; clear n0_ n1_ n2_ n3_; clear hb hbox hg; have hcz12_0 : w11.cell? ⟨gb185, 0, none⟩ = some (.int .i64 a0_0) := (zg BK185.out 0).trans rfl; have hcz12_1 : w11.cell? ⟨gb185, 1, none⟩ = some (.int .i64 a0_1) := (zg BK185.out 1).trans rfl; have hfz12_0 := zf BK185.out 0; have hfz12_1 := zf BK185.out 1))
   go_ret
   exact ⟨by first | rfl | (simp [zp, zq] <;> rfl) | (simp [*, zp, zq] <;> rfl), by repeat with_reducible first | exact HB.out | apply zd | apply za | apply ze | refine zk ?_ GE185.out⟩
def clocks_Date.f (k : Nat) (a0_0 : Int) (a0_1 : Int) (a1 : Int) : Option (Int × Bool) := (num_Mul.f k a0_0 a1).bind fun bt187 => (if bt187.2 = true then (if a1 < 0 then (some (0, false)) else ((clocks_may.f a0_0 a0_1).bind fun t189 => (if t189 = true then ((num_Add.f a0_1 bt187.1).bind fun bt190 => (some (bt190.1, bt190.2))) else (some (0, false))))) else (some (0, false)))
theorem clocks_Date.mono : ∀ a0 a1 a2 k, LeO (clocks_Date.f k a0 a1 a2) (clocks_Date.f (k + 1) a0 a1 a2) := by
 intro a0 a1 a2 k
 unfold clocks_Date.f
 repeat' first
   | (with_reducible exact num_Mul.mono _ _ _)
   | (with_reducible exact LeO.refl _)
   | (with_reducible exact LeO.none _)
   | (with_reducible refine LeO.ite ?_ ?_)
   | (with_reducible refine LeO.bind ?_ (fun _ => ?_))
   | exact num_Mul.mono _ _ _
   | exact LeO.none _
   | refine LeO.ite ?_ ?_
   | refine LeO.bind ?_ (fun _ => ?_)
theorem clocks_Date.calls (k : Nat) (a0_0 : Int) (a0_1 : Int) (a1 : Int) (r1 : Int) (r2 : Bool) (w : World) (h : clocks_Date.f k a0_0 a0_1 a1 = some (r1, r2)) :
  Calls Tryz.prog 96 #[.agg #[.int .i64 a0_0, .int .i64 a0_1], .int .i64 a1] w fun e w' => e = .returned (.tuple #[.int .i64 r1, .bool r2]) ∧ Below w.heap.size w w' := by
 have hu68 := Tryz.underlying68
 have HB := zb.mk (Below.refl w.heap.size w)
 have H : ((num_Mul.f k a0_0 a1).bind fun bt187 => (if bt187.2 = true then (if a1 < 0 then (some (0, false)) else ((clocks_may.f a0_0 a0_1).bind fun t189 => (if t189 = true then ((num_Add.f a0_1 bt187.1).bind fun bt190 => (some (bt190.1, bt190.2))) else (some (0, false))))) else (some (0, false)))) = some (r1, r2) := h
 clear h
 replace H := Option.bind_eq_some_iff.mp H
 obtain ⟨⟨t187, t188⟩, A30, H⟩ := H
 replace H : (if t188 = true then (if a1 < 0 then (some (0, false)) else ((clocks_may.f a0_0 a0_1).bind fun t189 => (if t189 = true then ((num_Add.f a0_1 t187).bind fun bt190 => (some (bt190.1, bt190.2))) else (some (0, false))))) else (some (0, false))) = some (r1, r2) := H
 have A3 := zb.mk A30
 clear A30
 refine dite (t188 = true) (fun c4 => ?pp1) (fun c4 => ?nn1)
 case' nn1 =>
  replace c4 := Bool.eq_false_iff.mpr c4
  subst c4
  have H1 : (some (0, false)) = some (r1, r2) := by rw [if_neg (show ¬ (false = true) by decide)] at H; exact H
  clear H
  have H := H1
  clear H1
  simp only [Option.some.injEq, Prod.mk.injEq] at H
  obtain ⟨rfl, rfl⟩ := H
 case' pp1 =>
  subst c4
  have H1 : (if a1 < 0 then (some (0, false)) else ((clocks_may.f a0_0 a0_1).bind fun t189 => (if t189 = true then ((num_Add.f a0_1 t187).bind fun bt190 => (some (bt190.1, bt190.2))) else (some (0, false))))) = some (r1, r2) := by rw [if_pos rfl] at H; exact H
  clear H
  have H := H1
  clear H1
  refine dite (a1 < 0) (fun c5 => ?pp2) (fun c5 => ?nn2)
  case' nn2 =>
   rw [if_neg c5] at H
   have c5b0 : decide (a1 < 0) = false := decide_eq_false c5
   clear c5
   replace H := Option.bind_eq_some_iff.mp H
   obtain ⟨t189, A80, H⟩ := H
   replace H : (if t189 = true then ((num_Add.f a0_1 t187).bind fun bt190 => (some (bt190.1, bt190.2))) else (some (0, false))) = some (r1, r2) := H
   have A8 := zb.mk A80
   clear A80
   refine dite (t189 = true) (fun c9 => ?pp3) (fun c9 => ?nn3)
   case' nn3 =>
    replace c9 := Bool.eq_false_iff.mpr c9
    subst c9
    have H1 : (some (0, false)) = some (r1, r2) := by rw [if_neg (show ¬ (false = true) by decide)] at H; exact H
    clear H
    have H := H1
    clear H1
    simp only [Option.some.injEq, Prod.mk.injEq] at H
    obtain ⟨rfl, rfl⟩ := H
   case' pp3 =>
    subst c9
    have H1 : ((num_Add.f a0_1 t187).bind fun bt190 => (some (bt190.1, bt190.2))) = some (r1, r2) := by rw [if_pos rfl] at H; exact H
    clear H
    have H := H1
    clear H1
    replace H := Option.bind_eq_some_iff.mp H
    obtain ⟨⟨t190, t191⟩, A100, H⟩ := H
    replace H : (some (t190, t191)) = some (r1, r2) := H
    have A10 := zb.mk A100
    clear A100
    simp only [Option.some.injEq, Prod.mk.injEq] at H
    obtain ⟨rfl, rfl⟩ := H
  case' pp2 =>
   rw [if_pos c5] at H
   have c5b0 : decide (a1 < 0) = true := decide_eq_true c5
   clear c5
   simp only [Option.some.injEq, Prod.mk.injEq] at H
   obtain ⟨rfl, rfl⟩ := H
 all_goals
  as_aux_lemma =>
   go_enter Tryz.func96, Tryz.ntmps96
   go_wp2_with (first | ((with_reducible refine zda (N := 2) rfl ?_); refine zaa ?hg (N := 2) ?hd (cs := #[.int .i64 a0_0, .int .i64 a0_1]) (t := 68) ?hr ?_; (case hd => rfl); (case hg => rfl); (case hr => first | (go_simp; done) | (go_simp; rfl)); intro gb186 hg w11 hbox hb; have n0_ := zb.mk (zo (by repeat with_reducible first | exact HB.out | apply zd | apply za | apply ze) hb); have n1_ := zb.mk (hbox); have n2_ := zb.mk ((by rw [hg]; exact (zn (by repeat with_reducible first | exact HB.out | apply zd | apply za | apply ze)) : w.heap.size ≤ gb186)); have n3_ := zb.mk ((by rw [hg]; exact (zn (by repeat with_reducible first | exact HB.out | apply zd | apply za | apply ze)) : w.heap.size ≤ gb186)); clear HB; have HB := n0_; have BK186 := n1_; have GW186 := n2_; have GE186 := n3_; clear n0_ n1_ n2_ n3_; clear hb hbox hg; have hcz12_0 : w11.cell? ⟨gb186, 0, none⟩ = some (.int .i64 a0_0) := (zg BK186.out 0).trans rfl; have hcz12_1 : w11.cell? ⟨gb186, 1, none⟩ = some (.int .i64 a0_1) := (zg BK186.out 1).trans rfl; have hfz12_0 := zf BK186.out 0; have hfz12_1 := zf BK186.out 1) | ((with_reducible refine zt (f := 124) rfl ?_); refine zka (some 12) rfl rfl Tryz.func124 (by kernel_rfl) rfl #[.int .i64 a0_0, .int .i64 a1] rfl (by (try simp only [List.map_toArray, List.map_cons, List.map_nil]); first | done | rfl | (simp only [List.length_drop, List.length_take]; rfl)) ?_; (with_reducible refine (num_Mul.calls k a0_0 a1 t187 _ _ A3.out).mono ?_); rintro e w' ⟨rfl, ⟨nd, rfl⟩⟩; refine ⟨_, rfl, ?_⟩) | (go_at_call 126; (with_reducible refine (clocks_may.calls a0_0 a0_1 _ _ A8.out).mono ?_); rintro e w13 ⟨rfl, hb⟩; have n0_ := zb.mk (zr (g := gb186) (o := .cells #[.int .i64 a0_0, .int .i64 a0_1] 68 (0, 0)) (by (with_reducible repeat first | apply zi | apply zl | apply zh); exact BK186.out) hb); have n1_ := zb.mk (zo (by repeat with_reducible first | exact HB.out | apply zd | apply za | apply ze | refine zk ?_ GE186.out) hb); clear BK186; clear HB; have BK186 := n0_; have HB := n1_; clear n0_ n1_; (try clear hb); have hcz14_0 : w13.cell? ⟨gb186, 0, none⟩ = some (.int .i64 a0_0) := (zg BK186.out 0).trans rfl; have hcz14_1 : w13.cell? ⟨gb186, 1, none⟩ = some (.int .i64 a0_1) := (zg BK186.out 1).trans rfl; have hfz14_0 := zf BK186.out 0; have hfz14_1 := zf BK186.out 1) | ((with_reducible refine zt (f := 127) rfl ?_); refine zka (some 29) rfl rfl Tryz.func127 (by kernel_rfl) rfl #[.int .i64 a0_1, .int .i64 t187] rfl (by (try simp only [List.map_toArray, List.map_cons, List.map_nil]); first | done | rfl | (simp only [List.length_drop, List.length_take]; rfl)) ?_; (with_reducible refine (num_Add.calls a0_1 t187 t190 t191 _ A10.out).mono ?_); rintro e w' ⟨rfl, ⟨nd, rfl⟩⟩; refine ⟨_, rfl, ?_⟩))
   go_ret2
   exact ⟨by first | rfl | (simp [zp, zq] <;> rfl) | (simp [*, zp, zq] <;> rfl), by repeat with_reducible first | exact HB.out | apply zd | apply za | apply ze | refine zk ?_ GE186.out⟩
def tasks_mayClock.f (k : Nat) (a0_0 : Int) (a0_1 : Int) : Option (Bool) := (clocks_Date.f k a0_0 a0_1 0).bind fun bt193 => (some bt193.2)
theorem tasks_mayClock.mono : ∀ a0 a1 k, LeO (tasks_mayClock.f k a0 a1) (tasks_mayClock.f (k + 1) a0 a1) := by
 intro a0 a1 k
 unfold tasks_mayClock.f
 repeat' first
   | (with_reducible exact clocks_Date.mono _ _ _ _)
   | (with_reducible exact LeO.refl _)
   | (with_reducible exact LeO.none _)
   | (with_reducible refine LeO.ite ?_ ?_)
   | (with_reducible refine LeO.bind ?_ (fun _ => ?_))
   | exact clocks_Date.mono _ _ _ _
   | exact LeO.none _
   | refine LeO.ite ?_ ?_
   | refine LeO.bind ?_ (fun _ => ?_)
theorem tasks_mayClock.calls (k : Nat) (a0_0 : Int) (a0_1 : Int) (r : Bool) (w : World) (h : tasks_mayClock.f k a0_0 a0_1 = some r) :
  Calls Tryz.prog 88 #[.agg #[.int .i64 a0_0, .int .i64 a0_1]] w fun e w' => e = .returned (.bool r) ∧ Below w.heap.size w w' := by
 have hu68 := Tryz.underlying68
 have HB := zb.mk (Below.refl w.heap.size w)
 have H : ((clocks_Date.f k a0_0 a0_1 0).bind fun bt193 => (some bt193.2)) = some r := h
 clear h
 replace H := Option.bind_eq_some_iff.mp H
 obtain ⟨⟨t193, t194⟩, A20, H⟩ := H
 replace H : (some t194) = some r := H
 have A2 := zb.mk A20
 clear A20
 obtain rfl := Option.some.inj H
 go_enter Tryz.func88, Tryz.ntmps88
 go_wp2_with (first | ((with_reducible refine zda (N := 1) rfl ?_); refine zaa ?hg (N := 1) ?hd (cs := #[.int .i64 a0_0, .int .i64 a0_1]) (t := 68) ?hr ?_; (case hd => rfl); (case hg => rfl); (case hr => first | (go_simp; done) | (go_simp; rfl)); intro gb192 hg w3 hbox hb; have n0_ := zb.mk (zo (by repeat with_reducible first | exact HB.out | apply zd | apply za | apply ze) hb); have n1_ := zb.mk (hbox); have n2_ := zb.mk ((by rw [hg]; exact (zn (by repeat with_reducible first | exact HB.out | apply zd | apply za | apply ze)) : w.heap.size ≤ gb192)); have n3_ := zb.mk ((by rw [hg]; exact (zn (by repeat with_reducible first | exact HB.out | apply zd | apply za | apply ze)) : w.heap.size ≤ gb192)); clear HB; have HB := n0_; have BK192 := n1_; have GW192 := n2_; have GE192 := n3_; clear n0_ n1_ n2_ n3_; clear hb hbox hg; have hcz4_0 : w3.cell? ⟨gb192, 0, none⟩ = some (.int .i64 a0_0) := (zg BK192.out 0).trans rfl; have hcz4_1 : w3.cell? ⟨gb192, 1, none⟩ = some (.int .i64 a0_1) := (zg BK192.out 1).trans rfl; have hfz4_0 := zf BK192.out 0; have hfz4_1 := zf BK192.out 1) | ((with_reducible refine zt (f := 96) rfl ?_); refine zka (some 7) rfl rfl Tryz.func96 (by kernel_rfl) rfl #[.agg #[.int .i64 a0_0, .int .i64 a0_1], .int .i64 0] rfl (by (try simp only [List.map_toArray, List.map_cons, List.map_nil]); first | done | rfl | (simp only [List.length_drop, List.length_take]; rfl)) ?_; (with_reducible refine (clocks_Date.calls k a0_0 a0_1 0 t193 t194 _ A2.out).mono ?_); rintro e w5 ⟨rfl, hb⟩; refine ⟨_, rfl, ?_⟩; have n0_ := zb.mk (zr (g := gb192) (o := .cells #[.int .i64 a0_0, .int .i64 a0_1] 68 (0, 0)) (by (with_reducible repeat first | apply zi | apply zl | apply zh); exact BK192.out) hb); have n1_ := zb.mk (zo (by repeat with_reducible first | exact HB.out | apply zd | apply za | apply ze | refine zk ?_ GE192.out) hb); clear BK192; clear HB; have BK192 := n0_; have HB := n1_; clear n0_ n1_; (try clear hb)))
 go_ret
 exact ⟨by first | rfl | (simp [zp, zq] <;> rfl) | (simp [*, zp, zq] <;> rfl), by repeat with_reducible first | exact HB.out | apply zd | apply za | apply ze | refine zk ?_ GE192.out⟩
def unfold_mayClock.f (k : Nat) (a0_0 : Int) (a0_1 : Int) : Option (Bool) := (clocks_Date.f k a0_0 a0_1 0).bind fun bt240 => (some bt240.2)
theorem unfold_mayClock.mono : ∀ a0 a1 k, LeO (unfold_mayClock.f k a0 a1) (unfold_mayClock.f (k + 1) a0 a1) := by
 intro a0 a1 k
 unfold unfold_mayClock.f
 repeat' first
   | (with_reducible exact clocks_Date.mono _ _ _ _)
   | (with_reducible exact LeO.refl _)
   | (with_reducible exact LeO.none _)
   | (with_reducible refine LeO.ite ?_ ?_)
   | (with_reducible refine LeO.bind ?_ (fun _ => ?_))
   | exact clocks_Date.mono _ _ _ _
   | exact LeO.none _
   | refine LeO.ite ?_ ?_
   | refine LeO.bind ?_ (fun _ => ?_)
theorem unfold_mayClock.calls (k : Nat) (a0_0 : Int) (a0_1 : Int) (r : Bool) (w : World) (h : unfold_mayClock.f k a0_0 a0_1 = some r) :
  Calls Tryz.prog 58 #[.agg #[.int .i64 a0_0, .int .i64 a0_1]] w fun e w' => e = .returned (.bool r) ∧ Below w.heap.size w w' := by
 have hu68 := Tryz.underlying68
 have HB := zb.mk (Below.refl w.heap.size w)
 have H : ((clocks_Date.f k a0_0 a0_1 0).bind fun bt240 => (some bt240.2)) = some r := h
 clear h
 replace H := Option.bind_eq_some_iff.mp H
 obtain ⟨⟨t240, t241⟩, A20, H⟩ := H
 replace H : (some t241) = some r := H
 have A2 := zb.mk A20
 clear A20
 obtain rfl := Option.some.inj H
 go_enter Tryz.func58, Tryz.ntmps58
 go_wp2_with (first | ((with_reducible refine zda (N := 1) rfl ?_); refine zaa ?hg (N := 1) ?hd (cs := #[.int .i64 a0_0, .int .i64 a0_1]) (t := 68) ?hr ?_; (case hd => rfl); (case hg => rfl); (case hr => first | (go_simp; done) | (go_simp; rfl)); intro gb239 hg w3 hbox hb; have n0_ := zb.mk (zo (by repeat with_reducible first | exact HB.out | apply zd | apply za | apply ze) hb); have n1_ := zb.mk (hbox); have n2_ := zb.mk ((by rw [hg]; exact (zn (by repeat with_reducible first | exact HB.out | apply zd | apply za | apply ze)) : w.heap.size ≤ gb239)); have n3_ := zb.mk ((by rw [hg]; exact (zn (by repeat with_reducible first | exact HB.out | apply zd | apply za | apply ze)) : w.heap.size ≤ gb239)); clear HB; have HB := n0_; have BK239 := n1_; have GW239 := n2_; have GE239 := n3_; clear n0_ n1_ n2_ n3_; clear hb hbox hg; have hcz4_0 : w3.cell? ⟨gb239, 0, none⟩ = some (.int .i64 a0_0) := (zg BK239.out 0).trans rfl; have hcz4_1 : w3.cell? ⟨gb239, 1, none⟩ = some (.int .i64 a0_1) := (zg BK239.out 1).trans rfl; have hfz4_0 := zf BK239.out 0; have hfz4_1 := zf BK239.out 1) | ((with_reducible refine zt (f := 96) rfl ?_); refine zka (some 7) rfl rfl Tryz.func96 (by kernel_rfl) rfl #[.agg #[.int .i64 a0_0, .int .i64 a0_1], .int .i64 0] rfl (by (try simp only [List.map_toArray, List.map_cons, List.map_nil]); first | done | rfl | (simp only [List.length_drop, List.length_take]; rfl)) ?_; (with_reducible refine (clocks_Date.calls k a0_0 a0_1 0 t240 t241 _ A2.out).mono ?_); rintro e w5 ⟨rfl, hb⟩; refine ⟨_, rfl, ?_⟩; have n0_ := zb.mk (zr (g := gb239) (o := .cells #[.int .i64 a0_0, .int .i64 a0_1] 68 (0, 0)) (by (with_reducible repeat first | apply zi | apply zl | apply zh); exact BK239.out) hb); have n1_ := zb.mk (zo (by repeat with_reducible first | exact HB.out | apply zd | apply za | apply ze | refine zk ?_ GE239.out) hb); clear BK239; clear HB; have BK239 := n0_; have HB := n1_; clear n0_ n1_; (try clear hb)))
 go_ret
 exact ⟨by first | rfl | (simp [zp, zq] <;> rfl) | (simp [*, zp, zq] <;> rfl), by repeat with_reducible first | exact HB.out | apply zd | apply za | apply ze | refine zk ?_ GE239.out⟩
def tasks_May_1.f (k : Nat) (a0_0 : Int) (a0_1 : Int) : Option (Bool) := (tasks_mayClock.f k a0_0 a0_1).bind fun t647 => (some (!t647))
theorem tasks_May_1.mono : ∀ a0 a1 k, LeO (tasks_May_1.f k a0 a1) (tasks_May_1.f (k + 1) a0 a1) := by
 intro a0 a1 k
 unfold tasks_May_1.f
 repeat' first
   | (with_reducible exact tasks_mayClock.mono _ _ _)
   | (with_reducible exact LeO.refl _)
   | (with_reducible exact LeO.none _)
   | (with_reducible refine LeO.ite ?_ ?_)
   | (with_reducible refine LeO.bind ?_ (fun _ => ?_))
   | exact tasks_mayClock.mono _ _ _
   | exact LeO.none _
   | refine LeO.ite ?_ ?_
   | refine LeO.bind ?_ (fun _ => ?_)
theorem tasks_May_1.calls (k : Nat) (a0_0 : Int) (a0_1 : Int) (r : Bool) (w : World) (h : tasks_May_1.f k a0_0 a0_1 = some r) :
  Calls Tryz.prog 87 #[.agg #[.int .i64 a0_0, .int .i64 a0_1]] w fun e w' => e = .returned (.bool r) ∧ Below w.heap.size w w' := by
 have hu68 := Tryz.underlying68
 have HB := zb.mk (Below.refl w.heap.size w)
 have H : ((tasks_mayClock.f k a0_0 a0_1).bind fun t647 => (some (!t647))) = some r := h
 clear h
 replace H := Option.bind_eq_some_iff.mp H
 obtain ⟨t647, A20, H⟩ := H
 replace H : (some (!t647)) = some r := H
 have A2 := zb.mk A20
 clear A20
 obtain rfl := Option.some.inj H
 go_enter Tryz.func87, Tryz.ntmps87
 go_wp2_with (first | ((with_reducible refine zda (N := 1) rfl ?_); refine zaa ?hg (N := 1) ?hd (cs := #[.int .i64 a0_0, .int .i64 a0_1]) (t := 68) ?hr ?_; (case hd => rfl); (case hg => rfl); (case hr => first | (go_simp; done) | (go_simp; rfl)); intro gb646 hg w3 hbox hb; have n0_ := zb.mk (zo (by repeat with_reducible first | exact HB.out | apply zd | apply za | apply ze) hb); have n1_ := zb.mk (hbox); have n2_ := zb.mk ((by rw [hg]; exact (zn (by repeat with_reducible first | exact HB.out | apply zd | apply za | apply ze)) : w.heap.size ≤ gb646)); have n3_ := zb.mk ((by rw [hg]; exact (zn (by repeat with_reducible first | exact HB.out | apply zd | apply za | apply ze)) : w.heap.size ≤ gb646)); clear HB; have HB := n0_; have BK646 := n1_; have GW646 := n2_; have GE646 := n3_; clear n0_ n1_ n2_ n3_; clear hb hbox hg; have hcz4_0 : w3.cell? ⟨gb646, 0, none⟩ = some (.int .i64 a0_0) := (zg BK646.out 0).trans rfl; have hcz4_1 : w3.cell? ⟨gb646, 1, none⟩ = some (.int .i64 a0_1) := (zg BK646.out 1).trans rfl; have hfz4_0 := zf BK646.out 0; have hfz4_1 := zf BK646.out 1) | ((with_reducible refine zt (f := 88) rfl ?_); refine zka (some 4) rfl rfl Tryz.func88 (by kernel_rfl) rfl #[.agg #[.int .i64 a0_0, .int .i64 a0_1]] rfl (by (try simp only [List.map_toArray, List.map_cons, List.map_nil]); first | done | rfl | (simp only [List.length_drop, List.length_take]; rfl)) ?_; (with_reducible refine (tasks_mayClock.calls k a0_0 a0_1 t647 _ A2.out).mono ?_); rintro e w5 ⟨rfl, hb⟩; refine ⟨_, rfl, ?_⟩; have n0_ := zb.mk (zr (g := gb646) (o := .cells #[.int .i64 a0_0, .int .i64 a0_1] 68 (0, 0)) (by (with_reducible repeat first | apply zi | apply zl | apply zh); exact BK646.out) hb); have n1_ := zb.mk (zo (by repeat with_reducible first | exact HB.out | apply zd | apply za | apply ze | refine zk ?_ GE646.out) hb); clear BK646; clear HB; have BK646 := n0_; have HB := n1_; clear n0_ n1_; (try clear hb)))
 go_ret
 exact ⟨by first | rfl | (simp [zp, zq] <;> rfl) | (simp [*, zp, zq] <;> rfl), by repeat with_reducible first | exact HB.out | apply zd | apply za | apply ze | refine zk ?_ GE646.out⟩
def unfold_Jobs_1.f (k : Nat) (a0_0 : Int) (a0_1 : Int) (a0_2 : Int) (a0_3 : Int) (a0_4 : Int) (l0_5 : List (S75)) (a0_6 : Int) : Option (Bool) := (unfold_mayClock.f k a0_0 a0_1).bind fun t634 => (some (!t634))
theorem unfold_Jobs_1.mono : ∀ a0 a1 a2 a3 a4 a5 a6 k, LeO (unfold_Jobs_1.f k a0 a1 a2 a3 a4 a5 a6) (unfold_Jobs_1.f (k + 1) a0 a1 a2 a3 a4 a5 a6) := by
 intro a0 a1 a2 a3 a4 a5 a6 k
 unfold unfold_Jobs_1.f
 repeat' first
   | (with_reducible exact unfold_mayClock.mono _ _ _)
   | (with_reducible exact LeO.refl _)
   | (with_reducible exact LeO.none _)
   | (with_reducible refine LeO.ite ?_ ?_)
   | (with_reducible refine LeO.bind ?_ (fun _ => ?_))
   | exact unfold_mayClock.mono _ _ _
   | exact LeO.none _
   | refine LeO.ite ?_ ?_
   | refine LeO.bind ?_ (fun _ => ?_)
theorem unfold_Jobs_1.calls (k : Nat) (a0_0 : Int) (a0_1 : Int) (a0_2 : Int) (a0_3 : Int) (a0_4 : Int) (A0_5 : Option Addr) (c0_5 : Nat) (l0_5 : List (S75)) (a0_6 : Int) (r : Bool) (w : World) (hr0_5 : Kd.C k75 w A0_5 l0_5.length l0_5) (hc0_5 : l0_5.length ≤ c0_5) (h : unfold_Jobs_1.f k a0_0 a0_1 a0_2 a0_3 a0_4 l0_5 a0_6 = some r) :
  Calls Tryz.prog 60 #[.agg #[.int .i64 a0_0, .int .i64 a0_1, .int .i64 a0_2, .int .i64 a0_3, .int .i64 a0_4, .slice A0_5 l0_5.length c0_5, .int .i64 a0_6]] w fun e w' => e = .returned (.bool r) ∧ Below w.heap.size w w' := by
 have hu78 := Tryz.underlying78
 have hu68 := Tryz.underlying68
 have HR0_5 := zb.mk hr0_5
 have HC0_5 := zb.mk hc0_5
 clear hr0_5 hc0_5
 have HB := zb.mk (Below.refl w.heap.size w)
 have H : ((unfold_mayClock.f k a0_0 a0_1).bind fun t634 => (some (!t634))) = some r := h
 clear h
 replace H := Option.bind_eq_some_iff.mp H
 obtain ⟨t634, A20, H⟩ := H
 replace H : (some (!t634)) = some r := H
 have A2 := zb.mk A20
 clear A20
 obtain rfl := Option.some.inj H
 go_enter Tryz.func60, Tryz.ntmps60
 go_wp2_with (first | ((with_reducible refine zda (N := 1) rfl ?_); refine zaa ?hg (N := 1) ?hd (cs := #[.int .i64 a0_0, .int .i64 a0_1, .int .i64 a0_2, .int .i64 a0_3, .int .i64 a0_4, .slice A0_5 l0_5.length c0_5, .int .i64 a0_6]) (t := 78) ?hr ?_; (case hd => rfl); (case hg => rfl); (case hr => first | (go_simp; done) | (go_simp; rfl)); intro gb633 hg w3 hbox hb; have n0_ := zb.mk (zo (by repeat with_reducible first | exact HB.out | apply zd | apply za | apply ze) hb); have n1_ := zb.mk (hbox); have n2_ := zb.mk ((by rw [hg]; exact (zn (by repeat with_reducible first | exact HB.out | apply zd | apply za | apply ze)) : w.heap.size ≤ gb633)); have n3_ := zb.mk ((by rw [hg]; exact (zn (by repeat with_reducible first | exact HB.out | apply zd | apply za | apply ze)) : w.heap.size ≤ gb633)); clear HB; have HB := n0_; have BK633 := n1_; have GW633 := n2_; have GE633 := n3_; clear n0_ n1_ n2_ n3_; clear hb hbox hg; have hcz4_0 : w3.cell? ⟨gb633, 0, none⟩ = some (.int .i64 a0_0) := (zg BK633.out 0).trans rfl; have hcz4_1 : w3.cell? ⟨gb633, 1, none⟩ = some (.int .i64 a0_1) := (zg BK633.out 1).trans rfl; have hcz4_2 : w3.cell? ⟨gb633, 2, none⟩ = some (.int .i64 a0_2) := (zg BK633.out 2).trans rfl; have hcz4_3 : w3.cell? ⟨gb633, 3, none⟩ = some (.int .i64 a0_3) := (zg BK633.out 3).trans rfl; have hcz4_4 : w3.cell? ⟨gb633, 4, none⟩ = some (.int .i64 a0_4) := (zg BK633.out 4).trans rfl; have hcz4_5 : w3.cell? ⟨gb633, 5, none⟩ = some (.slice A0_5 l0_5.length c0_5) := (zg BK633.out 5).trans rfl; have hcz4_6 : w3.cell? ⟨gb633, 6, none⟩ = some (.int .i64 a0_6) := (zg BK633.out 6).trans rfl; have hfz4_0 := zf BK633.out 0; have hfz4_1 := zf BK633.out 1; have hfz4_2 := zf BK633.out 2; have hfz4_3 := zf BK633.out 3; have hfz4_4 := zf BK633.out 4; have hfz4_5 := zf BK633.out 5; have hfz4_6 := zf BK633.out 6) | ((with_reducible refine zt (f := 58) rfl ?_); refine zka (some 5) rfl rfl Tryz.func58 (by kernel_rfl) rfl #[.agg #[.int .i64 a0_0, .int .i64 a0_1]] rfl (by (try simp only [List.map_toArray, List.map_cons, List.map_nil]); first | done | rfl | (simp only [List.length_drop, List.length_take]; rfl)) ?_; (with_reducible refine (unfold_mayClock.calls k a0_0 a0_1 t634 _ A2.out).mono ?_); rintro e w5 ⟨rfl, hb⟩; refine ⟨_, rfl, ?_⟩; have n0_ := zb.mk (zr (g := gb633) (o := .cells #[.int .i64 a0_0, .int .i64 a0_1, .int .i64 a0_2, .int .i64 a0_3, .int .i64 a0_4, .slice A0_5 l0_5.length c0_5, .int .i64 a0_6] 78 (0, 0)) (by (with_reducible repeat first | apply zi | apply zl | apply zh); exact BK633.out) hb); have n1_ := zb.mk (zo (by repeat with_reducible first | exact HB.out | apply zd | apply za | apply ze | refine zk ?_ GE633.out) hb); clear BK633; clear HB; have BK633 := n0_; have HB := n1_; clear n0_ n1_; (try clear hb)))
 go_ret
 exact ⟨by first | rfl | (simp [zp, zq] <;> rfl) | (simp [*, zp, zq] <;> rfl), by repeat with_reducible first | exact HB.out | apply zd | apply za | apply ze | refine zk ?_ GE633.out⟩
end Go.Proofs.YtfondhcppjkchaaGreat.Q
namespace Go.Proofs.YtfondhcppjkchaaGreat.Q
open Go.RowKit
def clockB (c : S68) : Bool := decide (1 ≤ c.f0 ∧ c.f0 ≤ 1099511627776 ∧ 0 ≤ c.f1 ∧ c.f1 ≤ 1099511627776)
theorem clocks_may_eq (c : S68) : clocks_may.f c.f0 c.f1 = some (clockB c) := by
 unfold clocks_may.f clockB
 by_cases h1 : c.f0 ≥ 1
 ·by_cases h2 : c.f0 ≤ 1099511627776
  ·by_cases h3 : c.f1 ≥ 0
   ·rw [if_pos h1, if_pos h2, if_pos h3]; congr 1; rw [decide_eq_decide]; omega
   ·rw [if_pos h1, if_pos h2, if_neg h3]; congr 1; symm; rw [decide_eq_false_iff_not]; omega
  ·rw [if_pos h1, if_neg h2]; congr 1; symm; rw [decide_eq_false_iff_not]; omega
 ·rw [if_neg h1]; congr 1; symm; rw [decide_eq_false_iff_not]; omega
def dateS (c : S68) (n : Int) : Int × Bool :=
 if (mulS c.f0 n).2 = true ∧ 0 ≤ n ∧ clockB c = true then addS c.f1 (c.f0 * n) else (0, false)
theorem clocks_Date_eq (k : Nat) (c : S68) (n : Int) (h0 : I64 c.f0) (h1 : I64 c.f1) (hn : I64 n) : clocks_Date.f (k + 1) c.f0 c.f1 n = some (dateS c n) := by
 unfold clocks_Date.f dateS
 rw [num_Mul_eq k h0 hn]
 simp only [Option.bind_some, clocks_may_eq]
 unfold mulS
 by_cases hm : -9223372036854775808 ≤ c.f0 * n ∧ c.f0 * n ≤ 9223372036854775807
 ·simp only [hm, and_self, if_true, true_and]
  by_cases hn0 : n < 0
  ·rw [if_pos hn0, if_neg (by omega)]
  ·rw [if_neg hn0]
   cases hc : clockB c with
   | true => simp only [if_true, and_true]; rw [num_Add_eq h1 hm, if_pos (by omega)]; rfl
   | false => rw [if_neg (by simp), if_neg (by simp)]
 ·simp only [hm, if_false, Bool.false_eq_true, false_and]
theorem dateS_zero (c : S68) : (dateS c 0).2 = clockB c := by
 have e1 : (mulS c.f0 0).2 = true := by simp [mulS]
 unfold dateS
 cases hc : clockB c with
 | true =>
  unfold clockB at hc
  simp only [decide_eq_true_eq] at hc
  rw [if_pos ⟨e1, by omega, rfl⟩, Int.mul_zero]
  unfold addS
  rw [if_pos (by omega)]
 | false => rw [if_neg (by simp)]
theorem mayClock_eq (k : Nat) (c : S68) (h0 : I64 c.f0) (h1 : I64 c.f1) : tasks_mayClock.f (k + 1) c.f0 c.f1 = some (clockB c) := by
 unfold tasks_mayClock.f
 rw [clocks_Date_eq k c 0 h0 h1 (by unfold I64; omega)]
 simp [dateS_zero]
theorem unfold_mayClock_eq (k : Nat) (c : S68) (h0 : I64 c.f0) (h1 : I64 c.f1) : unfold_mayClock.f (k + 1) c.f0 c.f1 = some (clockB c) := by
 unfold unfold_mayClock.f
 rw [clocks_Date_eq k c 0 h0 h1 (by unfold I64; omega)]
 simp [dateS_zero]
def Clk (c : S68) : Prop := I64 c.f0 ∧ I64 c.f1
end Go.Proofs.YtfondhcppjkchaaGreat.Q
namespace Go.Proofs.YtfondhcppjkchaaGreat.Q
open Go.RowKit Go.Proofs.YtfondhcppjkchaaGreatW.PrintWords Go.Proofs.YtfondhcppjkchaaGreatW.PrintLast
open Go.Proofs.YtfondhcppjkchaaGreatW.PrintMore
theorem below_drewN {B : Nat} {a w : World} (h : Below B a w) (n : Nat) : Below B a (w.drewN n) := h.trans ⟨rfl, rfl, rfl, Nat.le_refl _, fun _ _ => rfl⟩
def ceilS (a b : Int) : Int := (a + (b - 1)) / b
theorem ceilS_zero {a b : Int} (hb : 1 ≤ b) (h : a % b = 0) : ceilS a b = a / b := by
 unfold ceilS
 have h1 := Int.mul_ediv_add_emod a b
 rw [h, Int.add_zero] at h1
 rw [← h1, Int.add_comm, Int.add_mul_ediv_left _ _ (by omega), Int.mul_ediv_cancel_left _ (by omega), Int.ediv_eq_zero_of_lt (by omega) (by omega)]
 omega
theorem ceilS_more {a b : Int} (hb : 1 ≤ b) (h : a % b ≠ 0) : ceilS a b = a / b + 1 := by
 unfold ceilS
 have h1 := Int.mul_ediv_add_emod a b
 have h2 := Int.emod_nonneg a (show b ≠ 0 by omega)
 have h3 := Int.emod_lt_of_pos a (show 0 < b by omega)
 have : a + (b - 1) = (a % b - 1) + b * (a / b + 1) := by rw [Int.mul_add]; omega
 rw [this, Int.add_mul_ediv_left _ _ (by omega), Int.ediv_eq_zero_of_lt (by omega) (by omega)]
 omega
def num_Ceil.f (a b : Int) : Option (Int × Bool) := if 0 ≤ a ∧ a ≤ 4611686018427387904 ∧ 1 ≤ b ∧ b ≤ 9223372036854775807 then some (ceilS a b, true) else none
theorem ceil_pos (a b : Int) (w : World) (ha : 0 ≤ a) (ha2 : a ≤ 4611686018427387904) (hb : 1 ≤ b) (hb2 : b ≤ 9223372036854775807) :
  Calls Tryz.prog 98 #[.int .i64 a, .int .i64 b] w fun e w' => e = .returned (.tuple #[.int .i64 (ceilS a b), .bool true]) ∧ Below w.heap.size w w' := by
 have p1 := plain_eq (a := a) (by unfold I64; omega)
 have p2 := plain_eq (a := b) (by unfold I64; omega)
 rw [if_neg (by omega)] at p1 p2
 have HP1 := Lib.hid p1
 have HP2 := Lib.hid p2
 have hq0 : 0 ≤ a / b := Int.ediv_nonneg ha (by omega)
 have hq1 : a / b ≤ 4611686018427387904 := Int.le_trans (Int.ediv_le_self _ ha) ha2
 have hna : decide (a < 0) = false := decide_eq_false (by omega)
 have hnb : decide (b < 0) = false := decide_eq_false (by omega)
 by_cases hr : a % b = 0
 ·have hs := signed_eq 0 (u := a / b) hq0 (by omega) false
  rw [if_neg (by simp), if_neg (by omega)] at hs
  have hc := ceilS_zero hb hr
  have hr' : (a % b != 0) = false := by simp [hr]
  have HC := Lib.hid hc
  have HS := Lib.hid hs
  clear p1 p2 hs hc hr
  go_enter Tryz.func98, Tryz.ntmps98
  go_wp2_with (first | (go_at_call 92; (with_reducible refine (num_plain.calls _ _ _ HP1.out).mono ?_); rintro e w1 ⟨rfl, ⟨q1, rfl⟩⟩) | (go_at_call 92; (with_reducible refine (num_plain.calls _ _ _ HP2.out).mono ?_); rintro e w1 ⟨rfl, ⟨q1, rfl⟩⟩) | (go_at_call 95; (with_reducible refine (num_signed.calls 1 _ _ _ _ _ HS.out).mono ?_); rintro e w1 ⟨rfl, ⟨q1, rfl⟩⟩) | go_in)
  go_ret2
  exact ⟨by rw [HC.out]; rfl, below_drewN (Below.refl _ _) _⟩
 ·have hs := signed_eq 0 (u := a / b + 1) (by omega) (by omega) false
  rw [if_neg (by simp), if_neg (by omega)] at hs
  have hc := ceilS_more hb hr
  have hr' : (a % b != 0) = true := by simp [hr]
  have HC := Lib.hid hc
  have HS := Lib.hid hs
  clear p1 p2 hs hc hr
  go_enter Tryz.func98, Tryz.ntmps98
  go_wp2_with (first | (go_at_call 92; (with_reducible refine (num_plain.calls _ _ _ HP1.out).mono ?_); rintro e w1 ⟨rfl, ⟨q1, rfl⟩⟩) | (go_at_call 92; (with_reducible refine (num_plain.calls _ _ _ HP2.out).mono ?_); rintro e w1 ⟨rfl, ⟨q1, rfl⟩⟩) | (go_at_call 95; (with_reducible refine (num_signed.calls 1 _ _ _ _ _ HS.out).mono ?_); rintro e w1 ⟨rfl, ⟨q1, rfl⟩⟩) | go_in)
  go_ret2
  exact ⟨by rw [HC.out]; rfl, below_drewN (Below.refl _ _) _⟩
theorem num_Ceil.calls (a b r1 : Int) (r2 : Bool) (w : World) (h : num_Ceil.f a b = some (r1, r2)) :
  Calls Tryz.prog 98 #[.int .i64 a, .int .i64 b] w fun e w' => e = .returned (.tuple #[.int .i64 r1, .bool r2]) ∧ Below w.heap.size w w' := by
 unfold num_Ceil.f at h
 by_cases hc : 0 ≤ a ∧ a ≤ 4611686018427387904 ∧ 1 ≤ b ∧ b ≤ 9223372036854775807
 ·rw [if_pos hc] at h
  injection h with h
  injection h with h1 h2
  subst h1 h2
  exact ceil_pos a b w hc.1 hc.2.1 hc.2.2.1 hc.2.2.2
 ·rw [if_neg hc] at h
  cases h
end Go.Proofs.YtfondhcppjkchaaGreat.Q
