import Derived.Test.YtfondhcppjkchaaGreatC32
import Derived.Test.YtfondhcppjkchaaGreatC12
import Derived.Test.YtfondhcppjkchaaGreatC18
import Derived.Test.YtfondhcppjkchaaGreatC33
import Derived.Test.YtfondhcppjkchaaGreatC30
import Derived.Deep.RegionHeld3
set_option maxHeartbeats 40000000
set_option maxRecDepth 100000
set_option linter.unusedVariables false
set_option linter.unusedSimpArgs false
namespace Go.Proofs.YtfondhcppjkchaaGreat.Q
open Go.RowKit Go.Shelf Go.Proofs.YtfondhcppjkchaaGreatW.PrintWords Go.Proofs.YtfondhcppjkchaaGreatW.PrintLast
open Go.Proofs.YtfondhcppjkchaaGreatW.PrintMore
theorem bounds_no (A0 A1 : Option Addr) (c0 c1 : Nat) (l0 l1 : List Int) (w : World) (h0 : Kd.C (Kd.int .i64) w A0 l0.length l0) (hc0 : l0.length ≤ c0) (h1 : Kd.C (Kd.int .i64) w A1 l1.length l1) (hc1 : l1.length ≤ c1) (hm : words_May.f l0 l1 = some false) :
  Calls Tryz.prog 73 #[.agg #[.slice A0 l0.length c0, .slice A1 l1.length c1]] w fun e W' => e = .returned (.tuple #[.int .i64 0, .int .i64 0, .int .i64 2]) ∧ Below w.heap.size w W' := by
 have HC := fun W (hW : Below w.heap.size w W) => words_May.calls A0 c0 l0 A1 c1 l1 false W (Kd.zu h0 hW) hc0 (Kd.zu h1 hW) hc1 hm
 clear h0 hc0 h1 hc1 hm
 have HC := Lib.hid HC
 go_enter Tryz.func73, Tryz.ntmps73
 go_wp2_with (go_at_call 51; with_reducible refine (HC.out _ ?_).mono ?_; (focus go_grown); rintro e' w1 ⟨rfl, hb⟩; obtain ⟨hcl, hfl⟩ := bcell hb; have hz := hb.size; simp at hz; have r2 : w1.cell? ⟨w.heap.size + 1, 0, none⟩ = some (.int .i64 0) := (hcl _ _ (by simp <;> omega)).trans (by simp [go_sem]); have r3 : w1.cell? ⟨w.heap.size + 2, 0, none⟩ = some (.int .i64 0) := (hcl _ _ (by simp <;> omega)).trans (by simp [go_sem]); have f2 : w1.frozen? ⟨w.heap.size + 1, 0, none⟩ = false := (hfl _ _ (by simp <;> omega)).trans (by simp [go_sem]); have f3 : w1.frozen? ⟨w.heap.size + 2, 0, none⟩ = false := (hfl _ _ (by simp <;> omega)).trans (by simp [go_sem]); clear hcl hfl; have HB := Lib.hid (Below.trans (by go_grown) (hb.mono (by simp <;> omega)) : Below w.heap.size w w1); clear hb)
 exact bodyPost_ret (v := .tuple #[.int .i64 0, .int .i64 0, .int .i64 2]) (by simp [results, Tryz.f73, go_sem, r2, r3]) rfl ⟨rfl, (HB.out.setCell (by simp) _).setCell (by simp; omega) _⟩
theorem words_May_no {l0 l1 : List Int} (h : wordB l0 l1 = false) : words_May.f l0 l1 = some false := by
 have h' : ¬ (1 ≤ l1.length ∧ l1.length ≤ 4096 ∧ l0.length ≤ 4096) := by simpa [wordB] using h
 unfold words_May.f
 by_cases h1 : (l1.length : Int) ≥ 1
 ·rw [if_pos h1]
  by_cases h2 : (l1.length : Int) ≤ 4096
  ·rw [if_pos h2]
   exact congrArg some (decide_eq_false (by omega))
  ·rw [if_neg h2]
 ·rw [if_neg h1]
def words_Bounds.f (l0 l1 : List Int) : Option (Int × Int × Int) := some (if wordB l0 l1 = true then ((bndS l0 l1).1, (bndS l0 l1).2, 0) else (0, 0, 2))
theorem words_Bounds.calls (A0 : Option Addr) (c0 : Nat) (l0 : List Int) (A1 : Option Addr) (c1 : Nat) (l1 : List Int) (r1 r2 r3 : Int) (w : World) (hr0 : Kd.C (Kd.int .i64) w A0 l0.length l0) (hc0 : l0.length ≤ c0) (hr1 : Kd.C (Kd.int .i64) w A1 l1.length l1) (hc1 : l1.length ≤ c1) (h : words_Bounds.f l0 l1 = some (r1, r2, r3)) :
  Calls Tryz.prog 73 #[.agg #[.slice A0 l0.length c0, .slice A1 l1.length c1]] w fun e w' => e = .returned (.tuple #[.int .i64 r1, .int .i64 r2, .int .i64 r3]) ∧ Below w.heap.size w w' := by
 unfold words_Bounds.f at h
 injection h with h
 cases hp : wordB l0 l1 with
 | true =>
  rw [if_pos hp] at h
  injection h with e1 e2
  injection e2 with e2 e3
  subst e1 e2 e3
  exact calls_of_every_depth (L := [73, 51, 113, 146]) (n := 8) fun D => bounds_go _ 8 (show (73 : Nat) ∈ [73, 51, 113, 146] by decide) (show (51 : Nat) ∈ [73, 51, 113, 146] by decide) (show (113 : Nat) ∈ [73, 51, 113, 146] by decide) (show (146 : Nat) ∈ [73, 51, 113, 146] by decide) rfl (by omega) A0 A1 c0 c1 l0 l1 w hp hr0 hr1
 | false =>
  rw [if_neg (by rw [hp]; decide)] at h
  injection h with e1 e2
  injection e2 with e2 e3
  subst e1 e2 e3
  exact bounds_no A0 A1 c0 c1 l0 l1 w hr0 hc0 hr1 hc1 (words_May_no hp)
end Go.Proofs.YtfondhcppjkchaaGreat.Q
namespace Go.Proofs.YtfondhcppjkchaaGreat.Q
open Go.RowKit Go.Proofs.YtfondhcppjkchaaGreatW.PrintWords Go.Proofs.YtfondhcppjkchaaGreatW.PrintLast
open Go.Proofs.YtfondhcppjkchaaGreatW.PrintMore
noncomputable def fitsS (l : List S78) (p h i : Int) (x y : List Int) : Option Bool :=
 (countL p h (zj l i).f0.f0 (zj l i).f0.f1).bind fun c =>
  if wordB x y = true then
   if 1 ≤ (bndS x y).1 then
    if (x.length : Int) ≤ c.1 then some (c.2.1.tmod y.length == 0) else some false
   else some false
  else some false
theorem fits_any (w : World) (P : Pl) (m : AL) (es : List Edge) (v : Value) (W : World) (hv : PlanV w P m es v W) (h0 : Kd.C k78 w P.A0 P.l.length P.l) (i : Int) (hi0 : 0 ≤ i) (hi1 : i < P.l.length) (X0 X1 : Option Addr) (c0 c1 : Nat) (x y : List Int) (hx : Kd.C (Kd.int .i64) W X0 x.length x) (hcx : x.length ≤ c0) (hy : Kd.C (Kd.int .i64) W X1 y.length y) (hcy : y.length ≤ c1) (b : Bool) (hf : fitsS P.l P.p P.h i x y = some b) :
  Calls Tryz.prog 40 #[.pointer (some ⟨P.B, 0, none⟩), .int .i64 i, .agg #[.slice X0 x.length c0, .slice X1 y.length c1]] W fun e W' => e = .returned (.bool b) ∧ Below W.heap.size W W' := by
 unfold fitsS at hf
 obtain ⟨⟨h9, n9, e9⟩, hct, hf2⟩ := Option.bind_eq_some_iff.mp hf
 clear hf
 have hf := hf2
 clear hf2
 simp only at hf
 obtain ⟨ad, A5, c5, had, g0, g1, g2, g3, g4, g5, g6, -, -⟩ := zeb (Kd.zu h0 hv.bel) i hi0 hi1
 have k0 := hv.k0
 rw [had] at k0
 have k1 := hv.k1
 have k2 := hv.k2
 have HCT := Lib.hid (fun W => countL_calls P.p P.h (zj P.l i).f0.f0 (zj P.l i).f0.f1 h9 n9 e9 W hct)
 have hxl : x.length ≤ 9223372036854775807 := hx.2.1
 have hyl : y.length ≤ 9223372036854775807 := hy.2.1
 have HX := Lib.hid hx
 have HY := Lib.hid hy
 have HV := Lib.hid hv
 have HCX := Lib.hid hcx
 have HCY := Lib.hid hcy
 clear hx hy hv hcx hcy hct had g2 g3 g4 g5 g6 h0
 generalize zj P.l i = T at g0 g1 HCT
 have e0 := eq_true hi0
 have e1 := eq_true hi1
 obtain ⟨bl, bm, be, hbn, hbe, hbl⟩ : ∃ bl bm be, words_Bounds.f x y = some (bl, bm, be) ∧ (be = 0 ↔ wordB x y = true) ∧ (wordB x y = true → bl = (bndS x y).1) := by
  unfold words_Bounds.f
  cases hw : wordB x y with
  | true => exact ⟨_, _, _, rfl, by simp, fun _ => rfl⟩
  | false => exact ⟨_, _, _, rfl, by simp, fun hh => by cases hh⟩
 have HWB := Lib.hid (fun W' (hW : Below W.heap.size W W') => words_Bounds.calls X0 c0 x X1 c1 y bl bm be W' (Kd.zu HX.out hW) HCX.out (Kd.zu HY.out hW) HCY.out hbn)
 clear hbn
 by_cases hbe0 : be = 0
 ·subst hbe0
  have hwt := hbe.1 rfl
  rw [if_pos hwt, ← hbl hwt] at hf
  have hyp : 1 ≤ y.length := by
   have := of_decide_eq_true (show decide (1 ≤ y.length ∧ y.length ≤ 4096 ∧ x.length ≤ 4096) = true from hwt)
   exact this.1
  clear hbe hbl hwt
  by_cases h1 : 1 ≤ bl
  ·rw [if_pos h1] at hf
   have d1 : decide (1 ≤ bl) = true := decide_eq_true h1
   have d1' : decide (bl ≥ 1) = true := decide_eq_true h1
   clear h1
   by_cases h2 : (x.length : Int) ≤ h9
   ·rw [if_pos h2] at hf
    injection hf with hf
    have d2 : decide ((x.length : Int) ≤ h9) = true := decide_eq_true h2
    have hpn : ((y.length : Int) = 0) = False := by rw [eq_iff_iff, iff_false]; omega
    have hyn : ¬ (y = []) := by intro e; rw [e] at hyp; simp at hyp
    subst hf
    clear h2
    go_enter Tryz.func40, Tryz.ntmps40
    go_wp2_with (first | (go_at_call 73; with_reducible refine (HWB.out _ ?_).mono ?_; (focus go_grown); rintro e' w1 ⟨rfl, hb1⟩; have b0 : w1.cell? ⟨W.heap.size, 0, none⟩ = some (.slice X0 x.length c0) := ((bcell hb1).1 _ _ (by simp)).trans (by simp [go_sem]); have b1 : w1.cell? ⟨W.heap.size, 1, none⟩ = some (.slice X1 y.length c1) := ((bcell hb1).1 _ _ (by simp)).trans (by simp [go_sem]); have HB := Lib.hid (Below.trans (by go_grown) (hb1.mono (by simp <;> omega)) : Below W.heap.size W w1); have k0 := keepc HB.out k0; have k1 := keepc HB.out k1; have k2 := keepc HB.out k2; have g0 := keepc HB.out g0; have g1 := keepc HB.out g1; clear hb1))
    have HI := Lib.hid ((Below.refl w1.heap.size w1).drew)
    apply wp_ex (I := fun W6 => Below w1.heap.size w1 W6)
    ·go_region_held3 (fun w' => w'.cell? ⟨P.B, 0, none⟩ = some (.slice (some ad) P.l.length P.c0) ∧ w'.cell? ⟨P.B, 1, none⟩ = some (.int .i64 P.p) ∧ w'.cell? ⟨P.B, 2, none⟩ = some (.int .i64 P.h) ∧ w'.cell? (ad.add (i.toNat * 7)) = some (.int .i64 T.f0.f0) ∧ w'.cell? ⟨(ad.add (i.toNat * 7)).block, (ad.add (i.toNat * 7)).off + 1, none⟩ = some (.int .i64 T.f0.f1))
      (first | go_keep | exact ⟨keepc HI.out k0, keepc HI.out k1, keepc HI.out k2, keepc HI.out g0, keepc HI.out g1⟩)
      (first | (go_at_call 34; with_reducible refine (HCT.out _).mono ?_; rintro e w6 ⟨rfl, hb6⟩; have HI := Lib.hid (HI.out.trans (hb6.mono HI.out.size)); clear hb6))
     all_goals exact ⟨rfl, HI.out⟩
    intro W6 hb6
    have b0 := keepc hb6 b0
    have b1 := keepc hb6 b1
    have HB6 := Lib.hid (HB.out.trans (hb6.mono HB.out.size))
    clear k0 k1 k2 g0 g1 hb6 HB HCT HWB e0 e1
    go_wp2
    go_ret
    exact ⟨rfl, HB6.out⟩
   ·rw [if_neg h2] at hf
    injection hf with hf
    have d2 : decide ((x.length : Int) ≤ h9) = false := decide_eq_false h2
    subst hf
    clear h2
    go_enter Tryz.func40, Tryz.ntmps40
    go_wp2_with (first | (go_at_call 73; with_reducible refine (HWB.out _ ?_).mono ?_; (focus go_grown); rintro e' w1 ⟨rfl, hb1⟩; have b0 : w1.cell? ⟨W.heap.size, 0, none⟩ = some (.slice X0 x.length c0) := ((bcell hb1).1 _ _ (by simp)).trans (by simp [go_sem]); have b1 : w1.cell? ⟨W.heap.size, 1, none⟩ = some (.slice X1 y.length c1) := ((bcell hb1).1 _ _ (by simp)).trans (by simp [go_sem]); have HB := Lib.hid (Below.trans (by go_grown) (hb1.mono (by simp <;> omega)) : Below W.heap.size W w1); have k0 := keepc HB.out k0; have k1 := keepc HB.out k1; have k2 := keepc HB.out k2; have g0 := keepc HB.out g0; have g1 := keepc HB.out g1; clear hb1))
    have HI := Lib.hid ((Below.refl w1.heap.size w1).drew)
    apply wp_ex (I := fun W6 => Below w1.heap.size w1 W6)
    ·go_region_held3 (fun w' => w'.cell? ⟨P.B, 0, none⟩ = some (.slice (some ad) P.l.length P.c0) ∧ w'.cell? ⟨P.B, 1, none⟩ = some (.int .i64 P.p) ∧ w'.cell? ⟨P.B, 2, none⟩ = some (.int .i64 P.h) ∧ w'.cell? (ad.add (i.toNat * 7)) = some (.int .i64 T.f0.f0) ∧ w'.cell? ⟨(ad.add (i.toNat * 7)).block, (ad.add (i.toNat * 7)).off + 1, none⟩ = some (.int .i64 T.f0.f1))
      (first | go_keep | exact ⟨keepc HI.out k0, keepc HI.out k1, keepc HI.out k2, keepc HI.out g0, keepc HI.out g1⟩)
      (first | (go_at_call 34; with_reducible refine (HCT.out _).mono ?_; rintro e w6 ⟨rfl, hb6⟩; have HI := Lib.hid (HI.out.trans (hb6.mono HI.out.size)); clear hb6))
     all_goals exact ⟨rfl, HI.out⟩
    intro W6 hb6
    have b0 := keepc hb6 b0
    have b1 := keepc hb6 b1
    have HB6 := Lib.hid (HB.out.trans (hb6.mono HB.out.size))
    clear k0 k1 k2 g0 g1 hb6 HB HCT HWB e0 e1
    go_wp2
    go_ret
    exact ⟨rfl, HB6.out⟩
  ·rw [if_neg h1] at hf
   injection hf with hf
   have d1 : decide (1 ≤ bl) = false := decide_eq_false h1
   have d1' : decide (bl ≥ 1) = false := decide_eq_false h1
   subst hf
   clear h1
   go_enter Tryz.func40, Tryz.ntmps40
   go_wp2_with (first | (go_at_call 73; with_reducible refine (HWB.out _ ?_).mono ?_; (focus go_grown); rintro e' w1 ⟨rfl, hb1⟩; have b0 : w1.cell? ⟨W.heap.size, 0, none⟩ = some (.slice X0 x.length c0) := ((bcell hb1).1 _ _ (by simp)).trans (by simp [go_sem]); have b1 : w1.cell? ⟨W.heap.size, 1, none⟩ = some (.slice X1 y.length c1) := ((bcell hb1).1 _ _ (by simp)).trans (by simp [go_sem]); have HB := Lib.hid (Below.trans (by go_grown) (hb1.mono (by simp <;> omega)) : Below W.heap.size W w1); have k0 := keepc HB.out k0; have k1 := keepc HB.out k1; have k2 := keepc HB.out k2; have g0 := keepc HB.out g0; have g1 := keepc HB.out g1; clear hb1))
   have HI := Lib.hid ((Below.refl w1.heap.size w1).drew)
   apply wp_ex (I := fun W6 => Below w1.heap.size w1 W6)
   ·go_region_held3 (fun w' => w'.cell? ⟨P.B, 0, none⟩ = some (.slice (some ad) P.l.length P.c0) ∧ w'.cell? ⟨P.B, 1, none⟩ = some (.int .i64 P.p) ∧ w'.cell? ⟨P.B, 2, none⟩ = some (.int .i64 P.h) ∧ w'.cell? (ad.add (i.toNat * 7)) = some (.int .i64 T.f0.f0) ∧ w'.cell? ⟨(ad.add (i.toNat * 7)).block, (ad.add (i.toNat * 7)).off + 1, none⟩ = some (.int .i64 T.f0.f1))
     (first | go_keep | exact ⟨keepc HI.out k0, keepc HI.out k1, keepc HI.out k2, keepc HI.out g0, keepc HI.out g1⟩)
     (first | (go_at_call 34; with_reducible refine (HCT.out _).mono ?_; rintro e w6 ⟨rfl, hb6⟩; have HI := Lib.hid (HI.out.trans (hb6.mono HI.out.size)); clear hb6))
    all_goals exact ⟨rfl, HI.out⟩
   intro W6 hb6
   have b0 := keepc hb6 b0
   have b1 := keepc hb6 b1
   have HB6 := Lib.hid (HB.out.trans (hb6.mono HB.out.size))
   clear k0 k1 k2 g0 g1 hb6 HB HCT HWB e0 e1
   go_wp2
   go_ret
   exact ⟨rfl, HB6.out⟩
 ·have hwf : ¬ wordB x y = true := fun hh => hbe0 (hbe.2 hh)
  rw [if_neg hwf] at hf
  injection hf with hf
  subst hf
  have d0 : (be == 0) = false := by simpa using hbe0
  clear hbe hbl hwf hbe0
  go_enter Tryz.func40, Tryz.ntmps40
  go_wp2_with (first | (go_at_call 73; with_reducible refine (HWB.out _ ?_).mono ?_; (focus go_grown); rintro e' w1 ⟨rfl, hb1⟩; have b0 : w1.cell? ⟨W.heap.size, 0, none⟩ = some (.slice X0 x.length c0) := ((bcell hb1).1 _ _ (by simp)).trans (by simp [go_sem]); have b1 : w1.cell? ⟨W.heap.size, 1, none⟩ = some (.slice X1 y.length c1) := ((bcell hb1).1 _ _ (by simp)).trans (by simp [go_sem]); have HB := Lib.hid (Below.trans (by go_grown) (hb1.mono (by simp <;> omega)) : Below W.heap.size W w1); have k0 := keepc HB.out k0; have k1 := keepc HB.out k1; have k2 := keepc HB.out k2; have g0 := keepc HB.out g0; have g1 := keepc HB.out g1; clear hb1))
  have HI := Lib.hid ((Below.refl w1.heap.size w1).drew)
  apply wp_ex (I := fun W6 => Below w1.heap.size w1 W6)
  ·go_region_held3 (fun w' => w'.cell? ⟨P.B, 0, none⟩ = some (.slice (some ad) P.l.length P.c0) ∧ w'.cell? ⟨P.B, 1, none⟩ = some (.int .i64 P.p) ∧ w'.cell? ⟨P.B, 2, none⟩ = some (.int .i64 P.h) ∧ w'.cell? (ad.add (i.toNat * 7)) = some (.int .i64 T.f0.f0) ∧ w'.cell? ⟨(ad.add (i.toNat * 7)).block, (ad.add (i.toNat * 7)).off + 1, none⟩ = some (.int .i64 T.f0.f1))
    (first | go_keep | exact ⟨keepc HI.out k0, keepc HI.out k1, keepc HI.out k2, keepc HI.out g0, keepc HI.out g1⟩)
    (first | (go_at_call 34; with_reducible refine (HCT.out _).mono ?_; rintro e w6 ⟨rfl, hb6⟩; have HI := Lib.hid (HI.out.trans (hb6.mono HI.out.size)); clear hb6))
   all_goals exact ⟨rfl, HI.out⟩
  intro W6 hb6
  have b0 := keepc hb6 b0
  have b1 := keepc hb6 b1
  have HB6 := Lib.hid (HB.out.trans (hb6.mono HB.out.size))
  clear k0 k1 k2 g0 g1 hb6 HB HCT HWB e0 e1
  go_wp2
  go_ret
  exact ⟨rfl, HB6.out⟩
end Go.Proofs.YtfondhcppjkchaaGreat.Q
