import Derived.Test.YtfondhcppjkchaaGreatC12
import Derived.Test.YtfondhcppjkchaaGreatC5
import Derived.Handy
import Derived.Deep.RegionWith
import Derived.IntWalk
import Derived.Deep.QuietTactic
import Derived.BigQuiet
set_option maxHeartbeats 40000000
set_option maxRecDepth 100000
set_option linter.unusedVariables false
set_option linter.unusedSimpArgs false
namespace Go.Proofs.YtfondhcppjkchaaGreat.Q
open Go.RowKit Go.Proofs.YtfondhcppjkchaaGreatW.PrintWords Go.Proofs.YtfondhcppjkchaaGreatW.PrintLast
open Go.Proofs.YtfondhcppjkchaaGreatW.PrintMore
structure AtSt (w : World) (S9 : Nat) (st : Int) (s : S70) (W : World) : Prop where
 r0 : W.cell? ⟨w.heap.size + 1, 0, none⟩ = some (.bool false)
 r1 : W.cell? ⟨w.heap.size + 1, 1, none⟩ = some (.int .i64 0)
 r2 : W.cell? ⟨w.heap.size + 1, 2, none⟩ = some (.int .i64 0)
 z0 : W.frozen? ⟨w.heap.size + 1, 0, none⟩ = false
 z1 : W.frozen? ⟨w.heap.size + 1, 1, none⟩ = false
 z2 : W.frozen? ⟨w.heap.size + 1, 2, none⟩ = false
 d2 : W.cell? ⟨w.heap.size, 2, none⟩ = some (.int .i64 st)
 s0 : W.cell? ⟨S9, 0, none⟩ = some (.bool s.f0)
 s1 : W.cell? ⟨S9, 1, none⟩ = some (.int .i64 s.f1)
 s2 : W.cell? ⟨S9, 2, none⟩ = some (.int .i64 s.f2)
 y2 : W.frozen? ⟨S9, 2, none⟩ = false
 lt : w.heap.size + 1 < S9
 hS : S9 < W.heap.size
 bel : Below w.heap.size w W
theorem AtSt.drew {w W : World} {S9 : Nat} {st : Int} {s : S70} (h : AtSt w S9 st s W) : AtSt w S9 st s W.drew := ⟨h.r0, h.r1, h.r2, h.z0, h.z1, h.z2, h.d2, h.s0, h.s1, h.s2, h.y2, h.lt, h.hS, h.bel.drew⟩
theorem AtSt.drewN {w W : World} {S9 : Nat} {st : Int} {s : S70} (h : AtSt w S9 st s W) (n : Nat) : AtSt w S9 st s (W.drewN n) := ⟨h.r0, h.r1, h.r2, h.z0, h.z1, h.z2, h.d2, h.s0, h.s1, h.s2, h.y2, h.lt, h.hS, below_drewN h.bel n⟩
def depAt (d : S73) (n : Int) : S70 × Int :=
 if depMay d = false ∨ n < 0 then (z70, 2)
 else if n < d.f0.length then (zpa d.f0 n, 0)
 else
  let s := zpa d.f1 ((n - d.f0.length) % d.f1.length)
  let m := mulS d.f2 ((n - d.f0.length) / d.f1.length)
  if m.2 = true ∧ (addS s.f2 m.1).2 = true then (⟨s.f0, s.f1, (addS s.f2 m.1).1⟩, 0) else (z70, 7)
theorem depMay_len {d : S73} (h : depMay d = true) : 1 ≤ d.f1.length ∧ d.f1.length ≤ 4096 ∧ d.f0.length ≤ 4096 ∧ 0 ≤ d.f2 ∧ d.f2 ≤ 1099511627776 := by
 unfold depMay at h
 rw [Bool.and_eq_true] at h
 simpa [depPre] using h.1
theorem at_no (A0 A1 : Option Addr) (c0 c1 : Nat) (d : S73) (n : Int) (w : World) (h0 : Kd.C k70 w A0 d.f0.length d.f0) (hc0 : d.f0.length ≤ c0) (h1 : Kd.C k70 w A1 d.f1.length d.f1) (hc1 : d.f1.length ≤ c1) (hno : depMay d = false ∨ n < 0) :
  Calls Tryz.prog 125 #[.agg #[.slice A0 d.f0.length c0, .slice A1 d.f1.length c1, .int .i64 d.f2], .int .i64 n] w fun e w' => e = .returned (.tuple #[.agg #[.bool false, .int .i64 0, .int .i64 0], .int .i64 2]) ∧ Below w.heap.size w w' := by
 have hu : undef = Value.tuple #[] := rfl
 have H0 := Lib.hid h0
 have H1 := Lib.hid h1
 have C0 := Lib.hid hc0
 have C1 := Lib.hid hc1
 clear h0 h1 hc0 hc1
 cases hm : depMay d with
 | false =>
  have HM := Lib.hid (show deps_May.f d.f0 d.f1 d.f2 = some false from congrArg some hm)
  clear hm hno
  go_enter Tryz.func125, Tryz.ntmps125
  go_wp2_with (first | (go_at_call 123; refine (deps_May.calls _ _ _ _ _ _ _ _ _ (Kd.zu H0.out (by go_grown)) C0.out (Kd.zu H1.out (by go_grown)) C1.out HM.out).mono ?_; rintro e w1 ⟨rfl, hb⟩; obtain ⟨hcl, hfl⟩ := bcell hb; have hz := hb.size; simp at hz; have HB := Lib.hid (Below.trans (by go_grown) (hb.mono (by simp; omega)) : Below w.heap.size w w1); clear hb))
  exact bodyPost_ret (v := .tuple #[.agg #[.bool false, .int .i64 0, .int .i64 0], .int .i64 2]) (by simp [results, Tryz.results125, go_sem, hcl, hz]) rfl ⟨rfl, (HB.out.setCell (by simp) _).setCell (by simp) _ |>.setCell (by simp) _⟩
 | true =>
  have hn : n < 0 := hno.resolve_left (by simp [hm])
  have hn' : decide (n < 0) = true := decide_eq_true hn
  have HM := Lib.hid (show deps_May.f d.f0 d.f1 d.f2 = some true from congrArg some hm)
  clear hm hno
  go_enter Tryz.func125, Tryz.ntmps125
  go_wp2_with (first | (go_at_call 123; refine (deps_May.calls _ _ _ _ _ _ _ _ _ (Kd.zu H0.out (by go_grown)) C0.out (Kd.zu H1.out (by go_grown)) C1.out HM.out).mono ?_; rintro e w1 ⟨rfl, hb⟩; obtain ⟨hcl, hfl⟩ := bcell hb; have hz := hb.size; simp at hz; have HB := Lib.hid (Below.trans (by go_grown) (hb.mono (by simp; omega)) : Below w.heap.size w w1); clear hb))
  exact bodyPost_ret (v := .tuple #[.agg #[.bool false, .int .i64 0, .int .i64 0], .int .i64 2]) (by simp [results, Tryz.results125, go_sem, hcl, hz]) rfl ⟨rfl, (HB.out.setCell (by simp) _).setCell (by simp) _ |>.setCell (by simp) _⟩
theorem at_head (A0 A1 : Option Addr) (c0 c1 : Nat) (d : S73) (n : Int) (w : World) (h0 : Kd.C k70 w A0 d.f0.length d.f0) (hc0 : d.f0.length ≤ c0) (h1 : Kd.C k70 w A1 d.f1.length d.f1) (hc1 : d.f1.length ≤ c1) (hm : depMay d = true) (hn0 : 0 ≤ n) (hn : n < d.f0.length) :
  Calls Tryz.prog 125 #[.agg #[.slice A0 d.f0.length c0, .slice A1 d.f1.length c1, .int .i64 d.f2], .int .i64 n] w fun e w' => e = .returned (.tuple #[.agg #[.bool (zpa d.f0 n).f0, .int .i64 (zpa d.f0 n).f1, .int .i64 (zpa d.f0 n).f2], .int .i64 0]) ∧ Below w.heap.size w w' := by
 have hu : undef = Value.tuple #[] := rfl
 have H0 := Lib.hid h0
 have H1 := Lib.hid h1
 have C0 := Lib.hid hc0
 have C1 := Lib.hid hc1
 clear h0 h1 hc0 hc1
 have hn' : decide (n < 0) = false := decide_eq_false (by omega)
 have hnh : decide (n < (d.f0.length : Int)) = true := decide_eq_true hn
 have HM := Lib.hid (show deps_May.f d.f0 d.f1 d.f2 = some true from congrArg some hm)
 clear hm
 go_enter Tryz.func125, Tryz.ntmps125
 go_wp2_with (first | (go_at_call 123; refine (deps_May.calls _ _ _ _ _ _ _ _ _ (Kd.zu H0.out (by go_grown)) C0.out (Kd.zu H1.out (by go_grown)) C1.out HM.out).mono ?_; rintro e w1 ⟨rfl, hb⟩; obtain ⟨hcl, hfl⟩ := bcell hb; have hz := hb.size; simp at hz; have HB := Lib.hid (Below.trans (by go_grown) (hb.mono (by simp; omega)) : Below w.heap.size w w1); clear hb; obtain ⟨ad, rfl, hx0, hx1, hx2⟩ := at_T70 (Kd.zu H0.out HB.out) n hn0 hn))
 go_region
 all_goals go_wp2
 exact bodyPost_ret (v := .tuple #[.agg #[.bool (zpa d.f0 n).f0, .int .i64 (zpa d.f0 n).f1, .int .i64 (zpa d.f0 n).f2], .int .i64 0]) (by simp [results, Tryz.results125, go_sem, hcl, hz]) rfl ⟨rfl, (HB.out.drew.setCell (by simp) _).setCell (by simp) _ |>.setCell (by simp) _⟩
theorem at_loop (A0 A1 : Option Addr) (c0 c1 : Nat) (d : S73) (n : Int) (w : World) (h0 : Kd.C k70 w A0 d.f0.length d.f0) (hc0 : d.f0.length ≤ c0) (h1 : Kd.C k70 w A1 d.f1.length d.f1) (hc1 : d.f1.length ≤ c1) (hm : depMay d = true) (hn0 : 0 ≤ n) (hnI : n ≤ 9223372036854775807) (hn : d.f0.length ≤ n) (m : Int) (ok : Bool) (hmul : num_Mul.f 1 d.f2 ((n - d.f0.length) / d.f1.length) = some (m, ok)) (a : Int) (ok2 : Bool) (hadd : ok = true → num_Add.f (zpa d.f1 ((n - d.f0.length) % d.f1.length)).f2 m = some (a, ok2)) :
  Calls Tryz.prog 125 #[.agg #[.slice A0 d.f0.length c0, .slice A1 d.f1.length c1, .int .i64 d.f2], .int .i64 n] w fun e w' => e = .returned (if ok = true ∧ ok2 = true then .tuple #[.agg #[.bool (zpa d.f1 ((n - d.f0.length) % d.f1.length)).f0, .int .i64 (zpa d.f1 ((n - d.f0.length) % d.f1.length)).f1, .int .i64 a], .int .i64 0] else .tuple #[.agg #[.bool false, .int .i64 0, .int .i64 0], .int .i64 7]) ∧ Below w.heap.size w w' := by
 have hu : undef = Value.tuple #[] := rfl
 obtain ⟨p1, p2, p3, p4, p5⟩ := depMay_len hm
 have H0 := Lib.hid h0
 have H1 := Lib.hid h1
 have C0 := Lib.hid hc0
 have C1 := Lib.hid hc1
 have hq0 : 0 ≤ (n - d.f0.length) % (d.f1.length : Int) := Int.emod_nonneg _ (by omega)
 have hq1 : (n - d.f0.length) % (d.f1.length : Int) < d.f1.length := Int.emod_lt_of_pos _ (by omega)
 have hd0 : 0 ≤ n - (d.f0.length : Int) := by omega
 have hwr : IntKind.i64.wrap (n - (d.f0.length : Int)) = n - d.f0.length := IntWalk.i64_in _ ⟨by omega, by omega⟩
 have htm : (n - (d.f0.length : Int)).tmod d.f1.length = (n - d.f0.length) % d.f1.length := Int.tmod_eq_emod_of_nonneg hd0
 have htd : (n - (d.f0.length : Int)).tdiv d.f1.length = (n - d.f0.length) / d.f1.length := Int.tdiv_eq_ediv_of_nonneg hd0
 have hne : (d.f1 = []) = False := by rw [eq_iff_iff, iff_false]; intro e; rw [e] at p1; simp at p1
 clear h0 h1 hc0 hc1
 have hn' : decide (n < 0) = false := decide_eq_false (by omega)
 have hnh : decide (n < (d.f0.length : Int)) = false := decide_eq_false (by omega)
 have HM := Lib.hid (show deps_May.f d.f0 d.f1 d.f2 = some true from congrArg some hm)
 have HMul := Lib.hid hmul
 have HAdd := Lib.hid hadd
 clear hm hmul hadd
 go_enter Tryz.func125, Tryz.ntmps125
 go_wp2_with (first | (go_at_call 123; refine (deps_May.calls _ _ _ _ _ _ _ _ _ (Kd.zu H0.out (by go_grown)) C0.out (Kd.zu H1.out (by go_grown)) C1.out HM.out).mono ?_; rintro e w1 ⟨rfl, hb⟩; obtain ⟨hcl, hfl⟩ := bcell hb; have hz := hb.size; simp at hz; have HB := Lib.hid (Below.trans (by go_grown) (hb.mono (by simp <;> omega)) : Below w.heap.size w w1); clear hb; have k0 : w1.cell? ⟨w.heap.size, 0, none⟩ = some (.slice A0 d.f0.length c0) := (hcl _ _ (by simp <;> omega)).trans (by simp [go_sem]); have k1 : w1.cell? ⟨w.heap.size, 1, none⟩ = some (.slice A1 d.f1.length c1) := (hcl _ _ (by simp <;> omega)).trans (by simp [go_sem]); have k2 : w1.cell? ⟨w.heap.size, 2, none⟩ = some (.int .i64 d.f2) := (hcl _ _ (by simp <;> omega)).trans (by simp [go_sem]); have r0 : w1.cell? ⟨w.heap.size + 1, 0, none⟩ = some (.bool false) := (hcl _ _ (by simp <;> omega)).trans (by simp [go_sem]); have f0 : w1.frozen? ⟨w.heap.size + 1, 0, none⟩ = false := (hfl _ _ (by simp <;> omega)).trans (by simp [go_sem]); have r1 : w1.cell? ⟨w.heap.size + 1, 1, none⟩ = some (.int .i64 0) := (hcl _ _ (by simp <;> omega)).trans (by simp [go_sem]); have f1 : w1.frozen? ⟨w.heap.size + 1, 1, none⟩ = false := (hfl _ _ (by simp <;> omega)).trans (by simp [go_sem]); have r2 : w1.cell? ⟨w.heap.size + 1, 2, none⟩ = some (.int .i64 0) := (hcl _ _ (by simp <;> omega)).trans (by simp [go_sem]); have f2 : w1.frozen? ⟨w.heap.size + 1, 2, none⟩ = false := (hfl _ _ (by simp <;> omega)).trans (by simp [go_sem]); clear hcl hfl; have hz1 : w.heap.size < w1.heap.size := (by omega); have hz2 : w.heap.size + 1 < w1.heap.size := (by omega); obtain ⟨ad, rfl, hx0, hx1, hx2⟩ := at_T70 (Kd.zu H1.out HB.out) _ hq0 hq1; have hbk := World.block_lt_of_cell? w1 _ hx0))
 go_region
 all_goals go_wp2
 apply wp_ex (I := AtSt w w1.heap.size d.f2 (zpa d.f1 ((n - d.f0.length) % d.f1.length)))
 ·go_region
  all_goals exact ⟨rfl, by simp [go_sem, *], by simp [go_sem, *], by simp [go_sem, *], by simp [go_sem, *], by simp [go_sem, *], by simp [go_sem, *], by simp [go_sem, *], by simp [go_sem, *], by simp [go_sem, *], by simp [go_sem, *], by simp [go_sem, *], hz2, by simp, Below.trans HB.out (by go_grown)⟩
 intro W hA
 clear hx0 hx1 hx2 hbk k0 k1 k2 r0 r1 r2 f0 f1 f2 hz hz1 hz2 HB
 generalize w1.heap.size = S9 at hA ⊢
 have d2 := hA.d2
 have HAS := Lib.hid hA
 clear hA
 go_wp2
 have hwq : IntKind.i64.wrap ((n - (d.f0.length : Int)) / (d.f1.length : Int)) = (n - (d.f0.length : Int)) / (d.f1.length : Int) := IntWalk.i64_in _ ⟨by have := Int.ediv_nonneg hd0 (show (0 : Int) ≤ d.f1.length by omega); omega, by have := Int.ediv_le_self (d.f1.length : Int) hd0; omega⟩
 have hne2 : ¬ (d.f1 = []) := by intro e; rw [e] at p1; simp at p1
 clear hu htm hne hq0 hq1 p1 p2 p3 p4 p5 hn0 hnI hn hd0 hnh hn'
 apply wp_ex (I := AtSt w S9 d.f2 (zpa d.f1 ((n - d.f0.length) % d.f1.length)))
 ·go_region_with (go_at_call 124; (with_reducible refine (num_Mul.calls 1 _ _ _ _ _ HMul.out).mono ?_); rintro e w2 ⟨rfl, ⟨q, rfl⟩⟩)
  all_goals exact ⟨rfl, HAS.out.drewN (1 + q)⟩
 clear hwr htd hwq hne2 d2 HAS
 intro W3 hA
 have r0 := hA.r0
 have r1 := hA.r1
 have r2 := hA.r2
 have z0 := hA.z0
 have z1 := hA.z1
 have z2 := hA.z2
 have s0 := hA.s0
 have s1 := hA.s1
 have s2 := hA.s2
 have y2 := hA.y2
 have hlt := hA.lt
 have HAS := Lib.hid hA
 clear hA
 cases ok with
 | false =>
  go_wp2
  all_goals first | (exfalso; simp_all; done) | exact bodyPost_ret (v := .tuple #[.agg #[.bool false, .int .i64 0, .int .i64 0], .int .i64 7]) (by simp [results, Tryz.results125, go_sem, r0, r1, r2]) rfl ⟨rfl, (HAS.out.bel.setCell (by simp) _).setCell (by simp) _ |>.setCell (by simp) _⟩
 | true =>
  have HA2 := Lib.hid (HAdd.out rfl)
  cases ok2 with
  | false =>
   go_wp2_with (first | (go_at_call 127; (with_reducible refine (num_Add.calls _ _ _ _ _ HA2.out).mono ?_); rintro e w2 ⟨rfl, ⟨q, rfl⟩⟩))
   all_goals first | (exfalso; simp_all; done) | exact bodyPost_ret (v := .tuple #[.agg #[.bool false, .int .i64 0, .int .i64 0], .int .i64 7]) (by simp [results, Tryz.results125, go_sem, r0, r1, r2]) rfl ⟨rfl, (((HAS.out.drewN q).bel.setCell (by simp <;> omega) _).setCell (by simp) _).setCell (by simp) _ |>.setCell (by simp) _⟩
  | true =>
   go_wp2_with (first | (go_at_call 127; (with_reducible refine (num_Add.calls _ _ _ _ _ HA2.out).mono ?_); rintro e w2 ⟨rfl, ⟨q, rfl⟩⟩))
   all_goals first | (exfalso; simp_all; done) | exact bodyPost_ret (v := .tuple #[.agg #[.bool (zpa d.f1 ((n - d.f0.length) % d.f1.length)).f0, .int .i64 (zpa d.f1 ((n - d.f0.length) % d.f1.length)).f1, .int .i64 a], .int .i64 0]) (by simp [results, Tryz.results125, go_sem, r0, r1, r2]) rfl ⟨rfl, (((HAS.out.drewN q).bel.setCell (by simp <;> omega) _).setCell (by simp) _).setCell (by simp) _ |>.setCell (by simp) _⟩
theorem numbered_has (l : List S70) (s x : Int) (h0 : 0 ≤ x) (h : x < l.length) : (s + x, zpa l x) ∈ numbered s l := by
 have hl : x.toNat < (numbered s l).length := by rw [numbered_len]; omega
 have e := numbered_get l s x.toNat (by omega)
 rw [rd70_get l x h0 h]
 have : s + x = s + (x.toNat : Int) := by omega
 rw [this, ← e]
 exact List.getElem_mem hl
theorem depMay_src {d : S73} (h : depMay d = true) (p : Int × S70) (hp : p ∈ vals d) : 0 ≤ p.2.f2 ∧ p.2.f2 ≤ 1125899906842624 := by
 unfold depMay at h
 rw [Bool.and_eq_true, List.all_eq_true] at h
 have := h.2 p hp
 unfold srcB at this
 rw [Bool.and_eq_true] at this
 exact of_decide_eq_true this.1
theorem depMay_loop {d : S73} (h : depMay d = true) (x : Int) (h0 : 0 ≤ x) (h1 : x < d.f1.length) : 0 ≤ (zpa d.f1 x).f2 ∧ (zpa d.f1 x).f2 ≤ 1125899906842624 :=
 depMay_src h (d.f0.length + x, zpa d.f1 x) (List.mem_append.2 (.inr (numbered_has d.f1 d.f0.length x h0 h1)))
theorem mulS_in (a b : Int) : I64 (mulS a b).1 := by
 unfold mulS I64
 split <;> simp only <;> omega
def deps_At.f (l0 l1 : List S70) (a n : Int) : Option (Bool × Int × Int × Int) :=
 if n ≤ 9223372036854775807 then some ((depAt ⟨l0, l1, a⟩ n).1.f0, (depAt ⟨l0, l1, a⟩ n).1.f1, (depAt ⟨l0, l1, a⟩ n).1.f2, (depAt ⟨l0, l1, a⟩ n).2) else none
theorem at_all (A0 A1 : Option Addr) (c0 c1 : Nat) (d : S73) (n : Int) (w : World) (h0 : Kd.C k70 w A0 d.f0.length d.f0) (hc0 : d.f0.length ≤ c0) (h1 : Kd.C k70 w A1 d.f1.length d.f1) (hc1 : d.f1.length ≤ c1) (hn : n ≤ 9223372036854775807) :
  Calls Tryz.prog 125 #[.agg #[.slice A0 d.f0.length c0, .slice A1 d.f1.length c1, .int .i64 d.f2], .int .i64 n] w fun e w' => e = .returned (.tuple #[.agg #[.bool (depAt d n).1.f0, .int .i64 (depAt d n).1.f1, .int .i64 (depAt d n).1.f2], .int .i64 (depAt d n).2]) ∧ Below w.heap.size w w' := by
 by_cases hno : depMay d = false ∨ n < 0
 ·have e : depAt d n = (z70, 2) := by unfold depAt; rw [if_pos hno]
  rw [e]
  exact at_no A0 A1 c0 c1 d n w h0 hc0 h1 hc1 hno
 ·have hm : depMay d = true := by
   cases hx : depMay d with
   | true => rfl
   | false => exact absurd (.inl hx) hno
  have hn0 : 0 ≤ n := by
   rcases Int.lt_or_le n 0 with h | h
   ·exact absurd (.inr h) hno
   ·exact h
  by_cases hlt : n < d.f0.length
  ·have e : depAt d n = (zpa d.f0 n, 0) := by unfold depAt; rw [if_neg hno, if_pos hlt]
   rw [e]
   exact at_head A0 A1 c0 c1 d n w h0 hc0 h1 hc1 hm hn0 hlt
  ·obtain ⟨p1, p2, p3, p4, p5⟩ := depMay_len hm
   have hq0 : 0 ≤ (n - d.f0.length) % (d.f1.length : Int) := Int.emod_nonneg _ (by omega)
   have hq1 : (n - d.f0.length) % (d.f1.length : Int) < d.f1.length := Int.emod_lt_of_pos _ (by omega)
   have hd0 : 0 ≤ n - (d.f0.length : Int) := by omega
   have hs := depMay_loop hm _ hq0 hq1
   have hdiv : I64 ((n - d.f0.length) / (d.f1.length : Int)) := by
    have a1 := Int.ediv_nonneg hd0 (show (0 : Int) ≤ d.f1.length by omega)
    have a2 := Int.ediv_le_self (d.f1.length : Int) hd0
    unfold I64; omega
   have hmul := num_Mul_eq 0 (a := d.f2) (by unfold I64; omega) hdiv
   have hadd := num_Add_eq (a := (zpa d.f1 ((n - d.f0.length) % d.f1.length)).f2) (b := (mulS d.f2 ((n - d.f0.length) / d.f1.length)).1) (by unfold I64; omega) (mulS_in _ _)
   have hw := at_loop A0 A1 c0 c1 d n w h0 hc0 h1 hc1 hm hn0 hn (by omega) (mulS d.f2 ((n - d.f0.length) / d.f1.length)).1 (mulS d.f2 ((n - d.f0.length) / d.f1.length)).2 hmul (addS (zpa d.f1 ((n - d.f0.length) % d.f1.length)).f2 (mulS d.f2 ((n - d.f0.length) / d.f1.length)).1).1 (addS (zpa d.f1 ((n - d.f0.length) % d.f1.length)).f2 (mulS d.f2 ((n - d.f0.length) / d.f1.length)).1).2 (fun _ => hadd)
   refine hw.mono fun e w' ⟨he, hb⟩ => ⟨?_, hb⟩
   rw [he]
   unfold depAt
   rw [if_neg hno, if_neg hlt]
   simp only
   by_cases hok : (mulS d.f2 ((n - d.f0.length) / d.f1.length)).2 = true ∧ (addS (zpa d.f1 ((n - d.f0.length) % d.f1.length)).f2 (mulS d.f2 ((n - d.f0.length) / d.f1.length)).1).2 = true
   ·simp only [if_pos hok]
   ·simp only [if_neg hok]
    rfl
theorem deps_At.calls (A0 : Option Addr) (c0 : Nat) (l0 : List S70) (A1 : Option Addr) (c1 : Nat) (l1 : List S70) (a n : Int) (r1 : Bool) (r2 r3 r4 : Int) (w : World) (hr0 : Kd.C k70 w A0 l0.length l0) (hc0 : l0.length ≤ c0) (hr1 : Kd.C k70 w A1 l1.length l1) (hc1 : l1.length ≤ c1) (h : deps_At.f l0 l1 a n = some (r1, r2, r3, r4)) :
  Calls Tryz.prog 125 #[.agg #[.slice A0 l0.length c0, .slice A1 l1.length c1, .int .i64 a], .int .i64 n] w fun e w' => e = .returned (.tuple #[.agg #[.bool r1, .int .i64 r2, .int .i64 r3], .int .i64 r4]) ∧ Below w.heap.size w w' := by
 unfold deps_At.f at h
 by_cases hn : n ≤ 9223372036854775807
 ·rw [if_pos hn] at h
  simp only [Option.some.injEq, Prod.mk.injEq] at h
  obtain ⟨rfl, rfl, rfl, rfl⟩ := h
  exact at_all A0 A1 c0 c1 ⟨l0, l1, a⟩ n w hr0 hc0 hr1 hc1 hn
 ·rw [if_neg hn] at h
  cases h
end Go.Proofs.YtfondhcppjkchaaGreat.Q
