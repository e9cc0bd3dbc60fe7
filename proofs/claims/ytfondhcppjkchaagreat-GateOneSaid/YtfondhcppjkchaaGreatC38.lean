import Derived.Test.YtfondhcppjkchaaGreatC37
set_option maxHeartbeats 40000000
set_option maxRecDepth 100000
set_option linter.unusedVariables false
set_option linter.unusedSimpArgs false
namespace Go.Proofs.YtfondhcppjkchaaGreat.Q
open Go.RowKit Go.Proofs.YtfondhcppjkchaaGreatW.PrintWords Go.Proofs.YtfondhcppjkchaaGreatW.PrintLast
open Go.Proofs.YtfondhcppjkchaaGreatW.PrintMore
def backI (n t : Int) : Int := (n - 1 - t % n + n) % n
def trimN (head l : List Int) : Nat → Nat
 | 0 => 0
 | h + 1 => if rd head h = rd l (backI l.length ((head.length : Int) - (h + 1 : Nat))) then trimN head l h else h + 1
def turnK (n t : Int) : Int := (n - t % n) % n
def shortL (round : List Int) : List Int := round.take (loopS round)
def shortH (head round : List Int) : Nat := trimN head (shortL round) head.length
def shortK (head round : List Int) : Nat := (turnK (shortL round).length ((head.length : Int) - (shortH head round : Nat))).toNat
def shortW (head round : List Int) : S27 := ⟨head.take (shortH head round), (shortL round).drop (shortK head round) ++ (shortL round).take (shortK head round)⟩
theorem trimN_le (head l : List Int) : ∀ h, trimN head l h ≤ h
 | 0 => Nat.le_refl _
 | h + 1 => by
  unfold trimN
  split
  ·have := trimN_le head l h; omega
  ·omega
theorem backI_eq (n t : Int) (hn : 1 ≤ n) (hn' : n ≤ 4611686018427387904) (h0 : 0 ≤ t) :
  ∃ j1 j2 j3 j4, IntKind.i64.wrap (n - 1) = j1 ∧ t.tmod n = j2 ∧ IntKind.i64.wrap (j1 - j2) = j3 ∧ IntKind.i64.wrap (j3 + n) = j4 ∧ j4.tmod n = backI n t ∧ 0 ≤ backI n t ∧ backI n t < n := by
 have e0 := Int.emod_nonneg t (show n ≠ 0 by omega)
 have e1 := Int.emod_lt_of_pos t (show 0 < n by omega)
 have e2 : t.tmod n = t % n := Int.tmod_eq_emod_of_nonneg h0
 refine ⟨n - 1, t % n, n - 1 - t % n, n - 1 - t % n + n, IntWalk.i64_in _ ⟨by omega, by omega⟩, e2, IntWalk.i64_in _ ⟨by omega, by omega⟩, IntWalk.i64_in _ ⟨by omega, by omega⟩, ?_, Int.emod_nonneg _ (by omega), Int.emod_lt_of_pos _ (by omega)⟩
 unfold backI
 rw [Int.tmod_eq_emod_of_nonneg (by omega)]
theorem turnK_eq (n t : Int) (hn : 1 ≤ n) (hn' : n ≤ 4611686018427387904) (h0 : 0 ≤ t) :
  ∃ j2 j3, t.tmod n = j2 ∧ IntKind.i64.wrap (n - j2) = j3 ∧ j3.tmod n = turnK n t ∧ 0 ≤ turnK n t ∧ turnK n t < n := by
 have e0 := Int.emod_nonneg t (show n ≠ 0 by omega)
 have e1 := Int.emod_lt_of_pos t (show 0 < n by omega)
 have e2 : t.tmod n = t % n := Int.tmod_eq_emod_of_nonneg h0
 refine ⟨t % n, n - t % n, e2, IntWalk.i64_in _ ⟨by omega, by omega⟩, ?_, Int.emod_nonneg _ (by omega), Int.emod_lt_of_pos _ (by omega)⟩
 unfold turnK
 rw [Int.tmod_eq_emod_of_nonneg (by omega)]
theorem wp_ex2 {P : Program} {c : Code} {Q : Exit → Act → World → Prop} {a : Act} {w : World} (A : Value → Act) (I : Value → World → Prop) (h : c.wp P (fun e a w => match e with | .normal => ∃ v, a = A v ∧ I v w | _ => False) a w) (hq : ∀ v W, I v W → Q .normal (A v) W) : c.wp P Q a w :=
 Code.wp_mono (fun e a w q => by
  cases e with
  | normal => obtain ⟨v, rfl, q⟩ := q; exact hq _ _ q
  | _ => exact q.elim) h
theorem wshort_any (A0 : Option Addr) (c0 : Nat) (head round : List Int) (P0 : Nat → Prop) (v1 : Value) (w0 W : World) (hB : Below w0.heap.size w0 W) (h0 : Kd.C (Kd.int .i64) W A0 head.length head) (hc0 : head.length ≤ c0) (h1 : Kd.R (Kd.int .i64) 2 W w0.heap.size P0 v1 round) (hl0 : head.length ≤ 4096) (hl1 : round.length ≤ 4096) (hl2 : 1 ≤ round.length) :
  Calls Tryz.prog 85 #[.slice A0 head.length c0, v1] W fun e W' => ∃ u0 u1, e = .returned (.tuple #[.agg #[u0, u1], .int .i64 0]) ∧ Kd.R (Kd.int .i64) 2 W' W.heap.size (fun _ => True) u0 (shortW head round).f0 ∧ Kd.R (Kd.int .i64) 2 W' W.heap.size (fun _ => True) u1 (shortW head round).f1 ∧ Below W.heap.size W W' := by
 have HB0 := Lib.hid hB
 have H0 := Lib.hid h0
 have H1 := Lib.hid h1
 have HC0 := Lib.hid hc0
 have HF := Lib.hid (show words_loop.f (2 * round.length + 1) round = some (shortL round) from loop_f round (by omega) (2 * round.length + 1) (by omega))
 have hlp := loopS_le round
 have hlq := loopS_pos round (by omega)
 have hll : (shortL round).length = loopS round := by unfold shortL; rw [List.length_take]; omega
 have HLL := Lib.hid hll
 have hLp : 1 ≤ (shortL round).length := by omega
 have hLq : (shortL round).length ≤ 4096 := by omega
 have HLp := Lib.hid hLp
 have HLH := Lib.hid hl0
 have HLq := Lib.hid hLq
 clear hB h0 h1 hc0 hll hlp hlq hLp hLq HLL
 obtain ⟨L, hL⟩ : ∃ L, L = shortL round := ⟨_, rfl⟩
 rw [← hL] at HF HLp HLq
 have HL := Lib.hid hL
 clear hL hl0 hl1 hl2
 go_enter Tryz.func85, Tryz.ntmps85
 go_upto_block 0 with (first | (go_at_call 120; refine (words_loop.calls _ P0 _ _ _ w0 _ ?_ ?_ HF.out).mono ?_; (focus exact HB0.out.trans ((by go_grown : Below W.heap.size W _).mono HB0.out.size)); (focus exact Kd.zga H1.out (by go_grown)); rintro e w1 ⟨va, rfl, hRa, -, n1, rfl⟩; obtain ⟨Aa, ca, rfl⟩ := Kd.zoa hRa; have HRa := Lib.hid hRa; clear hRa) | (go_at_call 119; refine (clone_any Aa ca L _ ?_ ?_).mono ?_; (focus exact (Kd.R_reads' HRa.out).2.2); (focus (have := HLq.out; omega)); rintro e w2 ⟨vb, rfl, hRb, hb2⟩; obtain ⟨Ab, cb, rfl⟩ := Kd.zoa hRb; have HRb := Lib.hid hRb; have HB2 := Lib.hid hb2; clear hRb hb2))
 (try simp only [Act.put, List.setIfInBounds_toArray, List.set_cons_zero, List.set_cons_succ])
 have HBW := Lib.hid (show Below W.heap.size W w2 from (by repeat (first | exact Below.refl _ _ | apply zd | apply za | apply ze) : Below W.heap.size W ((W.alloc (.cells #[.slice none 0 0, .slice none 0 0] 27)).drewN n1)).trans (HB2.out.mono (by simp)))
 have HBK := Lib.hid (show w2.heap[W.heap.size]? = some (.cells #[.slice none 0 0, .slice none 0 0] 27 (0, 0)) from (HB2.out.block W.heap.size (by simp)).trans (zwa W _))
 have HRN := Lib.hid (show (Kd.int .i64).R 2 w2 (W.heap.size + 1) (fun _ => True) (.slice Ab L.length cb) L from Kd.zxa HRb.out (by simp))
 have HH2 := Lib.hid (Kd.zu H0.out HBW.out)
 clear HB2 HRb HRa HB0 H0 H1 HF
 go_cut [7, 8] (fun v7 v8 wc => v7 = .int .i64 (trimN head L head.length : Nat) ∧ v8 = .int .i64 ((head.length : Int) - (trimN head L head.length : Nat)) ∧ ∃ n, wc = w2.drewN n)
 case first =>
  go_wp2
  go_loopw [7, 8] (fun v7 v8 W1 => ∃ h : Nat, v7 = .int .i64 h ∧ v8 = .int .i64 ((head.length : Int) - h) ∧ h ≤ head.length ∧ trimN head L h = trimN head L head.length ∧ ∃ n, W1 = w2.drewN n) (fun v7 _ _ => (intOf v7).toNat)
  case atStart => exact ⟨head.length, rfl, by congr 1; omega, Nat.le_refl _, rfl, 0, rfl⟩
  case round =>
   obtain ⟨h, rfl, rfl, hh, ht, n, rfl⟩ := hrel
   have HT := Lib.hid ht
   have HHH := Lib.hid hh
   cases h with
   | zero =>
    have HT0 := Lib.hid (show trimN head L head.length = 0 from ht.symm)
    clear ht hh
    go_wp2_with fail
    apply wp_ex (I := fun W6 => ∃ n, W6 = w2.drewN n)
    ·refine wp_region_any (by kernel_rfl) ?_
     (refine wpAny_take (i := 0) (v := ?_) rfl (by kernel_rfl) (by kernel_rfl) (by kernel_rfl) (fun _ _ _ h => h) (Or.inl ⟨by kernel_rfl, ?_⟩) ?_; rotate_left; (intro w; go_simp); (try with_reducible rfl))
     (refine wpAny_take (i := 1) (v := ?_) rfl (by kernel_rfl) (by kernel_rfl) (by kernel_rfl) (fun _ _ _ h => h) (Or.inl ⟨by kernel_rfl, ?_⟩) ?_; rotate_left; (intro w; go_simp); (try with_reducible rfl))
     (refine wpAny_take (i := 2) (v := ?_) rfl (by kernel_rfl) (by kernel_rfl) (by kernel_rfl) (fun _ _ _ h => h) (Or.inl ⟨by kernel_rfl, ?_⟩) ?_; rotate_left; (intro w; go_simp); (try with_reducible rfl))
     (refine wpAny_take (i := 3) (v := undef) rfl (by kernel_rfl) (by kernel_rfl) (by kernel_rfl) (fun _ _ _ h => h) (Or.inr ⟨by kernel_rfl, rfl⟩) ?_)
     (refine wpAny_take (i := 4) (v := undef) rfl (by kernel_rfl) (by kernel_rfl) (by kernel_rfl) (fun _ _ _ h => h) (Or.inr ⟨by kernel_rfl, rfl⟩) ?_)
     (refine wpAny_take (i := 5) (v := undef) rfl (by kernel_rfl) (by kernel_rfl) (by kernel_rfl) (fun _ _ _ h => h) (Or.inr ⟨by kernel_rfl, rfl⟩) ?_)
     (refine wpAny_take (i := 6) (v := undef) rfl (by kernel_rfl) (by kernel_rfl) (by kernel_rfl) (fun _ _ _ h => h) (Or.inr ⟨by kernel_rfl, rfl⟩) ?_)
     (refine wpAny_take (i := 7) (v := undef) rfl (by kernel_rfl) (by kernel_rfl) (by kernel_rfl) (fun _ _ _ h => h) (Or.inr ⟨by kernel_rfl, rfl⟩) ?_)
     (refine wpAny_take (i := 8) (v := undef) rfl (by kernel_rfl) (by kernel_rfl) (by kernel_rfl) (fun _ _ _ h => h) (Or.inr ⟨by kernel_rfl, rfl⟩) ?_)
     (refine wpAny_take (i := 9) (v := undef) rfl (by kernel_rfl) (by kernel_rfl) (by kernel_rfl) (fun _ _ _ h => h) (Or.inr ⟨by kernel_rfl, rfl⟩) ?_)
     (refine wpAny_take (i := 10) (v := undef) rfl (by kernel_rfl) (by kernel_rfl) (by kernel_rfl) (fun _ _ _ h => h) (Or.inr ⟨by kernel_rfl, rfl⟩) ?_)
     (refine wpAny_take (i := 11) (v := undef) rfl (by kernel_rfl) (by kernel_rfl) (by kernel_rfl) (fun _ _ _ h => h) (Or.inr ⟨by kernel_rfl, rfl⟩) ?_)
     (refine wpAny_take (i := 12) (v := undef) rfl (by kernel_rfl) (by kernel_rfl) (by kernel_rfl) (fun _ _ _ h => h) (Or.inr ⟨by kernel_rfl, rfl⟩) ?_)
     (refine wpAny_take (i := 13) (v := undef) rfl (by kernel_rfl) (by kernel_rfl) (by kernel_rfl) (fun _ _ _ h => h) (Or.inr ⟨by kernel_rfl, rfl⟩) ?_)
     (refine wpAny_take (i := 14) (v := undef) rfl (by kernel_rfl) (by kernel_rfl) (by kernel_rfl) (fun _ _ _ h => h) (Or.inr ⟨by kernel_rfl, rfl⟩) ?_)
     (refine wpAny_take (i := 15) (v := undef) rfl (by kernel_rfl) (by kernel_rfl) (by kernel_rfl) (fun _ _ _ h => h) (Or.inr ⟨by kernel_rfl, rfl⟩) ?_)
     (refine wpAny_take (i := 16) (v := undef) rfl (by kernel_rfl) (by kernel_rfl) (by kernel_rfl) (fun _ _ _ h => h) (Or.inr ⟨by kernel_rfl, rfl⟩) ?_)
     (refine wpAny_take (i := 17) (v := undef) rfl (by kernel_rfl) (by kernel_rfl) (by kernel_rfl) (fun _ _ _ h => h) (Or.inr ⟨by kernel_rfl, rfl⟩) ?_)
     (refine wpAny_take (i := 18) (v := undef) rfl (by kernel_rfl) (by kernel_rfl) (by kernel_rfl) (fun _ _ _ h => h) (Or.inr ⟨by kernel_rfl, rfl⟩) ?_)
     (refine wpAny_take (i := 19) (v := undef) rfl (by kernel_rfl) (by kernel_rfl) (by kernel_rfl) (fun _ _ _ h => h) (Or.inr ⟨by kernel_rfl, rfl⟩) ?_)
     (refine wpAny_take (i := 20) (v := undef) rfl (by kernel_rfl) (by kernel_rfl) (by kernel_rfl) (fun _ _ _ h => h) (Or.inr ⟨by kernel_rfl, rfl⟩) ?_)
     (refine wpAny_take (i := 21) (v := undef) rfl (by kernel_rfl) (by kernel_rfl) (by kernel_rfl) (fun _ _ _ h => h) (Or.inr ⟨by kernel_rfl, rfl⟩) ?_)
     (refine wpAny_take (i := 22) (v := undef) rfl (by kernel_rfl) (by kernel_rfl) (by kernel_rfl) (fun _ _ _ h => h) (Or.inr ⟨by kernel_rfl, rfl⟩) ?_)
     (refine wpAny_take (i := 23) (v := undef) rfl (by kernel_rfl) (by kernel_rfl) (by kernel_rfl) (fun _ _ _ h => h) (Or.inr ⟨by kernel_rfl, rfl⟩) ?_)
     (refine wpAny_take (i := 24) (v := undef) rfl (by kernel_rfl) (by kernel_rfl) (by kernel_rfl) (fun _ _ _ h => h) (Or.inr ⟨by kernel_rfl, rfl⟩) ?_)
     (refine wpAny_take (i := 25) (v := undef) rfl (by kernel_rfl) (by kernel_rfl) (by kernel_rfl) (fun _ _ _ h => h) (Or.inr ⟨by kernel_rfl, rfl⟩) ?_)
     (refine wpAny_take (i := 26) (v := ?_) rfl (by kernel_rfl) (by kernel_rfl) (by kernel_rfl) (fun _ _ _ h => h) (Or.inl ⟨by kernel_rfl, ?_⟩) ?_; rotate_left; (intro w; go_simp); (try with_reducible rfl))
     refine wpAny_done (by kernel_rfl) ?_ _
     (try simp only [Act.put, List.setIfInBounds_toArray, List.set_cons_zero, List.set_cons_succ, List.getElem_toArray, List.getElem_cons_zero, List.getElem_cons_succ])
     all_goals exact ⟨rfl, n + 1, World.drewN_drewN _ _ _⟩
    rintro W6 ⟨n6, rfl⟩
    go_wp2
    go_meet
    case rel => exact ⟨by rw [HT0.out], by rw [HT0.out], n6, rfl⟩
   | succ h =>
    obtain ⟨j1, j2, j3, j4, q1, q2, q3, q4, q5, q6, q7⟩ := backI_eq L.length ((head.length : Int) - (h + 1 : Nat)) (by have := HLp.out; omega) (by have := HLq.out; omega) (by omega)
    obtain ⟨t, hte⟩ : ∃ t, t = ((head.length : Int) - (h + 1 : Nat)) := ⟨_, rfl⟩
    rw [← hte] at q2 q5 q6 q7
    have HTE := Lib.hid hte
    obtain ⟨j5, hj5⟩ : ∃ j, j = backI L.length t := ⟨_, rfl⟩
    rw [← hj5] at q5 q6 q7
    have HJ5 := Lib.hid hj5
    obtain ⟨x, hx⟩ : ∃ x : Int, x = ((h + 1 : Nat) : Int) := ⟨_, rfl⟩
    obtain ⟨y, hy⟩ : ∃ y : Int, y = (h : Int) := ⟨_, rfl⟩
    have hw0 : IntKind.i64.wrap (x - 1) = y := by rw [IntWalk.i64_in _ ⟨by have := HLH.out; omega, by have := HLH.out; omega⟩]; omega
    have hd0 : decide (x > 0) = true := decide_eq_true (by omega)
    have hd1 : decide (0 < x) = true := decide_eq_true (by omega)
    have y0 := eq_true (show 0 ≤ y by omega)
    have y1 := eq_true (show y < head.length by omega)
    have z0 := eq_true q6
    have z1 := eq_true q7
    have hLz : ((L.length : Int) = 0) = False := by rw [eq_iff_iff, iff_false]; have := HLp.out; omega
    have hLz2 : (L.length = 0) = False := by rw [eq_iff_iff, iff_false]; have := HLp.out; omega
    have hLz3 : (L = []) = False := by rw [eq_iff_iff, iff_false]; intro e; have := HLp.out; rw [e] at this; simp at this
    obtain ⟨a0, rfl, g0⟩ := Kd.zya HH2.out y (by omega) (by omega)
    obtain ⟨ab, rfl, g1⟩ := Kd.zya (Kd.R_reads' HRN.out).2.2 j5 (by omega) (by omega)
    have hsp : trimN head L (h + 1) = if rd head y = rd L j5 then trimN head L h else h + 1 := by
     rw [hy, hj5, hte]; rfl
    rw [show ((head.length : Int) - (h + 1 : Nat)) = t from hte.symm, ← hx]
    have HX := Lib.hid hx
    have HY := Lib.hid hy
    have HSP := Lib.hid hsp
    clear q6 q7 hh ht hj5 hte hy hsp
    clear hx
    go_wp2_with fail
    have g0 : (w2.drewN n).cell? (a0.add y.toNat) = some (.int .i64 (rd head y)) := g0
    have g1 : (w2.drewN n).cell? (ab.add j5.toNat) = some (.int .i64 (rd L j5)) := g1
    by_cases he : rd head y = rd L j5
    ·have d0 : (rd head y == rd L j5) = true := beq_iff_eq.mpr he
     have HE := Lib.hid he
     clear he
     have HI := Lib.hid ((Below.refl (w2.drewN n).heap.size (w2.drewN n)).drew)
     apply wp_ex (I := fun W6 => ∃ n, W6 = w2.drewN n)
     ·go_region_held3 (fun w' => w'.cell? (a0.add y.toNat) = some (.int .i64 (rd head y)) ∧ w'.cell? (ab.add j5.toNat) = some (.int .i64 (rd L j5)))
       (first | exact ⟨keepc HI.out g0, keepc HI.out g1⟩ | go_keep)
       (fail)
      (try simp only [Act.put, List.setIfInBounds_toArray, List.set_cons_zero, List.set_cons_succ, List.getElem_toArray, List.getElem_cons_zero, List.getElem_cons_succ])
      all_goals exact ⟨rfl, n + 1, World.drewN_drewN _ _ _⟩
     rintro W6 ⟨n6, rfl⟩
     have hwt : IntKind.i64.wrap (t + 1) = t + 1 := IntWalk.i64_in _ ⟨by have := HTE.out; have := HLH.out; have := HHH.out; omega, by have := HTE.out; have := HLH.out; have := HHH.out; omega⟩
     clear g0 g1 HI
     go_wp2_with fail
     go_roundw
     case rel => exact ⟨h, by rw [HY.out], by rw [HTE.out]; congr 1; omega, by have := HHH.out; omega, by rw [← HT.out, HSP.out, if_pos HE.out], n6, rfl⟩
     case measure => simp [intOf]; have := HX.out; have := HY.out; omega
    ·have d0 : (rd head y == rd L j5) = false := beq_eq_false_iff_ne.mpr he
     have HE := Lib.hid he
     clear he
     have HI := Lib.hid ((Below.refl (w2.drewN n).heap.size (w2.drewN n)).drew)
     apply wp_ex (I := fun W6 => ∃ n, W6 = w2.drewN n)
     ·go_region_held3 (fun w' => w'.cell? (a0.add y.toNat) = some (.int .i64 (rd head y)) ∧ w'.cell? (ab.add j5.toNat) = some (.int .i64 (rd L j5)))
       (first | exact ⟨keepc HI.out g0, keepc HI.out g1⟩ | go_keep)
       (fail)
      (try simp only [Act.put, List.setIfInBounds_toArray, List.set_cons_zero, List.set_cons_succ, List.getElem_toArray, List.getElem_cons_zero, List.getElem_cons_succ])
      all_goals exact ⟨rfl, n + 1, World.drewN_drewN _ _ _⟩
     rintro W6 ⟨n6, rfl⟩
     clear g0 g1 HI
     go_wp2_with fail
     have hfin : trimN head L head.length = h + 1 := by rw [← HT.out, HSP.out, if_neg HE.out]
     go_meet
     case rel => exact ⟨by rw [hfin, HX.out], by rw [hfin, HTE.out], n6, rfl⟩
 case rest =>
  obtain ⟨rfl, rfl, n, rfl⟩ := hcut
  have hhl := trimN_le head L head.length
  obtain ⟨hN, hNe⟩ : ∃ hN, hN = trimN head L head.length := ⟨_, rfl⟩
  rw [← hNe] at hhl
  simp only [← hNe]
  obtain ⟨t, hte⟩ : ∃ t, t = ((head.length : Int) - (hN : Nat)) := ⟨_, rfl⟩
  rw [← hte]
  obtain ⟨j2, j3, q2, q3, q4, q5, q6⟩ := turnK_eq L.length t (by have := HLp.out; omega) (by have := HLq.out; omega) (by omega)
  obtain ⟨k, hke⟩ : ∃ k, k = turnK L.length t := ⟨_, rfl⟩
  rw [← hke] at q4 q5 q6
  have HKE := Lib.hid hke
  have HTE := Lib.hid hte
  have HNE := Lib.hid hNe
  have HNL := Lib.hid hhl
  have hLz : ((L.length : Int) = 0) = False := by rw [eq_iff_iff, iff_false]; have := HLp.out; omega
  have hLz2 : (L.length = 0) = False := by rw [eq_iff_iff, iff_false]; have := HLp.out; omega
  have hLz3 : (L = []) = False := by rw [eq_iff_iff, iff_false]; intro e; have := HLp.out; rw [e] at this; simp at this
  have z0 := eq_true q5
  have Q5 := Lib.hid q5
  have Q6 := Lib.hid q6
  have hroom := (Kd.R_reads' HRN.out).2.1
  have hC := (Kd.R_reads' HRN.out).2.2
  have hkl : k.toNat ≤ L.length := by omega
  obtain ⟨i0, hi0, _, hsz, _⟩ := info_parts info2
  have hcutA := cut_from (P := Tryz.prog) 24 2 .i64 Tryz.underlying24 hi0 1 hsz Ab L.length cb k q5 (by omega)
  have hcutB := cut_to (P := Tryz.prog) 24 2 .i64 Tryz.underlying24 hi0 Ab L.length cb k q5 (by omega) hroom
  have hrA := Kd.C_drop (m := k.toNat) (c := cb) hC hkl hroom
  have hrB := Kd.C_take (m := k.toNat) hC hkl
  have hrC := Kd.C_take (m := hN) HH2.out hhl
  obtain ⟨A5, hA5⟩ : ∃ A, A = (if cb = k.toNat then Ab else (Ab : Option Addr).map (·.add (k.toNat * 1))) := ⟨_, rfl⟩
  obtain ⟨c5, hc5⟩ : ∃ c, c = cb - k.toNat := ⟨_, rfl⟩
  obtain ⟨X, hX⟩ : ∃ X, X = L.drop k.toNat := ⟨_, rfl⟩
  obtain ⟨Y, hY⟩ : ∃ Y, Y = L.take k.toNat := ⟨_, rfl⟩
  obtain ⟨Z, hZ⟩ : ∃ Z, Z = head.take hN := ⟨_, rfl⟩
  have hlX : X.length = L.length - k.toNat := by rw [hX, List.length_drop]
  have hlY : Y.length = k.toNat := by rw [hY, List.length_take]; omega
  have hlZ : Z.length = hN := by rw [hZ, List.length_take]; omega
  rw [← hA5, ← hc5, ← hlX] at hcutA
  rw [← hlY] at hcutB
  have hcutC : ∀ W : World, (Instr.slice 24 (.slice A0 head.length c0) none (some (.int .i64 (hN : Int))) none).run Tryz.prog W = .ok (.slice A0 Z.length c0) W := fun W => by rw [hlZ]; exact cut_to (P := Tryz.prog) 24 2 .i64 Tryz.underlying24 hi0 A0 head.length c0 (hN : Int) (by omega) (by omega) HC0.out W
  have HRA := Lib.hid (show Kd.C (Kd.int .i64) w2 A5 X.length X from by rw [hA5, hX]; exact hrA)
  have HRB := Lib.hid (show Kd.C (Kd.int .i64) w2 Ab Y.length Y from by rw [hY]; exact hrB)
  have HRZ := Lib.hid (show Kd.C (Kd.int .i64) w2 A0 Z.length Z from by rw [hZ]; exact hrC)
  have HX := Lib.hid hX
  have HY := Lib.hid hY
  have HZ := Lib.hid hZ
  have HXY := Lib.hid (show X.length + Y.length = L.length by omega)
  have HZl := Lib.hid hlZ
  obtain ⟨R, hRe⟩ : ∃ R, R = X ++ Y := ⟨_, rfl⟩
  have HRL := Lib.hid (show R.length ≤ 4096 by rw [hRe, List.length_append]; have := HLq.out; omega)
  have HRE := Lib.hid hRe
  clear hRe
  have hg1 : decide ((hN : Int) > 4096) = false := decide_eq_false (by have := HLH.out; omega)
  have hg2 : decide ((4096 : Int) < hN) = false := decide_eq_false (by have := HLH.out; omega)
  have HBD := Lib.hid (show ∀ o, Below w2.heap.size w2 ((w2.drewN n).drew.alloc o) from fun o => by repeat (first | exact Below.refl _ _ | apply zd | apply za | apply ze))
  clear hke hte hNe hhl q5 q6 hroom hC hkl hi0 hsz hrA hrB hrC hA5 hc5 hX hY hZ hlX hlY hlZ HRN
  go_wp2_with fail
  apply wp_ex2 (I := fun v W6 => Kd.R (Kd.int .i64) 2 W6 (W.heap.size + 1) (fun _ => True) v R ∧ Below w2.heap.size w2 W6)
  ·refine wp_region_any (by kernel_rfl) ?_
   (refine wpAny_take (i := 0) (v := ?_) rfl (by kernel_rfl) (by kernel_rfl) (by kernel_rfl) (fun _ _ _ h => h) (Or.inl ⟨by kernel_rfl, ?_⟩) ?_; rotate_left; (intro w; go_simp); (try with_reducible rfl))
   (refine wpAny_take (i := 1) (v := ?_) rfl (by kernel_rfl) (by kernel_rfl) (by kernel_rfl) (fun _ _ _ h => h) (Or.inl ⟨by kernel_rfl, ?_⟩) ?_; rotate_left; (intro w; go_simp); (try with_reducible rfl))
   (refine wpAny_take (i := 2) rfl (by kernel_rfl) (by kernel_rfl) (by kernel_rfl) (fun _ _ _ h => h) (Or.inl ⟨by kernel_rfl, exec_slice Tryz.underlying24 rfl (by kernel_rfl) (by kernel_rfl) (by kernel_rfl) hcutA⟩) ?_)
   (refine wpAny_take (i := 3) (v := ?_) rfl (by kernel_rfl) (by kernel_rfl) (by kernel_rfl) (fun _ _ _ h => h) (Or.inl ⟨by kernel_rfl, ?_⟩) ?_; rotate_left; (intro w; go_simp); (try with_reducible rfl))
   (refine wpAny_take (i := 4) (v := ?_) rfl (by kernel_rfl) (by kernel_rfl) (by kernel_rfl) (fun _ _ _ h => h) (Or.inl ⟨by kernel_rfl, ?_⟩) ?_; rotate_left; (intro w; go_simp); (try with_reducible rfl))
   (refine wpAny_take (i := 5) rfl (by kernel_rfl) (by kernel_rfl) (by kernel_rfl) (fun _ _ _ h => h) (Or.inl ⟨by kernel_rfl, exec_slice Tryz.underlying24 rfl (by kernel_rfl) (by kernel_rfl) (by kernel_rfl) hcutB⟩) ?_)
   refine wpAny_ready (rs := [6]) (by kernel_rfl) (by simp) ?_
   refine AllReady.cons rfl (fun K hK => ?_) AllReady.nil
   go_simp
   refine hK _ _ ?_
   refine wpAny_ready (rs := [7]) (by kernel_rfl) (by simp) ?_
   refine AllReady.cons rfl (fun K1 hK1 => ?_) AllReady.nil
   go_simp
   go_wp2_with (go_at_call 121; refine (concat_any _ _ A5 Ab c5 cb X Y _ ?k0 ?k1 ?h0 ?h1 ?hp ?hl).mono ?_; (case k0 => exact (zg (zwa _ _) 0).trans rfl); (case k1 => exact (zg (zwa _ _) 1).trans rfl); (case h0 => exact Kd.zu HRA.out (HBD.out _)); (case h1 => exact Kd.zu HRB.out (HBD.out _)); (case hp => (rw [HXY.out]; exact HLp.out)); (case hl => (rw [HXY.out]; have := HLq.out; omega)); rintro e w3 ⟨v, rfl, hR, hB⟩; dsimp only)
   (refine wpAny_take (i := 8) (v := ?_) rfl (by kernel_rfl) (by kernel_rfl) (by kernel_rfl) (fun _ _ _ h => h) (Or.inl ⟨by kernel_rfl, ?_⟩) ?_; rotate_left; (intro w; go_simp); (try with_reducible rfl))
   refine wpAny_done (by kernel_rfl) ?_ _
   (try simp only [Act.put, List.setIfInBounds_toArray, List.set_cons_zero, List.set_cons_succ, List.getElem_toArray, List.getElem_cons_zero, List.getElem_cons_succ])
   exact ⟨_, rfl, by rw [HRE.out]; exact Kd.zxa hR (by have := zja HBK.out; simp; omega), (HBD.out _).trans (hB.mono (by simp))⟩
  rintro vc W6 ⟨hRc, hBc⟩
  obtain ⟨Ac, cc, rfl⟩ := Kd.zoa hRc
  have hg3 : decide ((R.length : Int) > 4096) = false := decide_eq_false (by have := HRL.out; omega)
  have hg4 : decide ((4096 : Int) < (R.length : Int)) = false := decide_eq_false (by have := HRL.out; omega)
  have HBK6 := Lib.hid ((hBc.block _ (zja HBK.out)).trans HBK.out)
  have HH6 := Lib.hid (Kd.zu HRZ.out hBc)
  have HRC := Lib.hid hRc
  have HBC := Lib.hid hBc
  clear hRc hBc hcutA hcutB
  go_wp2_with fail
  refine (clone_any A0 c0 Z _ HH6.out (by have := HZl.out; have := HLH.out; have := HNL.out; omega)).mono ?_
  rintro e w7 ⟨vd, rfl, hRd, hBd⟩
  obtain ⟨Ad, cd, rfl⟩ := Kd.zoa hRd
  have hbk7 := (hBd.block _ (zja HBK6.out)).trans HBK6.out
  have HRd := Lib.hid hRd
  have HBD := Lib.hid hBd
  have HBK7 := Lib.hid hbk7
  have x0 : w7.cell? ⟨W.heap.size, 0, none⟩ = some (.slice none 0 0) := (zg hbk7 0).trans rfl
  have x1 : w7.cell? ⟨W.heap.size, 1, none⟩ = some (.slice none 0 0) := (zg hbk7 1).trans rfl
  have y0 := zf hbk7 0
  have y1 := zf hbk7 1
  clear hRd hBd hbk7
  dsimp only
  go_wp2_with fail
  have eZ : (shortW head round).f0 = Z := by rw [HZ.out, HNE.out, HL.out]; rfl
  have eR : (shortW head round).f1 = R := by rw [HRE.out, HX.out, HY.out, HKE.out, HTE.out, HNE.out, HL.out]; rfl
  have hs1 := zrb (zrb HBK7.out 0 (.slice Ad Z.length cd)) 1 (.slice Ac R.length cc)
  have r0 : ((w7.setCell ⟨W.heap.size, 0, none⟩ (.slice Ad Z.length cd)).setCell ⟨W.heap.size, 1, none⟩ (.slice Ac R.length cc)).cell? ⟨W.heap.size, 0, none⟩ = some (.slice Ad Z.length cd) := (zg hs1 0).trans rfl
  have r1 : ((w7.setCell ⟨W.heap.size, 0, none⟩ (.slice Ad Z.length cd)).setCell ⟨W.heap.size, 1, none⟩ (.slice Ac R.length cc)).cell? ⟨W.heap.size, 1, none⟩ = some (.slice Ac R.length cc) := (zg hs1 1).trans rfl
  have hb0 : W.heap.size < W6.heap.size := zja HBK6.out
  have hf : Kd.R (Kd.int .i64) 2 ((w7.setCell ⟨W.heap.size, 0, none⟩ (.slice Ad Z.length cd)).setCell ⟨W.heap.size, 1, none⟩ (.slice Ac R.length cc)) W.heap.size (fun _ => True) (.slice Ad Z.length cd) Z := Kd.zxa (Kd.zra (Kd.R_far (Kd.R_far (Kd.zcb HRd.out) (fun k hk => by have := hk.2.1; show k ≠ W.heap.size; omega) _) (fun k hk => by have := hk.2.1; show k ≠ W.heap.size; omega) _) (fun _ _ => trivial)) (by omega)
  have hg : Kd.R (Kd.int .i64) 2 ((w7.setCell ⟨W.heap.size, 0, none⟩ (.slice Ad Z.length cd)).setCell ⟨W.heap.size, 1, none⟩ (.slice Ac R.length cc)) W.heap.size (fun _ => True) (.slice Ac R.length cc) R := Kd.zxa (Kd.zra (Kd.R_far (Kd.R_far (Kd.zcb (Kd.zga HRC.out HBD.out)) (fun k hk => by have := hk.2.1; show k ≠ W.heap.size; omega) _) (fun k hk => by have := hk.2.1; show k ≠ W.heap.size; omega) _) (fun _ _ => trivial)) (by omega)
  have hB9 : Below W.heap.size W ((w7.setCell ⟨W.heap.size, 0, none⟩ (.slice Ad Z.length cd)).setCell ⟨W.heap.size, 1, none⟩ (.slice Ac R.length cc)) := (((HBW.out.trans (HBC.out.mono (by have := zja HBK.out; omega))).trans (HBD.out.mono (by omega))).setCell (Nat.le_refl _) _).setCell (Nat.le_refl _) _
  clear hs1 x0 x1 y0 y1
  exact bodyPost_ret (v := .tuple #[.agg #[.slice Ad Z.length cd, .slice Ac R.length cc], .int .i64 0]) (by simp [results, Tryz.results85, go_sem, r0, r1]) rfl ⟨_, _, rfl, by rw [eZ]; exact hf, by rw [eR]; exact hg, hB9⟩
end Go.Proofs.YtfondhcppjkchaaGreat.Q
