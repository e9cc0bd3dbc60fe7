import Derived.Test.YtfondhcppjkchaaGreatC29
import Derived.Deep.RegionHeld3
import Derived.Deep.RegionLaw
set_option maxHeartbeats 40000000
set_option maxRecDepth 100000
set_option linter.unusedVariables false
set_option linter.unusedSimpArgs false
namespace Go.Proofs.YtfondhcppjkchaaGreat.Q
open Go.RowKit Go.Proofs.YtfondhcppjkchaaGreatW.PrintWords Go.Proofs.YtfondhcppjkchaaGreatW.PrintLast
open Go.Proofs.YtfondhcppjkchaaGreatW.PrintMore
theorem needs_any (w : World) (P : Pl) (m : AL) (es : List Edge) (v : Value) (W : World) (hv : PlanV w P m es v W) (h0 : Kd.C k78 w P.A0 P.l.length P.l) (h2 : Kd.C (Kd.int .i64) w P.A2 P.costs.length P.costs) (i n t : Int) (hi0 : 0 ≤ i) (hi1 : i < P.l.length) (hi2 : i < P.costs.length) (es' : List Edge) (early : Bool) (h : needsS P.l P.p P.h P.costs i n t es = some (es', early)) :
  Calls Tryz.prog 72 #[.pointer (some ⟨P.B, 0, none⟩), .int .i64 i, .int .i64 n, .int .i64 t] W fun e W' => e = .returned (.bool early) ∧ ∃ v', PlanV w P m es' v' W' ∧ Mv P v v' W W' := by
 unfold needsS at h
 obtain ⟨⟨xs, er⟩, hn, hf⟩ := Option.bind_eq_some_iff.mp h
 simp only at hf
 clear h
 obtain ⟨ad, A5, c5, had, g0, g1, g2, g3, g4, g5, g6, hc5, hC5⟩ := zeb (Kd.zu h0 hv.bel) i hi0 hi1
 have HN := Lib.hid (fun W2 (hW : Below W.heap.size W W2) => needL_calls (zj P.l i) t A5 c5 xs er W2 (Kd.zu hC5 hW) hc5 hn)
 have k0 := hv.k0
 rw [had] at k0
 have hBW := World.block_lt_of_cell? W _ k0
 have HVL := Lib.hid (fun k (hk : v.ownBlock = some k) => (hv.own.lt k hk).2)
 have HAD := Lib.hid had
 have HBM := Lib.hid hv.map.lt
 have HF := Lib.hid hf
 have H0 := Lib.hid h0
 have H2 := Lib.hid h2
 have HV := Lib.hid hv
 clear hn hf had h0 h2 hv hC5 hc5
 have e0 := eq_true hi0
 have e1 := eq_true hi1
 go_enter Tryz.func72, Tryz.ntmps72
 go_wp2_with (first | (go_at_call 110; refine (HN.out _ ?_).mono ?_; (focus exact Below.refl _ _); rintro e w1 ⟨A', c', rfl, hC, hb⟩; have hlen : xs.length ≤ 9223372036854775807 := (Kd.R_reads' hC).2.2.2.1; have HV1 := Lib.hid (HV.out.grow hb); have HMV := Lib.hid (Mv.of_below (P := P) v hb); have HC := Lib.hid hC; have hsz := hb.size; clear hb hC))
 clear k0 g0 g1 g2 g3 g4 g5 g6 e0 e1
 go_loopw [8, 35] (fun v8 v35 W1 => ∃ (x : Int) (es1 : List Edge) (b1 : Bool), v35 = .int .i64 x ∧ 0 ≤ x ∧ x ≤ xs.length ∧ v8 = .bool b1 ∧ (xs.take x.toNat).foldlM (needStep P.l P.p P.h P.costs i n t) (es, false) = some (es1, b1) ∧ NeedAt w P m v w1 es1 W1) (fun _ v35 _ => xs.length - (intOf v35).toNat)
 case atStart => exact ⟨0, es, false, rfl, by omega, by omega, rfl, rfl, ⟨_, HV1.out, Mv.refl _ _⟩⟩
 case round =>
  clear HV1 HN HV
  obtain ⟨x, es1, b1, rfl, h0, h1, rfl, hf1, hN⟩ := hrel
  by_cases hlt : x < (xs.length : Int)
  ·have HR1 := Kd.R_move (Kd.zcb HC.out) (fun k hk => by
    obtain ⟨vv, hvv, hmv⟩ := hN.pl
    have hbm := HBM.out
    exact hmv.keep k hk.2.2.1 (by have := hk.2.1; omega) (by have := hk.2.1; omega) (fun e => by have := HVL.out k e; have := hk.2.1; omega))
   obtain ⟨ad1, rfl, x0, x1, x2, x3⟩ := at_T174 (Kd.R_reads' HR1).2.2 x h0 hlt
   have HX := Lib.hid (rd174_take xs x h0 hlt)
   have hst : ∃ es2 b2, needStep P.l P.p P.h P.costs i n t (es1, b1) (zlb xs x) = some (es2, b2) := by
    have hF := HF.out
    rw [← List.take_append_drop (x + 1).toNat xs, HX.out, List.append_assoc] at hF
    obtain ⟨s1, q1, q2⟩ := foldlM_split _ _ _ _ _ hF
    rw [hf1] at q1
    cases q1
    obtain ⟨⟨a1, a2⟩, q3, _⟩ := Option.bind_eq_some_iff.mp q2
    exact ⟨a1, a2, q3⟩
   have hnx : ∀ es2 b2, needStep P.l P.p P.h P.costs i n t (es1, b1) (zlb xs x) = some (es2, b2) → (xs.take (x + 1).toNat).foldlM (needStep P.l P.p P.h P.costs i n t) (es, false) = some (es2, b2) := by
    intro es2 b2 hq
    rw [HX.out, List.foldlM_append, hf1]
    show (List.foldlM (needStep P.l P.p P.h P.costs i n t) (es1, b1) [zlb xs x]) = _
    simp [hq]
   have HNX := Lib.hid hnx
   clear hnx hf1 HR1 HX
   generalize zlb xs x = X at x0 x1 x2 x3 hst HNX
   have HS := Lib.hid hst
   have HW := Lib.hid hN
   clear hst hN
   have c := decide_eq_true hlt
   have j0 := eq_true h0
   have j1 := eq_true hlt
   by_cases hk : X.f0 = 2
   ·have hkb : (X.f0 != 2) = false := by simpa using hk
    have HK := Lib.hid hk
    clear hk
    obtain ⟨es2, b2, hst⟩ := HS.out
    have HNX2 := Lib.hid (HNX.out _ _ hst)
    obtain ⟨hN0, hN1, hl9, h9, p9, e9, k9, d9, f9, hct, hfd, hes, hb2⟩ := needStep_inv hst HK.out
    obtain ⟨v1, hv1, ho1⟩ := HW.out.pl
    obtain ⟨ad2, A6, c6, had2, y0, y1, y2, y3, y4, y5, y6, hc6, hC6⟩ := zeb (Kd.zu H0.out hv1.bel) X.f1 hN0 hN1
    have k0 := hv1.k0
    rw [HAD.out] at had2
    cases had2
    rw [HAD.out] at k0
    have hBr := World.block_lt_of_cell? wr _ k0
    have hY := World.block_lt_of_cell? wr _ y0
    have HCT := Lib.hid (fun W => countL_calls P.p P.h (zj P.l X.f1).f0.f0 (zj P.l X.f1).f0.f1 h9 p9 e9 W hct)
    have HFD := Lib.hid (fun W => unfold_Fold.calls P.p P.h (zj P.l X.f1).f0.f0 (zj P.l X.f1).f0.f1 X.f3 k9 d9 f9 W hfd)
    have HES := Lib.hid hes
    have HB9 := Lib.hid hb2
    have HL9 := Lib.hid hl9
    have HVX := Lib.hid (fun k (hk : v1.ownBlock = some k) => (hv1.own.lt k hk).2)
    have HV1 := Lib.hid hv1
    have HO1 := Lib.hid ho1
    clear hct hfd hst hl9 hv1 ho1 hC6 hc6 HS HNX hes hb2
    have q0 := eq_true hN0
    have q1 := eq_true hN1
    go_wp2
    have hbx : ∀ i u, (#[.int .u8 X.f0, .int .i64 X.f1, .int .i64 X.f2, .int .i64 X.f3] : Array Value)[i]? = some u → (wr.alloc (.cells #[.int .u8 X.f0, .int .i64 X.f1, .int .i64 X.f2, .int .i64 X.f3] 174)).cell? ⟨wr.heap.size, i, none⟩ = some u := fun i u hu => by
     rw [cell_of_row _ _ _ _ _ _ (heap_alloc_new wr _)]; exact hu
    have b1c := hbx 1 (.int .i64 X.f1) rfl
    have b3c := hbx 3 (.int .i64 X.f3) rfl
    have HB2 := Lib.hid ((Below.refl wr.heap.size wr).alloc (Nat.le_refl _) (.cells #[.int .u8 X.f0, .int .i64 X.f1, .int .i64 X.f2, .int .i64 X.f3] 174))
    have k0' := keepc HB2.out k0
    have y0' := keepc HB2.out y0
    have y1' := keepc HB2.out y1
    have hX2 : wr.heap.size < (wr.alloc (.cells #[.int .u8 X.f0, .int .i64 X.f1, .int .i64 X.f2, .int .i64 X.f3] 174)).heap.size := by simp
    have hY2 : (ad.add (X.f1.toNat * 7)).block < (wr.alloc (.cells #[.int .u8 X.f0, .int .i64 X.f1, .int .i64 X.f2, .int .i64 X.f3] 174)).heap.size := by simp; omega
    have hBB : P.B < (wr.alloc (.cells #[.int .u8 X.f0, .int .i64 X.f1, .int .i64 X.f2, .int .i64 X.f3] 174)).heap.size := by simp; omega
    clear k0 y0 y1 y2 y3 y4 y5 y6 x0 x1 x2 x3 hbx
    generalize wr.alloc (.cells #[.int .u8 X.f0, .int .i64 X.f1, .int .i64 X.f2, .int .i64 X.f3] 174) = W2 at b1c b3c HB2 k0' y0' y1' hX2 hY2 hBB ⊢
    have HV2 := Lib.hid (HV1.out.grow HB2.out)
    have HW2 := Lib.hid (HW.out.grow HB2.out)
    clear HV1 HB2 HW
    generalize wr.heap.size = X9 at b1c b3c hX2 hBr hY HVX ⊢
    generalize hu : (zj P.l X.f1).f0 = u at y0' y1' HCT HFD HES
    have HU := Lib.hid hu
    clear hu
    apply wp_ex (I := fun W3 => W3 = W2.drew.alloc (.cells #[.int .i64 u.f0, .int .i64 u.f1] 68))
    ·go_region
     all_goals exact ⟨rfl, rfl⟩
    rintro W3 rfl
    have HB3 := Lib.hid ((Below.refl W2.heap.size W2).drew.alloc (Nat.le_refl _) (.cells #[.int .i64 u.f0, .int .i64 u.f1] 68))
    have hcx : ∀ i v, (#[.int .i64 u.f0, .int .i64 u.f1] : Array Value)[i]? = some v → (W2.drew.alloc (.cells #[.int .i64 u.f0, .int .i64 u.f1] 68)).cell? ⟨W2.heap.size, i, none⟩ = some v := fun i v hv => by
     rw [show W2.heap.size = W2.drew.heap.size from rfl, cell_of_row _ _ _ _ _ _ (heap_alloc_new W2.drew _)]; exact hv
    have c0c := hcx 0 (.int .i64 u.f0) rfl
    have c1c := hcx 1 (.int .i64 u.f1) rfl
    have b1d := keepc HB3.out b1c
    have b3d := keepc HB3.out b3c
    have k0 := keepc HB3.out k0'
    have k1 := keepc HB3.out HV2.out.k1
    have k2 := keepc HB3.out HV2.out.k2
    have hX3 : W2.heap.size < (W2.drew.alloc (.cells #[.int .i64 u.f0, .int .i64 u.f1] 68)).heap.size := by simp
    have HV3 := Lib.hid (HV2.out.grow HB3.out)
    have HW3 := Lib.hid (HW2.out.grow HB3.out)
    clear k0' y0' y1' hY2 hY hcx b1c b3c HV2 HW2 HB3 q0 q1
    generalize W2.drew.alloc (.cells #[.int .i64 u.f0, .int .i64 u.f1] 68) = W3 at c0c c1c b1d b3d k0 k1 k2 hX3 HV3 HW3 ⊢
    generalize W2.heap.size = Y9 at c0c c1c hX3 hX2 hBB ⊢
    go_wp2
    apply wp_ex (I := fun W4 => NeedAt w P m v w1 es1 W4 ∧ Below W3.heap.size W3 W4)
    ·go_region_with (go_at_call 34; with_reducible refine (HCT.out _).mono ?_; rintro e w5 ⟨rfl, hb5⟩; have HI := Lib.hid (And.intro (HW3.out.drew.grow hb5) ((Below.refl _ _).drew.trans hb5)); clear hb5)
     all_goals exact ⟨rfl, HI.out⟩
    rintro W4 ⟨hW4, hb4⟩
    have c0d := keepc hb4 c0c
    have c1d := keepc hb4 c1c
    have b3e := keepc hb4 b3d
    have B1 := Lib.hid (keepc hb4 b1d)
    have k0e := keepc hb4 k0
    have k1e := keepc hb4 k1
    have k2e := keepc hb4 k2
    have k3e := keepc hb4 HV3.out.k3
    have K5 := Lib.hid (keepc hb4 HV3.out.k5)
    have hX4 : Y9 < W4.heap.size := Nat.lt_of_lt_of_le hX3 hb4.size
    have HW4 := Lib.hid hW4
    have HB4 := Lib.hid hb4
    clear c0c c1c b1d b3d k0 k1 k2 hb4 hW4 HW3
    go_wp2
    apply wp_ex (I := fun W5 => NeedAt w P m v w1 es1 W5 ∧ Below W4.heap.size W4 W5)
    ·go_region_with (go_at_call 111; with_reducible refine (HFD.out _).mono ?_; rintro e w5 ⟨rfl, hb5⟩; have HI := Lib.hid (And.intro (HW4.out.drew.grow hb5) ((Below.refl _ _).drew.trans hb5)); clear hb5)
     all_goals exact ⟨rfl, HI.out⟩
    rintro W5 ⟨hW5, hb5⟩
    have hbel5 : Below w.heap.size w W5 := by
     obtain ⟨v5, hv5, _⟩ := hW5.pl
     exact hv5.bel
    obtain ⟨ad3, A7, c7, had3, z0, z1, z2, z3, z4, z5, z6, hc7, hC7⟩ := zeb (Kd.zu H0.out hbel5) i hi0 hi1
    obtain ⟨ad4, had4, zc⟩ := Kd.zya (Kd.zu H2.out hbel5) i hi0 hi2
    have c0e := keepc hb5 c0d
    have c1e := keepc hb5 c1d
    have b3f := keepc hb5 b3e
    have b1g := keepc hb5 B1.out
    have k0f := keepc hb5 k0e
    have k3f := keepc hb5 k3e
    have K5 := Lib.hid (keepc hb5 K5.out)
    rw [HAD.out] at had3
    cases had3
    rw [had4] at k3f
    have HW5 := Lib.hid hW5
    have hX5 : Y9 < W5.heap.size := Nat.lt_of_lt_of_le hX4 hb5.size
    have HAD4 := Lib.hid had4
    clear c0d c1d b3e k0e k1e k2e k3e z2 z3 z4 z5 z6 hc7 hC7 hb5 hW5 HW4 hbel5 had4
    generalize hu' : (zj P.l i).f0 = o at z0 z1 HES
    have HO' := Lib.hid hu'
    clear hu'
    generalize hrc : rd P.costs i = cst at zc HES
    have HRC := Lib.hid hrc
    clear hrc
    have r0 := eq_true hi0
    have r1 := eq_true hi1
    have r2 := eq_true hi2
    go_wp2
    have HI := Lib.hid (And.intro HW5.out.drew ((Below.refl W5.heap.size W5).drew))
    apply wp_ex (I := fun W6 => NeedAt w P m v w1 es1 W6 ∧ Below W5.heap.size W5 W6)
    ·go_region_held3 (fun w' => w'.cell? ⟨P.B, 0, none⟩ = some (.slice (some ad) P.l.length P.c0) ∧ w'.cell? ⟨P.B, 3, none⟩ = some (.slice (some ad4) P.costs.length P.c2) ∧ w'.cell? (ad.add (i.toNat * 7)) = some (.int .i64 o.f0) ∧ w'.cell? ⟨(ad.add (i.toNat * 7)).block, (ad.add (i.toNat * 7)).off + 1, none⟩ = some (.int .i64 o.f1) ∧ w'.cell? (ad4.add i.toNat) = some (.int .i64 cst) ∧ w'.cell? ⟨Y9, 0, none⟩ = some (.int .i64 u.f0) ∧ w'.cell? ⟨Y9, 1, none⟩ = some (.int .i64 u.f1) ∧ w'.cell? ⟨X9, 3, none⟩ = some (.int .i64 X.f3))
      (first | go_keep | exact ⟨keepc HI.out.2 k0f, keepc HI.out.2 k3f, keepc HI.out.2 z0, keepc HI.out.2 z1, keepc HI.out.2 zc, keepc HI.out.2 c0e, keepc HI.out.2 c1e, keepc HI.out.2 b3f⟩)
      (first | (go_at_call 112; with_reducible refine (due_date.calls _ _ _ _ _ (ddate_run _ _ _)).mono ?_; rintro e w6 ⟨rfl, hb6⟩; have HI := Lib.hid (And.intro (HI.out.1.grow hb6) (HI.out.2.trans (hb6.mono HI.out.2.size))); clear hb6))
     all_goals exact ⟨rfl, HI.out⟩
    rintro W6 ⟨hW6, hb6⟩
    obtain ⟨mo, hmo⟩ : ∃ mo, IntKind.i64.wrap (IntKind.i64.wrap (wrap64 (o.f1 + wrap64 (t * o.f0)) - wrap64 (u.f1 + wrap64 (X.f3 * u.f0))) - cst) = mo := ⟨_, rfl⟩
    rw [hmo]
    have HMO := Lib.hid (show wrap64 (wrap64 (ddate o t - ddate u X.f3) - cst) = mo by rw [← hmo, i64_w, i64_w]; rfl)
    clear hmo
    have K5 := keepc hb6 K5.out
    obtain ⟨v6, hv6, ho6⟩ := hW6.pl
    have hvv : v6 = v1 := by
     have := hv6.k5
     rw [K5] at this
     injection this with this
     exact this.symm
    subst hvv
    have b1h := keepc hb6 b1g
    have b3h := keepc hb6 b3f
    obtain ⟨v', W7, ⟨A8, c8, hv8⟩, hr7, c7, f7, hW8, hk8⟩ := NeedAt.put hv6 ho6 ⟨(X.f1, k9), (i, n), mo⟩ HL9.out
    subst hv8
    have b3i := (hk8 X9 3 (World.block_lt_of_cell? W6 _ b3h) (by omega) (fun e => by have := HVX.out X9 e; omega)).trans b3h
    have hX6 := World.block_lt_of_cell? W6 _ b3h
    have hB6 := World.block_lt_of_cell? W6 _ K5
    have HW8 := Lib.hid hW8
    simp only at hr7
    have HSH := Lib.hid hv6.shape
    clear hW8 hk8 hb6 hW6 hv6 ho6 HI z0 z1 zc c0e c1e b3f k0f k3f b3h r0 r1 r2
    obtain ⟨A9, c9, hsh⟩ : ∃ A c, v6 = .slice A es1.length c := HSH.out
    subst hsh
    go_wp2
    apply wp_ex (I := fun W9 => W9 = W7.setCell ⟨P.B, 5, none⟩ (.slice A8 (es1.length + 1) c8))
    ·go_region_law (refine step_append_run rfl (.tmp 100) (.tmp 110) 98 98 rfl rfl _ _ (.slice A8 (es1.length + 1) c8) W7 (by simp [Act.eval, Act.put]) (by simp [Act.eval, Act.put]) hr7 ?_)
     all_goals exact ⟨rfl, rfl⟩
    rintro W9 rfl
    generalize W7.setCell ⟨P.B, 5, none⟩ (.slice A8 (es1.length + 1) c8) = W8 at HW8 b3i ⊢
    clear hr7 c7 f7 K5 b1h hX6 hB6
    have HFIN : (xs.take (x + 1).toNat).foldlM (needStep P.l P.p P.h P.costs i n t) (es, false) = some (es1 ++ [⟨(X.f1, k9), (i, n), mo⟩], b1 || decide (X.f3 < h9)) := by
     rw [HNX2.out, HES.out, HB9.out, HMO.out]
    have HFI := Lib.hid HFIN
    clear HFIN HMO HES HB9 HNX2
    have hoo := HO'.out
    subst hoo
    cases b1 with
    | true =>
     go_wp2
     go_roundw
     case rel => exact ⟨x + 1, _, _, by go_num, by omega, by omega, rfl, HFI.out, HW8.out⟩
     case measure => simp [intOf]; omega
    | false =>
     go_wp2
     go_roundw
     case rel => exact ⟨x + 1, _, _, by go_num, by omega, by omega, rfl, HFI.out, HW8.out⟩
     case measure => simp [intOf]; omega
   ·have hkb : (X.f0 != 2) = true := by simpa using hk
    have HK := Lib.hid hk
    clear hk
    go_wp2
    go_roundw
    case rel => exact ⟨x + 1, es1, b1, by go_num, by omega, by omega, rfl, HNX.out _ _ (by unfold needStep; rw [if_neg HK.out]), HW.out.alloc _⟩
    case measure => simp [intOf]; omega
  ·have e : x.toNat = xs.length := by omega
   rw [e, List.take_length, HF.out] at hf1
   cases hf1
   have HW := Lib.hid hN
   clear hN
   go_wp2
   go_ret
   obtain ⟨v', hv', hm'⟩ := HW.out.pl
   exact ⟨rfl, v', hv', HMV.out.trans hm'⟩
end Go.Proofs.YtfondhcppjkchaaGreat.Q
