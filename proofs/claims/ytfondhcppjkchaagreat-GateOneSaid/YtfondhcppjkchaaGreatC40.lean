import Derived.Test.YtfondhcppjkchaaGreatC39
import Derived.Deep.RegionHeld3
set_option maxHeartbeats 40000000
set_option maxRecDepth 100000
set_option linter.unusedVariables false
set_option linter.unusedSimpArgs false
namespace Go.Proofs.YtfondhcppjkchaaGreat.Q
open Go.RowKit Go.Proofs.YtfondhcppjkchaaGreatW.PrintWords Go.Proofs.YtfondhcppjkchaaGreatW.PrintLast
open Go.Proofs.YtfondhcppjkchaaGreatW.PrintMore
theorem turnsS_inv {es : List Edge} {costs : List Int} {k : Nat} {t : Int} {m mF : AL} {late : Bool} (h : turnsS es costs k t m = some (late, mF)) : ∃ k', k = k' + 1 ∧ keysIn costs.length (roundS es m).1 = true ∧ (((roundS es m).2 = false ∧ late = false ∧ mF = (roundS es m).1) ∨ ((roundS es m).2 = true ∧ shortS costs (roundS es m).1 = true ∧ late = true) ∨ ((roundS es m).2 = true ∧ shortS costs (roundS es m).1 = false ∧ wrap64 (((roundS es m).1.length : Int) + 1) < t ∧ late = true) ∨ ((roundS es m).2 = true ∧ shortS costs (roundS es m).1 = false ∧ ¬ wrap64 (((roundS es m).1.length : Int) + 1) < t ∧ turnsS es costs k' (wrap64 (t + 1)) (roundS es m).1 = some (late, mF))) := by
 cases k with
 | zero => cases h
 | succ k =>
  unfold turnsS at h
  by_cases h1 : keysIn costs.length (roundS es m).1 = true
  ·rw [if_pos h1] at h
   refine ⟨k, rfl, h1, ?_⟩
   by_cases h2 : (roundS es m).2 = true
   ·rw [if_pos h2] at h
    by_cases h3 : shortS costs (roundS es m).1 = true
    ·rw [if_pos h3] at h
     injection h with h
     injection h with h4 h5
     exact .inr (.inl ⟨h2, h3, h4.symm⟩)
    ·rw [if_neg h3] at h
     have h3' := Bool.eq_false_iff.mpr h3
     by_cases h6 : wrap64 (((roundS es m).1.length : Int) + 1) < t
     ·rw [if_pos h6] at h
      injection h with h
      injection h with h4 h5
      exact .inr (.inr (.inl ⟨h2, h3', h6, h4.symm⟩))
     ·rw [if_neg h6] at h
      exact .inr (.inr (.inr ⟨h2, h3', h6, h⟩))
   ·rw [if_neg h2] at h
    injection h with h
    injection h with h4 h5
    exact .inl ⟨Bool.eq_false_iff.mpr h2, h4.symm, h5.symm⟩
  ·rw [if_neg h1] at h
   cases h
theorem adjTask_inv {l : List S78} {p h : Int} {m : AL} {out out2 : List S27} {i : Int} (ht : adjTask l p h m out i = some out2) :
  ∃ hd n e, countL p h (zj l i).f0.f0 (zj l i).f0.f1 = some (hd, n, e) ∧ 0 ≤ hd ∧ 0 ≤ n ∧ hd + n ≤ 1073741823 ∧ out2 = out ++ [normS (headS m i hd.toNat) (roundL m i hd.toNat n.toNat)] := by
 unfold adjTask at ht
 obtain ⟨⟨hd, n, e⟩, hc, ht⟩ := Option.bind_eq_some_iff.mp ht
 simp only at ht
 by_cases hb : 0 ≤ hd ∧ 0 ≤ n ∧ hd + n ≤ 1073741823
 ·rw [if_pos hb] at ht
  injection ht with ht
  exact ⟨hd, n, e, hc, hb.1, hb.2.1, hb.2.2, ht.symm⟩
 ·rw [if_neg hb] at ht
  cases ht
theorem adjust_go (f : Nat) (A0 : Option Addr) (c0 : Nat) (l : List S78) (A1 : Option Addr) (c1 : Nat) (ins : List S68) (A2 : Option Addr) (c2 : Nat) (costs : List Int) (w : World) (h0 : Kd.C k78 w A0 l.length l) (hc0 : l.length ≤ c0) (h1 : Kd.C k68 w A1 ins.length ins) (hc1 : ins.length ≤ c1) (h2 : Kd.C (Kd.int .i64) w A2 costs.length costs) (r1 : List S27) (r2 : Int) (h : adjustS f l ins costs = some (r1, r2)) :
  Calls Tryz.prog 23 #[.slice A0 l.length c0, .slice A1 ins.length c1, .slice A2 costs.length c2] w fun e w' => ∃ v0, e = .returned (.tuple #[v0, .int .i64 r2]) ∧ Kd.S k27 27 w' w.heap.size (fun _ => True) v0 r1 ∧ Below w.heap.size w w' := by
 unfold adjustS at h
 obtain ⟨⟨e9, D⟩, ho, h'⟩ := Option.bind_eq_some_iff.mp h
 clear h
 have h := h'
 clear h'
 simp only at h
 by_cases he : e9 = 0
 ·subst he
  rw [if_pos rfl] at h
  have HG := Lib.hid (fun W (hW : Below w.heap.size w W) => (due_of.calls f A0 c0 l A1 c1 ins A2 c2 costs 0 D W (Kd.zu h0 hW) hc0 (Kd.zu h1 hW) hc1 (Kd.zu h2 hW) ho).mono fun _ _ q => OfPost.good q)
  have H0 := Lib.hid h0
  have H2 := Lib.hid h2
  obtain ⟨⟨late, mF⟩, ht, h'⟩ := Option.bind_eq_some_iff.mp h
  clear h
  have h := h'
  clear h'
  simp only at h
  have HT := Lib.hid ht
  have HR := Lib.hid h
  clear ho h0 hc0 h1 hc1 h2 ht h
  go_enter Tryz.func23, Tryz.ntmps23
  go_wp2_with (first | (go_at_call 39; with_reducible refine (HG.out _ ?_).mono ?_; (focus exact Below.refl _ _); rintro e' w1 ⟨B0, bm, v, rfl, hv⟩; have HV := Lib.hid hv; clear hv))
  go_loopg [10] f (fun fq v10 W1 => ∃ (t : Int) (m : AL), v10 = .int .i64 t ∧ turnsS D.es costs fq t m = some (late, mF) ∧ Plan w ⟨B0, A0, c0, l, D.p, D.h, A2, c2, costs, bm⟩ m D.es W1)
  case atStart => exact ⟨0, D.m, rfl, HT.out, _, HV.out⟩
  case round =>
   clear HV HT
   obtain ⟨t, m, rfl, htn, hp⟩ := hrel
   obtain ⟨k', rfl, hki, hor⟩ := turnsS_inv htn
   have HRD := round_any w ⟨B0, A0, c0, l, D.p, D.h, A2, c2, costs, bm⟩ m D.es wr hp
   have HSF := Lib.hid (fun W (hW : Plan w ⟨B0, A0, c0, l, D.p, D.h, A2, c2, costs, bm⟩ (roundS D.es m).1 D.es W) => short_any w ⟨B0, A0, c0, l, D.p, D.h, A2, c2, costs, bm⟩ (roundS D.es m).1 D.es W hW H2.out hki)
   simp only at HSF
   clear htn hp hki
   generalize roundS D.es m = S2 at HRD HSF hor
   obtain ⟨m2, on⟩ := S2
   simp only at HRD hor HSF
   rcases hor with ⟨rfl, hl, hm⟩ | ⟨rfl, hsh, hl⟩ | ⟨rfl, hsh, hlt, hl⟩ | ⟨rfl, hsh, hlt, htn⟩
   ·subst hl hm
    have HRH := Lib.hid HRD
    clear HRD
    go_wp2_with (first | (go_at_call 42; refine HRH.out.mono ?_; rintro e' w4 ⟨rfl, hp4⟩; have HP4 := Lib.hid hp4; clear hp4))
    have hr := HR.out
    cases hsh : shortS costs mF with
    | true =>
     rw [if_pos (.inr hsh)] at hr
     injection hr with hr
     injection hr with hr1 hr2
     subst hr1 hr2
     have HS5 := Lib.hid ((HSF.out _ HP4.out).mono fun _ _ q => q)
     rw [hsh] at HS5
     clear hsh
     refine HS5.out.mono ?_
     rintro e' w5 ⟨rfl, v5, hv5⟩
     have HV5 := Lib.hid hv5
     clear hv5
     dsimp only
     go_wp2
     go_ret2
     exact ⟨_, rfl, Kd.S_nil _ _ _ _ _, HV5.out.bel⟩
    | false =>
     rw [if_neg (by rw [hsh]; simp)] at hr
     by_cases hll : l.length ≤ 1073741823
     ·rw [if_pos hll] at hr
      obtain ⟨outF, hadj, hr'⟩ := Option.bind_eq_some_iff.mp hr
      injection hr' with hr'
      injection hr' with hr1 hr2
      subst hr1 hr2
      have HAD := Lib.hid hadj
      have HLL := Lib.hid hll
      have HS5 := Lib.hid ((HSF.out _ HP4.out).mono fun _ _ q => q)
      rw [hsh] at HS5
      clear hsh hadj hr hll HR HSF HP4
      refine HS5.out.mono ?_
      rintro e' W9 ⟨rfl, v9, hv9⟩
      have HV9 := Lib.hid hv9
      clear hv9 HS5
      dsimp only
      go_wp2
      go_loopw [11, 49] (fun v11 v49 W1 => ∃ (x : Int) (out : List S27), v49 = .int .i64 x ∧ 0 ≤ x ∧ x ≤ l.length ∧ adjTasks l D.p D.h mF x.toNat = some out ∧ (out.length : Int) = x ∧ Kd.S k27 27 W1 W9.heap.size (fun _ => True) v11 out ∧ Below W9.heap.size W9 W1) (fun _ v49 _ => l.length - (intOf v49).toNat)
      case atStart => exact ⟨0, [], rfl, by omega, by omega, rfl, rfl, Kd.S_nil _ _ _ _ _, Below.refl _ _⟩
      case round =>
       obtain ⟨x, out, rfl, x0, x1, htx, hol, hS, hb⟩ := hrel
       have HS := Lib.hid hS
       have HB := Lib.hid hb
       have HOL := Lib.hid hol
       clear hS hol
       by_cases hlt : x < (l.length : Int)
       ·obtain ⟨out2, hs2⟩ := adjTasks_prefix HAD.out (x.toNat + 1) (by omega)
        have htk : adjTask l D.p D.h mF out x = some out2 := by
         have hs3 : (adjTasks l D.p D.h mF x.toNat).bind (fun o => adjTask l D.p D.h mF o ((x.toNat : Nat) : Int)) = some out2 := hs2
         rw [htx] at hs3
         simp only [Option.bind_some] at hs3
         rw [show ((x.toNat : Nat) : Int) = x by omega] at hs3
         exact hs3
        obtain ⟨hd, n, e9, hct, hd0, hn0, hb9, ho2⟩ := adjTask_inv htk
        have hbw := HV9.out.bel.trans (hb.mono HV9.out.bel.size)
        obtain ⟨ad, A5, c5, rfl, g0', g1', g2', g3', g4', g5', g6', -, -⟩ := zeb (Kd.zu H0.out hbw) x x0 hlt
        have HS2 := Lib.hid (show adjTasks l D.p D.h mF (x + 1).toNat = some out2 by rw [show (x + 1).toNat = x.toNat + 1 by omega]; exact hs2)
        have HCT := Lib.hid (fun W => countL_calls D.p D.h (zj l x).f0.f0 (zj l x).f0.f1 hd n e9 W hct)
        have HO2 := Lib.hid ho2
        have hv1 := HV9.out.grow hb
        have k1 := hv1.k1
        have k2 := hv1.k2
        have c := decide_eq_true hlt
        have j0 := eq_true x0
        have j1 := eq_true hlt
        clear htx htk hs2 hct hb hbw ho2
        generalize hT : zj l x = T at g0' g1' g2' g3' g4' g5' g6' HCT
        clear hT
        have hB0 : B0 < wr.heap.size := World.block_lt_of_cell? wr _ k1
        have HV1 := Lib.hid hv1
        clear hv1
        go_wp2_with fail
        have hb2 := (Below.refl wr.heap.size wr).alloc (Nat.le_refl _) (.cells #[.int .i64 T.f0.f0, .int .i64 T.f0.f1, .int .i64 T.f1, .int .i64 T.f2, .int .i64 T.f3, .slice A5 T.f4.length c5, .int .i64 T.f5] 78)
        have d0 : (wr.alloc (.cells #[.int .i64 T.f0.f0, .int .i64 T.f0.f1, .int .i64 T.f1, .int .i64 T.f2, .int .i64 T.f3, .slice A5 T.f4.length c5, .int .i64 T.f5] 78)).cell? ⟨wr.heap.size, 0, none⟩ = some (.int .i64 T.f0.f0) := (zg (zwa wr _) 0).trans rfl
        have d1 : (wr.alloc (.cells #[.int .i64 T.f0.f0, .int .i64 T.f0.f1, .int .i64 T.f1, .int .i64 T.f2, .int .i64 T.f3, .slice A5 T.f4.length c5, .int .i64 T.f5] 78)).cell? ⟨wr.heap.size, 1, none⟩ = some (.int .i64 T.f0.f1) := (zg (zwa wr _) 1).trans rfl
        have k1' := keepc hb2 k1
        have k2' := keepc hb2 k2
        have HB2 := Lib.hid hb2
        have HV2 := Lib.hid (HV1.out.grow hb2)
        clear g0' g1' g2' g3' g4' g5' g6' k1 k2 hb2 j0 j1 c
        have hB2 : B0 < (wr.alloc (.cells #[.int .i64 T.f0.f0, .int .i64 T.f0.f1, .int .i64 T.f1, .int .i64 T.f2, .int .i64 T.f3, .slice A5 T.f4.length c5, .int .i64 T.f5] 78)).heap.size := by simp; omega
        generalize wr.alloc (.cells #[.int .i64 T.f0.f0, .int .i64 T.f0.f1, .int .i64 T.f1, .int .i64 T.f2, .int .i64 T.f3, .slice A5 T.f4.length c5, .int .i64 T.f5] 78) = W2 at d0 d1 k1' k2' HB2 HV2 hB2 ⊢
        generalize hT9 : wr.heap.size = T9 at d0 d1 HB2 ⊢
        have HT9 := Lib.hid hT9
        clear hT9
        have HI := Lib.hid ((Below.refl W2.heap.size W2).drew)
        apply wp_ex (I := fun W6 => Below W2.heap.size W2 W6)
        ·go_region_held3 (fun w' => w'.cell? ⟨B0, 1, none⟩ = some (.int .i64 D.p) ∧ w'.cell? ⟨B0, 2, none⟩ = some (.int .i64 D.h) ∧ w'.cell? ⟨T9, 0, none⟩ = some (.int .i64 T.f0.f0) ∧ w'.cell? ⟨T9, 1, none⟩ = some (.int .i64 T.f0.f1))
          (first | exact ⟨keepc HI.out k1', keepc HI.out k2', keepc HI.out d0, keepc HI.out d1⟩ | go_keep)
          (first | (go_at_call 34; with_reducible refine (HCT.out _).mono ?_; rintro e w6 ⟨rfl, hb6⟩; have HI := Lib.hid (HI.out.trans (hb6.mono HI.out.size)); clear hb6; dsimp only))
         (try simp only [Act.put, List.setIfInBounds_toArray, List.set_cons_zero, List.set_cons_succ, List.getElem_toArray, List.getElem_cons_zero, List.getElem_cons_succ])
         all_goals exact ⟨rfl, HI.out⟩
        intro W6 hb6
        have hb2t : Below wr.heap.size wr W2 := by rw [HT9.out]; exact HB2.out
        have hb6' : Below wr.heap.size wr W6 := hb2t.trans (hb6.mono hb2t.size)
        have HV6 := Lib.hid (HV2.out.grow hb6)
        have HB9 := Lib.hid (HB.out.trans (hb6'.mono HB.out.size))
        have HSO := Lib.hid (fun W' (hW : Below W6.heap.size W6 W') => Kd.S_old HS.out (hb6'.trans (hW.mono hb6'.size)))
        have HVL := Lib.hid (Kd.S_lt HS.out)
        have hlo : wr.heap.size ≤ W6.heap.size := hb6'.size
        have HLO := Lib.hid hlo
        have hwr : IntKind.i64.wrap (hd + n) = hd + n := IntWalk.i64_in _ ⟨by omega, by omega⟩
        have HH := Lib.hid (⟨hd0, hn0, hb9, x0, x1, hlt⟩ : 0 ≤ hd ∧ 0 ≤ n ∧ hd + n ≤ 1073741823 ∧ 0 ≤ x ∧ x ≤ l.length ∧ x < l.length)
        clear HI HCT k1' k2' d0 d1 hb6 hb6' hb2t HB2 HV2 HS hlo hd0 hn0 hb9 x0 x1 hlt HB hB2 hB0 HV1 HT9
        go_wp2_with fail
        clear hwr
        have HWM := Lib.hid (Wd.made W6)
        go_loopw [68] (fun v68 W7 => ∃ (k : Int) (N : Nat) (v0 v1 : Value), v68 = .int .i64 k ∧ 0 ≤ k ∧ k ≤ hd + n ∧ ((k ≤ hd ∧ v1 = .slice none 0 0 ∧ Wd W6 (headS mF x k.toNat) [] N v0 v1 W7) ∨ (hd ≤ k ∧ Wd W6 (headS mF x hd.toNat) (roundL mF x hd.toNat (k - hd).toNat) N v0 v1 W7))) (fun v68 _ => (hd + n - intOf v68).toNat)
        case atStart => exact ⟨0, _, _, _, rfl, by omega, by have := HH.out; omega, .inl ⟨HH.out.1, rfl, HWM.out⟩⟩
        case round =>
         clear HWM
         obtain ⟨k, N, v0, v1, rfl, y0, y1, hor⟩ := hrel
         by_cases hlt3 : k < hd + n
         ·by_cases hlt4 : k < hd
          ·have hwd : Wd W6 (headS mF x k.toNat) [] N v0 v1 wr ∧ v1 = .slice none 0 0 := by
            rcases hor with ⟨_, h1, h2⟩ | ⟨h1, _⟩
            ·exact ⟨h2, h1⟩
            ·omega
           obtain ⟨hwd, rfl⟩ := hwd
           clear hor
           have hx := HH.out
           obtain ⟨v', W7, ⟨A8, c8, hv8⟩, hr7, hc7, hf7, N', hwd'⟩ := (hwd.grow (Below.refl _ _).drew).put0 (mF.get (x, k)) (by rw [headS_len]; omega)
           rw [headS_len] at hv8
           subst hv8
           have hr7' : (Builtin.append_ #[24, 24] 24 #[v0, .slice (some ⟨wr.heap.size, 0, none⟩) 1 1]).run Tryz.prog (wr.drew.alloc (.cells #[.int .i64 (mF.get (x, k))] 2)) = .ok (.slice A8 (k.toNat + 1) c8) W7 := hr7
           have hv7 := HV6.out.grow hwd.bel
           have HL : (Instr.lookup 97 (.map (some bm)) (.agg #[.int .i64 x, .int .i64 k]) false).run Tryz.prog wr.drew = .ok (.int .i64 (mF.get (x, k))) wr.drew := hv7.drew.map.lookup (x, k)
           have k4 := hv7.k4
           have q0 := hwd.c0
           have hXs : W6.heap.size < wr.heap.size := World.block_lt_of_cell? wr _ q0
           have hBs : B0 < wr.heap.size := World.block_lt_of_cell? wr _ k4
           have HWD' := Lib.hid hwd'
           have cc := decide_eq_true hlt3
           have cd := decide_eq_true hlt4
           have HY := Lib.hid (⟨y0, y1, hlt3, hlt4⟩ : 0 ≤ k ∧ k ≤ hd + n ∧ k < hd + n ∧ k < hd)
           clear hx hr7 hv7 hwd hwd' y0 y1 hlt3 hlt4
           go_wp2_with fail
           apply wp_ex (I := fun W8 => W8 = W7.setCell ⟨W6.heap.size, 0, none⟩ (.slice A8 (k.toNat + 1) c8))
           ·go_region_law (refine step_append_run rfl (.tmp 75) (.tmp 84) 24 24 rfl rfl _ _ (.slice A8 (k.toNat + 1) c8) W7 (by simp [Act.eval, Act.put]) (by simp [Act.eval, Act.put]) hr7' ?_)
            all_goals exact ⟨rfl, rfl⟩
           rintro W8 rfl
           generalize W7.setCell ⟨W6.heap.size, 0, none⟩ (.slice A8 (k.toNat + 1) c8) = W8 at HWD' ⊢
           clear hr7' hc7 hf7 HL k4 q0 cc cd hXs hBs
           have hk1 : IntKind.i64.wrap (k + 1) = k + 1 := IntWalk.i64_in _ ⟨by have := HY.out; omega, by have := HY.out; have := HH.out; omega⟩
           go_wp2_with fail
           go_roundw
           case rel => exact ⟨k + 1, N', _, _, rfl, by have := HY.out; omega, by have := HY.out; omega, .inl ⟨by have := HY.out; omega, rfl, by rw [show (k + 1).toNat = k.toNat + 1 by have := HY.out; omega, headS_succ, show ((k.toNat : Nat) : Int) = k by have := HY.out; omega]; exact HWD'.out⟩⟩
           case measure => have := HY.out; simp [intOf]; omega
          ·have hwd : Wd W6 (headS mF x hd.toNat) (roundL mF x hd.toNat (k - hd).toNat) N v0 v1 wr := by
            rcases hor with ⟨h1, h2, h3⟩ | ⟨_, h1⟩
            ·have e : k = hd := by omega
             subst e
             rw [show (k - k).toNat = 0 by omega, h2]
             rw [h2] at h3
             exact h3
            ·exact h1
           clear hor
           have hx := HH.out
           obtain ⟨v', W7, ⟨A8, c8, hv8⟩, hr7, hc7, hf7, hwd'⟩ := (hwd.grow (Below.refl _ _).drew).put1 (mF.get (x, k)) (by rw [roundL_len]; omega)
           rw [roundL_len] at hv8
           subst hv8
           have hr7' : (Builtin.append_ #[24, 24] 24 #[v1, .slice (some ⟨wr.heap.size, 0, none⟩) 1 1]).run Tryz.prog (wr.drew.alloc (.cells #[.int .i64 (mF.get (x, k))] 2)) = .ok (.slice A8 ((k - hd).toNat + 1) c8) W7 := hr7
           have hv7 := HV6.out.grow hwd.bel
           have HL : (Instr.lookup 97 (.map (some bm)) (.agg #[.int .i64 x, .int .i64 k]) false).run Tryz.prog wr.drew = .ok (.int .i64 (mF.get (x, k))) wr.drew := hv7.drew.map.lookup (x, k)
           have k4 := hv7.k4
           have q0 := hwd.c1
           have hXs : W6.heap.size < wr.heap.size := World.block_lt_of_cell? wr _ q0
           have hBs : B0 < wr.heap.size := World.block_lt_of_cell? wr _ k4
           have HWD' := Lib.hid hwd'
           have cc := decide_eq_true hlt3
           have cd := decide_eq_false hlt4
           have HY := Lib.hid (⟨y0, y1, hlt3, by omega⟩ : 0 ≤ k ∧ k ≤ hd + n ∧ k < hd + n ∧ hd ≤ k)
           clear hx hr7 hv7 hwd hwd' y0 y1 hlt3 hlt4
           go_wp2_with fail
           apply wp_ex (I := fun W8 => W8 = W7.setCell ⟨W6.heap.size, 1, none⟩ (.slice A8 ((k - hd).toNat + 1) c8))
           ·go_region_law (refine step_append_run rfl (.tmp 88) (.tmp 97) 24 24 rfl rfl _ _ (.slice A8 ((k - hd).toNat + 1) c8) W7 (by simp [Act.eval, Act.put]) (by simp [Act.eval, Act.put]) hr7' ?_)
            all_goals exact ⟨rfl, rfl⟩
           rintro W8 rfl
           generalize W7.setCell ⟨W6.heap.size, 1, none⟩ (.slice A8 ((k - hd).toNat + 1) c8) = W8 at HWD' ⊢
           clear hr7' hc7 hf7 HL k4 q0 cc cd hXs hBs
           have hk1 : IntKind.i64.wrap (k + 1) = k + 1 := IntWalk.i64_in _ ⟨by have := HY.out; omega, by have := HY.out; have := HH.out; omega⟩
           go_wp2_with fail
           go_roundw
           case rel => exact ⟨k + 1, N, _, _, rfl, by have := HY.out; omega, by have := HY.out; omega, .inr ⟨by have := HY.out; omega, by rw [show (k + 1 - hd).toNat = (k - hd).toNat + 1 by have := HY.out; omega, roundL_succ, show ((hd.toNat + (k - hd).toNat : Nat) : Int) = k by have := HY.out; have := HH.out; omega]; exact HWD'.out⟩⟩
           case measure => have := HY.out; simp [intOf]; omega
         ·have hx := HH.out
          have hwd : Wd W6 (headS mF x hd.toNat) (roundL mF x hd.toNat n.toNat) N v0 v1 wr := by
           rcases hor with ⟨h1, h2, h3⟩ | ⟨_, h1⟩
           ·have e : k = hd := by omega
            have e2 : n.toNat = 0 := by omega
            subst e
            rw [e2, h2]
            rw [h2] at h3
            exact h3
           ·rw [show n.toNat = (k - hd).toNat by omega]; exact h1
          clear hor
          have R0 : Kd.R (Kd.int .i64) 2 wr (W6.heap.size + 1) (fun _ => True) v0 (headS mF x hd.toNat) := Kd.zmb hwd.o0 (fun _ _ => trivial)
          have R1 : Kd.R (Kd.int .i64) 2 wr W6.heap.size (fun _ => True) v1 (roundL mF x hd.toNat n.toNat) := Kd.zxa (Kd.zmb hwd.o1 (fun _ _ => trivial)) (by have := hwd.hN; omega)
          obtain ⟨Ax, cx, rfl⟩ := Kd.zoa R0
          obtain ⟨Ay, cy, rfl⟩ := Kd.zoa R1
          have NM := Lib.hid (norm_any Ax cx _ _ (fun _ => True) _ W6 wr hwd.bel (Kd.R_reads' R0).2.2 (Kd.R_reads' R0).2.1 R1)
          have q0 := hwd.c0
          have q1 := hwd.c1
          have HWD := Lib.hid hwd
          have cc := decide_eq_false hlt3
          clear hx R0 R1 hwd hlt3 y0 y1
          go_wp2_with fail
          refine NM.out.mono ?_
          rintro e' W8 ⟨u0, u1, en, rfl, hu0, hu1, hb8⟩
          obtain ⟨X0, z0, rfl⟩ := Kd.zoa hu0
          obtain ⟨X1, z1, rfl⟩ := Kd.zoa hu1
          have q0 := keepc hb8 q0
          have q1 := keepc hb8 q1
          have hX8 : W6.heap.size < wr.heap.size := World.block_lt_of_cell? wr _ HWD.out.c0
          have f0 := ((bcell hb8).2 _ 0 hX8).trans HWD.out.f0
          have f1 := ((bcell hb8).2 _ 1 hX8).trans HWD.out.f1
          have HU0 := Lib.hid hu0
          have HU1 := Lib.hid hu1
          have HB8 := Lib.hid hb8
          have hbA : Below W6.heap.size W6 ((W8.setCell ⟨W6.heap.size, 0, none⟩ (.slice X0 (normS (headS mF x hd.toNat) (roundL mF x hd.toNat n.toNat)).f0.length z0)).setCell ⟨W6.heap.size, 1, none⟩ (.slice X1 (normS (headS mF x hd.toNat) (roundL mF x hd.toNat n.toNat)).f1.length z1)) := ((HWD.out.bel.trans (hb8.mono HWD.out.bel.size)).setCell (Nat.le_refl _) _).setCell (Nat.le_refl _) _
          have hmv : ∀ {v : Value} {xs : List Int}, Kd.R (Kd.int .i64) 2 W8 wr.heap.size (fun _ => True) v xs → Kd.R (Kd.int .i64) 2 ((W8.setCell ⟨W6.heap.size, 0, none⟩ (.slice X0 (normS (headS mF x hd.toNat) (roundL mF x hd.toNat n.toNat)).f0.length z0)).setCell ⟨W6.heap.size, 1, none⟩ (.slice X1 (normS (headS mF x hd.toNat) (roundL mF x hd.toNat n.toNat)).f1.length z1)) W9.heap.size (fun k => wr.heap.size ≤ k) v xs := fun h => Kd.zxa (Kd.zra (Kd.R_far (Kd.R_far (Kd.zcb h) (fun k hk => by have := hk.2.1; show k ≠ W6.heap.size; omega) _) (fun k hk => by have := hk.2.1; show k ≠ W6.heap.size; omega) _) (fun _ hk => hk.2.1)) (by have := HB9.out.size; omega)
          have HMP := Lib.hid (k27_mkM _ W9.heap.size (fun k => wr.heap.size ≤ k) (normS (headS mF x hd.toNat) (roundL mF x hd.toNat n.toNat)) (hmv hu0) (hmv hu1))
          have HHO := Lib.hid (Kd.S_mono (ok' := fun k => True ∧ ¬ wr.heap.size ≤ k) (HSO.out _ hbA) (fun k hk => ⟨trivial, by have := hk.2; have := HLO.out; omega⟩))
          have HHB := Lib.hid (HB9.out.trans (hbA.mono HB9.out.size))
          have HOK := Lib.hid (show ∀ k, wr.heap.size ≤ k → True ∧ some k ≠ u11.ownBlock from fun k hk => ⟨trivial, fun e => by have := HVL.out k e.symm; have := HLO.out; omega⟩)
          have HLN := Lib.hid (show (out.length + 1) * 48 ≤ 140737488355328 by have := HOL.out; have := HLL.out; have := HH.out; omega)
          have HFN := Lib.hid (show adjTasks l D.p D.h mF (x + 1).toNat = some (out ++ [normS (headS mF x hd.toNat) (roundL mF x hd.toNat n.toNat)]) by rw [HS2.out, HO2.out])
          clear hu0 hu1 hb8 NM hX8 hbA hmv
          dsimp only
          generalize normS (headS mF x hd.toNat) (roundL mF x hd.toNat n.toNat) = Z at HMP HFN HHO HHB ⊢
          go_wp2_with (first | (at_builtin; go_loud (refine Kd.S_append (w0 := W9) k27 W9.heap.size rfl (.tmp 106) (.tmp 108) 25 27 (.agg #[.slice none 0 0, .slice none 0 0]) 48 rfl Tryz.underlying25 info27 rfl (by decide) (by decide) _ out Z _ (fun _ => True) (fun k => wr.heap.size ≤ k) rfl (by first | rfl | (simp [Act.eval, World.setCell]; done) | (simp [World.setCell]; rfl)) HMP.out HOK.out (fun _ _ => trivial) HHO.out HHB.out HHB.out.size HLN.out ?_; intro v1 W11 hS11 hB11 hg11 hat11; have HS11 := Lib.hid hS11; have HB11 := Lib.hid hB11; clear hS11 hB11 hg11 hat11)))
          have hx1 : wrap64 (x + 1) = x + 1 := zsa (by unfold I64; have := HH.out; have := HLL.out; omega)
          go_roundw
          case rel => exact ⟨x + 1, _, by rw [hx1], by have := HH.out; omega, by have := HH.out; omega, HFN.out, by rw [List.length_append]; have := HOL.out; simp; omega, HS11.out, HB11.out⟩
          case measure => have := HH.out; simp only [intOf, hx1]; omega
       ·have e : x.toNat = l.length := by omega
        rw [e, HAD.out] at htx
        cases htx
        have c := decide_eq_false hlt
        clear hlt
        go_wp2_with fail
        go_ret2
        exact ⟨_, rfl, Kd.S_lower HS.out HV9.out.bel.size, HV9.out.bel.trans (HB.out.mono HV9.out.bel.size)⟩
     ·rw [if_neg hll] at hr
      cases hr
   ·subst hl
    have HRH := Lib.hid HRD
    have HSH := Lib.hid hsh
    clear HRD hsh
    have hr := HR.out
    rw [if_pos (.inl rfl)] at hr
    injection hr with hr
    injection hr with hr1 hr2
    subst hr1 hr2
    go_wp2_with (first | (go_at_call 42; refine HRH.out.mono ?_; rintro e' w4 ⟨rfl, hp4⟩; have HP4 := Lib.hid hp4; clear hp4) | (go_at_call 41; refine (HSF.out _ HP4.out).mono ?_; rw [HSH.out]; rintro e' w5 ⟨rfl, v5, hv5⟩; have HV5 := Lib.hid hv5; clear hv5))
    go_ret2
    exact ⟨_, rfl, Kd.S_nil _ _ _ _ _, HV5.out.bel⟩
   ·subst hl
    have HRH := Lib.hid HRD
    have HSH := Lib.hid hsh
    clear HRD hsh
    have hr := HR.out
    rw [if_pos (.inl rfl)] at hr
    injection hr with hr
    injection hr with hr1 hr2
    subst hr1 hr2
    have cw : IntKind.i64.wrap ((m2.length : Int) + 1) = wrap64 ((m2.length : Int) + 1) := i64_w _
    have cd := decide_eq_true hlt
    generalize wrap64 ((m2.length : Int) + 1) = lw at cw cd hlt
    have cd' : decide (t > lw) = true := cd
    clear hlt
    go_wp2_with (first | (go_at_call 42; refine HRH.out.mono ?_; rintro e' w4 ⟨rfl, hp4⟩; have HP4 := Lib.hid hp4; clear hp4) | (go_at_call 41; refine (HSF.out _ HP4.out).mono ?_; rw [HSH.out]; rintro e' w5 ⟨rfl, v5, hv5⟩; have k4 := hv5.k4; have hlen := hv5.map.len 3; have HV5 := Lib.hid hv5; clear hv5))
    go_ret2
    exact ⟨_, rfl, Kd.S_nil _ _ _ _ _, HV5.out.bel⟩
   ·have HRH := Lib.hid HRD
    have HSH := Lib.hid hsh
    have HTN := Lib.hid htn
    clear HRD hsh htn
    have cw : IntKind.i64.wrap ((m2.length : Int) + 1) = wrap64 ((m2.length : Int) + 1) := i64_w _
    have cd := decide_eq_false hlt
    generalize wrap64 ((m2.length : Int) + 1) = lw at cw cd hlt
    have cd' : decide (t > lw) = false := cd
    clear hlt
    go_wp2_with (first | (go_at_call 42; refine HRH.out.mono ?_; rintro e' w4 ⟨rfl, hp4⟩; have HP4 := Lib.hid hp4; clear hp4) | (go_at_call 41; refine (HSF.out _ HP4.out).mono ?_; rw [HSH.out]; rintro e' w5 ⟨rfl, v5, hv5⟩; have k4 := hv5.k4; have hlen := hv5.map.len 3; have HV5 := Lib.hid hv5; clear hv5))
    go_roundg k'
    case measure => omega
    case rel => exact ⟨_, m2, rfl, HTN.out, _, HV5.out⟩
 ·rw [if_neg he] at h
  injection h with h
  injection h with h3 h4
  subst h3 h4
  have HG := Lib.hid (fun W (hW : Below w.heap.size w W) => (due_of.calls f A0 c0 l A1 c1 ins A2 c2 costs e9 D W (Kd.zu h0 hW) hc0 (Kd.zu h1 hW) hc1 (Kd.zu h2 hW) ho).mono fun _ _ q => OfPost.bad q he)
  have d0 : (e9 != 0) = true := bne_iff_ne.mpr he
  clear ho h0 hc0 h1 hc1 h2
  go_enter Tryz.func23, Tryz.ntmps23
  go_wp2_with (first | (go_at_call 39; with_reducible refine (HG.out _ ?_).mono ?_; (focus exact Below.refl _ _); rintro e' w1 ⟨rfl, hb⟩; have HB := Lib.hid hb; clear hb))
  go_ret2
  exact ⟨_, rfl, Kd.S_nil _ _ _ _ _, HB.out⟩
theorem due_Adjust.calls (A0 : Option Addr) (c0 : Nat) (l : List S78) (A1 : Option Addr) (c1 : Nat) (ins : List S68) (A2 : Option Addr) (c2 : Nat) (costs : List Int) (r1 : List S27) (r2 : Int) (w : World) (h0 : Kd.C k78 w A0 l.length l) (hc0 : l.length ≤ c0) (h1 : Kd.C k68 w A1 ins.length ins) (hc1 : ins.length ≤ c1) (h2 : Kd.C (Kd.int .i64) w A2 costs.length costs) (hc2 : costs.length ≤ c2) (h : due_Adjust.f l ins costs = some (r1, r2)) :
  Calls Tryz.prog 23 #[.slice A0 l.length c0, .slice A1 ins.length c1, .slice A2 costs.length c2] w fun e w' => ∃ v0, e = .returned (.tuple #[v0, .int .i64 r2]) ∧ Kd.S k27 27 w' w.heap.size (fun _ => True) v0 r1 ∧ Below w.heap.size w w' := by
 obtain ⟨f, hf⟩ := zob h
 exact adjust_go f A0 c0 l A1 c1 ins A2 c2 costs w h0 hc0 h1 hc1 h2 r1 r2 hf
end Go.Proofs.YtfondhcppjkchaaGreat.Q
