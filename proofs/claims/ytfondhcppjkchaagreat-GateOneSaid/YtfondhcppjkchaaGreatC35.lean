import Derived.Test.YtfondhcppjkchaaGreatC31
import Derived.Test.YtfondhcppjkchaaGreatC34
import Derived.Test.YtfondhcppjkchaaGreatC20
import Derived.Deep.RegionHeld3
set_option maxHeartbeats 40000000
set_option maxRecDepth 100000
set_option linter.unusedVariables false
set_option linter.unusedSimpArgs false
namespace Go.Proofs.YtfondhcppjkchaaGreat.Q
open Go.RowKit Go.Proofs.YtfondhcppjkchaaGreatW.PrintWords Go.Proofs.YtfondhcppjkchaaGreatW.PrintLast
open Go.Proofs.YtfondhcppjkchaaGreatW.PrintMore
noncomputable def fitsFrom (l : List S78) (p h : Int) : Int → List S27 → Option Bool
 | _, [] => some true
 | i, d :: ds => (fitsS l p h i d.f0 d.f1).bind fun b => if b = true then fitsFrom l p h (i + 1) ds else some false
def atL (dues : List S27) (k : Key) : Option Int := (words_At.f (zna dues k.1).f0 (zna dues k.1).f1 k.2).map (·.1)
def atD (dues : List S27) (k : Key) : Int := (atL dues k).getD 0
def leftD (dues : List S27) (m : AL) : AL := m.map fun p => (p.1, atD dues p.1)
noncomputable def checkS (f : Nat) (l : List S78) (ins : List S68) (costs : List Int) (dues : List S27) : Option Int :=
 (due_of.f f l ins costs).bind fun r =>
  if r.1 = 0 then
   if dues.length = l.length then
    (fitsFrom l r.2.p r.2.h 0 dues).bind fun ok =>
     if ok = true then
      if keysIn dues.length r.2.m = true ∧ (r.2.m.all fun p => (atL dues p.1).isSome) = true then
       if (r.2.m.any fun p => decide (p.2 < atD dues p.1)) = true then some 160
       else if shortS costs (leftD dues r.2.m) = true ∨ (roundS r.2.es (leftD dues r.2.m)).2 = true then some 160 else some 0
      else none
     else some 2
   else some 2
  else some r.1
noncomputable def due_Check.f (l : List S78) (ins : List S68) (costs : List Int) (dues : List S27) : Option Int := lim fun f => checkS f l ins costs dues
def midD (dues : List S27) (m : AL) (left : List Key) : AL := m.map fun p => (p.1, if p.1 ∈ left then p.2 else atD dues p.1)
theorem midD_keys (dues : List S27) (m : AL) (left : List Key) : (midD dues m left).map (·.1) = m.map (·.1) := by
 unfold midD; rw [List.map_map]; rfl
theorem midD_all (dues : List S27) (m : AL) : midD dues m (m.map (·.1)) = m := by
 unfold midD
 conv => rhs; rw [← List.map_id m]
 apply List.map_congr_left
 intro p hp
 rw [if_pos (List.mem_map.2 ⟨p, hp, rfl⟩)]
 rfl
theorem midD_nil (dues : List S27) (m : AL) : midD dues m [] = leftD dues m := by
 unfold midD leftD
 apply List.map_congr_left
 intro p hp
 simp
theorem midD_put {dues : List S27} {m : AL} {left : List Key} {k : Key} (hk : k ∈ m.map (·.1)) : (midD dues m left).put k (atD dues k) = midD dues m (left.filter (· != k)) := by
 have hany : (midD dues m left).any (·.1 == k) = true := by
  rw [List.any_eq_true]
  have hk' : k ∈ (midD dues m left).map (·.1) := by rw [midD_keys]; exact hk
  obtain ⟨p, hp, e⟩ := List.mem_map.1 hk'
  exact ⟨p, hp, by simp [e]⟩
 unfold AL.put
 rw [if_pos hany]
 unfold midD
 rw [List.map_map]
 apply List.map_congr_left
 intro p hp
 simp only [Function.comp]
 by_cases e : p.1 = k
 ·rw [if_pos e, e, if_neg (by simp)]
 ·rw [if_neg e]
  have : (p.1 ∈ left.filter (· != k)) ↔ p.1 ∈ left := by simp [e]
  simp only [this]
theorem midD_get {dues : List S27} {m : AL} {left : List Key} {k : Key} {y : Int} (nd : (m.map (·.1)).Nodup) (hk : k ∈ left) (h : (k, y) ∈ midD dues m left) : (k, y) ∈ m := by
 obtain ⟨p, hp, e⟩ := List.mem_map.1 h
 injection e with e1 e2
 rw [e1, if_pos hk] at e2
 rw [← e1, ← e2]
 exact hp
theorem keysIn_mem {n : Nat} {m : AL} (h : keysIn n m = true) {k : Key} (hk : k ∈ m.map (·.1)) : 0 ≤ k.1 ∧ k.1 < (n : Int) := by
 obtain ⟨p, hp, e⟩ := List.mem_map.1 hk
 have := List.all_eq_true.1 h p hp
 rw [e] at this
 exact of_decide_eq_true this
theorem keysIn_keys {n : Nat} {m m' : AL} (h : keysIn n m = true) (e : m'.map (·.1) = m.map (·.1)) : keysIn n m' = true := by
 unfold keysIn
 rw [List.all_eq_true]
 intro p hp
 have : p.1 ∈ m.map (·.1) := by rw [← e]; exact List.mem_map.2 ⟨p, hp, rfl⟩
 exact decide_eq_true (keysIn_mem h this)
theorem fitsFrom_split {l : List S78} {p h : Int} : ∀ {ds : List S27} {i : Int} {b : Bool}, fitsFrom l p h i ds = some b → ∀ {d : S27} {rest : List S27}, ds = d :: rest → ∃ c, fitsS l p h i d.f0 d.f1 = some c ∧ ((c = true ∧ fitsFrom l p h (i + 1) rest = some b) ∨ (c = false ∧ b = false)) := by
 intro ds i b hf d rest e
 subst e
 unfold fitsFrom at hf
 obtain ⟨c, h1, h2⟩ := Option.bind_eq_some_iff.mp hf
 refine ⟨c, h1, ?_⟩
 cases c with
 | true => exact .inl ⟨rfl, by simpa using h2⟩
 | false => exact .inr ⟨rfl, by simpa using h2.symm⟩
theorem rd27_drop (ds : List S27) (x : Int) (h0 : 0 ≤ x) (h : x < ds.length) : ds.drop x.toNat = zna ds x :: ds.drop (x + 1).toNat := by
 have e : (x + 1).toNat = x.toNat + 1 := by omega
 have hl : x.toNat < ds.length := by omega
 rw [e, List.drop_eq_getElem_cons hl]
 congr 1
 unfold zna; rw [List.getD_eq_getElem?_getD, List.getElem?_eq_getElem hl]; rfl
theorem OfPost.bad {w : World} {A0 : Option Addr} {c0 : Nat} {l : List S78} {A2 : Option Addr} {c2 : Nat} {costs : List Int} {e : Int} {D : PlanD} {e' : Ending} {w' : World} (h : OfPost w A0 c0 l A2 c2 costs e D e' w') (he : e ≠ 0) : e' = .returned (.tuple #[.pointer none, .int .i64 e]) ∧ Below w.heap.size w w' := by
 unfold OfPost at h
 rcases h with ⟨_, h1, h2⟩ | ⟨h1, _⟩
 ·exact ⟨h1, h2⟩
 ·exact absurd h1 he
theorem OfPost.good {w : World} {A0 : Option Addr} {c0 : Nat} {l : List S78} {A2 : Option Addr} {c2 : Nat} {costs : List Int} {D : PlanD} {e' : Ending} {w' : World} (h : OfPost w A0 c0 l A2 c2 costs 0 D e' w') : ∃ B bm v, e' = .returned (.tuple #[.pointer (some ⟨B, 0, none⟩), .int .i64 0]) ∧ PlanV w ⟨B, A0, c0, l, D.p, D.h, A2, c2, costs, bm⟩ D.m D.es v w' := by
 unfold OfPost at h
 rcases h with ⟨h1, _⟩ | ⟨_, B, bm, h1, v, h2⟩
 ·exact absurd rfl h1
 ·exact ⟨B, bm, v, h1, h2⟩
theorem due_of_len {f : Nat} {l : List S78} {ins : List S68} {costs : List Int} {D : PlanD} (h : due_of.f f l ins costs = some (0, D)) : costs.length = l.length := by
 unfold due_of.f at h
 obtain ⟨⟨p, hy, eo⟩, ho, h⟩ := Option.bind_eq_some_iff.mp h
 simp only at h
 by_cases he : eo = 0
 ·rw [if_pos he] at h
  by_cases hl : costs.length = l.length
  ·exact hl
  ·rw [if_neg hl] at h
   injection h with h
   injection h with h3 h4
   cases h3
 ·rw [if_neg he] at h
  injection h with h
  injection h with h3 h4
  exact absurd h3 he
theorem atL_calls (dues : List S27) (k : Key) (A0 A1 : Option Addr) (c0 c1 : Nat) (W : World) (h0 : Kd.C (Kd.int .i64) W A0 (zna dues k.1).f0.length (zna dues k.1).f0) (hc0 : (zna dues k.1).f0.length ≤ c0) (h1 : Kd.C (Kd.int .i64) W A1 (zna dues k.1).f1.length (zna dues k.1).f1) (hc1 : (zna dues k.1).f1.length ≤ c1) (hs : (atL dues k).isSome = true) :
  ∃ e9, ∀ W', Below W.heap.size W W' → Calls Tryz.prog 25 #[.agg #[.slice A0 (zna dues k.1).f0.length c0, .slice A1 (zna dues k.1).f1.length c1], .int .i64 k.2] W' fun e w' => e = .returned (.tuple #[.int .i64 (atD dues k), .int .i64 e9]) ∧ Below W'.heap.size W' w' := by
 unfold atL at hs
 obtain ⟨⟨r1, r2⟩, hr⟩ : ∃ r, words_At.f (zna dues k.1).f0 (zna dues k.1).f1 k.2 = some r := by
  cases h : words_At.f (zna dues k.1).f0 (zna dues k.1).f1 k.2 with
  | none => rw [h] at hs; cases hs
  | some r => exact ⟨r, rfl⟩
 have e : atD dues k = r1 := by unfold atD atL; rw [hr]; rfl
 refine ⟨r2, fun W' hW => ?_⟩
 rw [e]
 exact words_At.calls A0 c0 _ A1 c1 _ k.2 r1 r2 W' (Kd.zu h0 hW) hc0 (Kd.zu h1 hW) hc1 hr
theorem check_go (f : Nat) (A0 : Option Addr) (c0 : Nat) (l : List S78) (A1 : Option Addr) (c1 : Nat) (ins : List S68) (A2 : Option Addr) (c2 : Nat) (costs : List Int) (A3 : Option Addr) (c3 : Nat) (dues : List S27) (w : World) (h0 : Kd.C k78 w A0 l.length l) (hc0 : l.length ≤ c0) (h1 : Kd.C k68 w A1 ins.length ins) (hc1 : ins.length ≤ c1) (h2 : Kd.C (Kd.int .i64) w A2 costs.length costs) (h3 : Kd.C k27 w A3 dues.length dues) (r : Int) (h : checkS f l ins costs dues = some r) :
  Calls Tryz.prog 14 #[.slice A0 l.length c0, .slice A1 ins.length c1, .slice A2 costs.length c2, .slice A3 dues.length c3] w fun e w' => e = .returned (.int .i64 r) ∧ Below w.heap.size w w' := by
 unfold checkS at h
 obtain ⟨⟨e9, D⟩, ho, h'⟩ := Option.bind_eq_some_iff.mp h
 clear h
 have h := h'
 clear h'
 simp only at h
 have HO := Lib.hid (fun W (hW : Below w.heap.size w W) => due_of.calls f A0 c0 l A1 c1 ins A2 c2 costs e9 D W (Kd.zu h0 hW) hc0 (Kd.zu h1 hW) hc1 (Kd.zu h2 hW) ho)
 have hdl : dues.length ≤ 9223372036854775807 := h3.2.1
 by_cases he : e9 = 0
 ·subst he
  rw [if_pos rfl] at h
  have HG := Lib.hid (fun W (hW : Below w.heap.size w W) => (due_of.calls f A0 c0 l A1 c1 ins A2 c2 costs 0 D W (Kd.zu h0 hW) hc0 (Kd.zu h1 hW) hc1 (Kd.zu h2 hW) ho).mono fun _ _ q => OfPost.good q)
  have H0 := Lib.hid h0
  have H2 := Lib.hid h2
  have H3 := Lib.hid h3
  have HCL := Lib.hid (due_of_len ho)
  clear HO ho h0 hc0 h1 hc1 h2 h3
  by_cases hl : dues.length = l.length
  ·rw [if_pos hl] at h
   obtain ⟨ok, hok, h'⟩ := Option.bind_eq_some_iff.mp h
   clear h
   have h := h'
   clear h'
   have d1 : ((dues.length : Int) != (l.length : Int)) = false := by rw [bne_eq_false_iff_eq]; omega
   have d2 : (dues.length != l.length) = false := by rw [bne_eq_false_iff_eq]; exact hl
   have HL := Lib.hid hl
   have HOK := Lib.hid hok
   have HR := Lib.hid h
   clear hl hok h
   go_enter Tryz.func14, Tryz.ntmps14
   go_wp2_with (first | (go_at_call 39; with_reducible refine (HG.out _ ?_).mono ?_; (focus exact Below.refl _ _); rintro e' w1 ⟨B0, bm, v, rfl, hv⟩; have HV := Lib.hid hv; clear hv))
   go_loopw [36] (fun v36 W1 => ∃ x : Int, v36 = .int .i64 x ∧ 0 ≤ x ∧ x ≤ dues.length ∧ fitsFrom l D.p D.h x (dues.drop x.toNat) = some ok ∧ PlanV w ⟨B0, A0, c0, l, D.p, D.h, A2, c2, costs, bm⟩ D.m D.es v W1) (fun v36 _ => dues.length - (intOf v36).toNat)
   case atStart => exact ⟨0, rfl, by omega, by omega, HOK.out, HV.out⟩
   case round =>
    clear HV
    obtain ⟨x, rfl, x0, x1, hfx, hv⟩ := hrel
    by_cases hlt : x < (dues.length : Int)
    ·obtain ⟨c, hfs, hor⟩ := fitsFrom_split hfx (rd27_drop dues x x0 hlt)
     obtain ⟨ad, X0, y0, X1, y1, rfl, g0, g1, hl0, hC0, hl1, hC1⟩ := at_T27 (Kd.zu H3.out hv.bel) x x0 hlt
     have hb2 := (Below.refl wr.heap.size wr).alloc (Nat.le_refl _) (.cells #[.slice X0 (zna dues x).f0.length y0, .slice X1 (zna dues x).f1.length y1] 27)
     have HF := Lib.hid (fits_any w ⟨B0, A0, c0, l, D.p, D.h, A2, c2, costs, bm⟩ D.m D.es v _ (hv.grow hb2) H0.out x x0 (by rw [← HL.out]; exact hlt) X0 X1 y0 y1 _ _ (Kd.zu hC0 hb2) hl0 (Kd.zu hC1 hb2) hl1 c hfs)
     have HV := Lib.hid hv
     have HB2 := Lib.hid hb2
     have cc := decide_eq_true hlt
     have j0 := eq_true x0
     have j1 := eq_true hlt
     clear hfx hfs hb2 hv hC0 hC1 hl0 hl1
     generalize zna dues x = T at g0 g1 HF HB2
     cases c with
     | true =>
      have hfn : fitsFrom l D.p D.h (x + 1) (dues.drop (x + 1).toNat) = some ok := by
       rcases hor with ⟨_, h1⟩ | ⟨h1, _⟩
       ·exact h1
       ·cases h1
      have HFN := Lib.hid hfn
      clear hor hfn
      go_wp2_with (first | (go_at_call 40; refine HF.out.mono ?_; rintro e' w3 ⟨rfl, hb3⟩; have HB3 := Lib.hid hb3; clear hb3))
      go_roundw
      case rel => exact ⟨x + 1, by go_num, by omega, by omega, HFN.out, (HV.out.grow HB2.out).grow HB3.out⟩
      case measure => simp [intOf]; omega
     | false =>
      have hfn : ok = false := by
       rcases hor with ⟨h1, _⟩ | ⟨_, h1⟩
       ·cases h1
       ·exact h1
      subst hfn
      clear hor
      have hr : r = 2 := by
       have := HR.out
       rw [if_neg (by decide)] at this
       injection this with this
       exact this.symm
      subst hr
      go_wp2_with (first | (go_at_call 40; refine HF.out.mono ?_; rintro e' w3 ⟨rfl, hb3⟩; have HB3 := Lib.hid hb3; clear hb3))
      go_ret
      exact ⟨rfl, ((HV.out.grow HB2.out).grow HB3.out).bel⟩
    ·have e : x.toNat = dues.length := by omega
     rw [e, List.drop_length] at hfx
     have hok : ok = true := by
      unfold fitsFrom at hfx
      injection hfx with hfx
      exact hfx.symm
     subst hok
     have hr := HR.out
     rw [if_pos rfl] at hr
     by_cases hki : keysIn dues.length D.m = true ∧ (D.m.all fun p => (atL dues p.1).isSome) = true
     ·rw [if_pos hki] at hr
      have HRR := Lib.hid hr
      have HKI := Lib.hid hki
      have HV := Lib.hid hv
      have k4 := hv.k4
      have hB0 : B0 < wr.heap.size := World.block_lt_of_cell? wr _ hv.k0
      have hbm : bm < wr.heap.size := hv.map.lt
      clear hr hki hv hfx HR e
      go_wp2_with (first | (at_range; refine wpList_range_key rfl _ rfl bm D.m rfl HV.out.map ?_; intro w0 hrg0 hg0 hs0))
      try go_frame
      have HVW := Lib.hid (HV.out.vlt (Nat.le_refl _))
      have HV0 := Lib.hid (HV.out.grow hg0)
      have hww : w.heap.size ≤ wr.heap.size := HV.out.bel.size
      clear k4 HV hg0 hs0
      generalize wr.heap.size = R9 at hrg0 HVW hB0 hbm hww ⊢
      go_loopw [52] (fun _ W1 => ∃ left, Rng W1 bm R9 (midD dues D.m left) left ∧ (∀ k ∈ left, k ∈ D.m.map (·.1)) ∧ (∀ p ∈ D.m, p.1 ∉ left → ¬ p.2 < atD dues p.1) ∧ PlanV w ⟨B0, A0, c0, l, D.p, D.h, A2, c2, costs, bm⟩ (midD dues D.m left) D.es v W1) (fun _ W1 => W1.rangeLeft bm R9)
      case atStart => exact ⟨D.m.map (·.1), by rw [midD_all]; exact hrg0, fun k hk => hk, fun p hp hn => absurd (List.mem_map.2 ⟨p, hp, rfl⟩) hn, by rw [midD_all]; exact HV0.out⟩
      case round =>
       clear hrg0 HV0
       obtain ⟨left, hrg, hsub, hdone, hP⟩ := hrel
       have HSU := Lib.hid hsub
       have HDN := Lib.hid hdone
       have HP := Lib.hid hP
       have hnd : (D.m.map (·.1)).Nodup := by have := hP.map.nd; rw [midD_keys] at this; exact this
       have HND := Lib.hid hnd
       clear hsub hdone hP hnd
       have hRl := hrg.lt
       have hRB : R9 ≠ B0 := by omega
       have hRm : R9 ≠ bm := by omega
       go_wp2_with (first | (at_next; refine wpList_next_key rfl _ rfl bm R9 _ left rfl hrg ?_ ?_; rotate_left; intro k w' hk hkm hr' ht hen; have HP1 := HP.out.turnR ht hww hRB hRm HVW.out; generalize (midD dues D.m left).get k = y at hkm hen ⊢; have hym := midD_get HND.out hk hkm; have hki2 := keysIn_mem HKI.out.1 (List.mem_map.2 ⟨_, hym, rfl⟩); have has := List.all_eq_true.1 HKI.out.2 _ hym; obtain ⟨k1, k2⟩ := k; simp only at hki2 has; obtain ⟨hk0, hk1⟩ := hki2; obtain ⟨ad, X0, y0, X1, y1, had, g0, g1, hl0, hC0, hl1, hC1⟩ := at_T27 (Kd.zu H3.out HP1.bel) k1 hk0 hk1; obtain ⟨e9, hAt⟩ := atL_calls dues (k1, k2) X0 X1 y0 y1 w' hC0 hl0 hC1 hl1 has; simp only at hAt; have HAT := Lib.hid hAt; have HYM := Lib.hid hym; have HT := Lib.hid ht; have HR' := Lib.hid hr'; have HK := Lib.hid hk; have HPP := Lib.hid HP1; have HAD := Lib.hid had; clear hkm ht hr' hk HP1 had hym has hAt hC0 hC1 hl0 hl1; have q0 := eq_true hk0; have q1 := eq_true hk1; rotate_left; intro hl0; have HL0 := Lib.hid hl0; clear hl0))
       ·have HPL : PlanV w ⟨B0, A0, c0, l, D.p, D.h, A2, c2, costs, bm⟩ (leftD dues D.m) D.es v wr := by
         have := HP.out
         rw [HL0.out, midD_nil] at this
         exact this
        have hlate : (D.m.any fun p => decide (p.2 < atD dues p.1)) = false := by
         rw [List.any_eq_false]
         intro p hp
         have := HDN.out p hp (by rw [HL0.out]; simp)
         simp only [decide_eq_true_eq]
         omega
        have hr := HRR.out
        rw [if_neg (by rw [hlate]; decide)] at hr
        have hkc : keysIn costs.length (leftD dues D.m) = true := by
         have := keysIn_keys (m' := leftD dues D.m) HKI.out.1 (by rw [← midD_nil]; exact midD_keys _ _ _)
         rw [HCL.out, ← HL.out]; exact this
        have HSH := short_any w ⟨B0, A0, c0, l, D.p, D.h, A2, c2, costs, bm⟩ (leftD dues D.m) D.es wr ⟨v, HPL⟩ H2.out hkc
        simp only at HSH
        clear hlate HPL hrg HP HDN hkc
        cases hsh : shortS costs (leftD dues D.m) with
        | true =>
         rw [hsh] at HSH
         rw [if_pos (.inl hsh)] at hr
         injection hr with hr
         subst hr
         clear hsh
         refine HSH.mono ?_
         clear HSH
         rintro e' w3 ⟨rfl, v3, hv3⟩
         have HV3 := Lib.hid hv3
         clear hv3
         go_wp2
         go_ret
         exact ⟨rfl, HV3.out.bel⟩
        | false =>
         rw [hsh] at HSH
         refine HSH.mono ?_
         clear HSH
         rintro e' w3 ⟨rfl, hp3⟩
         have HRD := round_any w ⟨B0, A0, c0, l, D.p, D.h, A2, c2, costs, bm⟩ (leftD dues D.m) D.es w3 hp3
         cases hrd : (roundS D.es (leftD dues D.m)).2 with
         | true =>
          rw [hrd] at HRD
          rw [if_pos (.inr hrd)] at hr
          injection hr with hr
          subst hr
          have HRH := Lib.hid HRD
          clear hsh hrd hp3 HRD
          go_wp2_with (first | (go_at_call 42; refine HRH.out.mono ?_; rintro e' w4 ⟨rfl, v4, hv4⟩; have HV4 := Lib.hid hv4; clear hv4))
          go_ret
          exact ⟨rfl, HV4.out.bel⟩
         | false =>
          rw [hrd] at HRD
          rw [if_neg (by rw [hsh, hrd]; simp)] at hr
          injection hr with hr
          subst hr
          have HRH := Lib.hid HRD
          clear hsh hrd hp3 HRD
          go_wp2_with (first | (go_at_call 42; refine HRH.out.mono ?_; rintro e' w4 ⟨rfl, v4, hv4⟩; have HV4 := Lib.hid hv4; clear hv4))
          go_ret
          exact ⟨rfl, HV4.out.bel⟩
       ·have had := HAD.out
        subst had
        have hb0 := of_eq_true q0
        have hbx : ∀ i u, (#[.int .i64 k1, .int .i64 k2] : Array Value)[i]? = some u → (w'.alloc (.cells #[.int .i64 k1, .int .i64 k2] 102)).cell? ⟨w'.heap.size, i, none⟩ = some u := fun i u hu => by
         rw [cell_of_row _ _ _ _ _ _ (heap_alloc_new w' _)]; exact hu
        have b0 := hbx 0 (.int .i64 k1) rfl
        have b1 := hbx 1 (.int .i64 k2) rfl
        have HB2 := Lib.hid ((Below.refl w'.heap.size w').alloc (Nat.le_refl _) (.cells #[.int .i64 k1, .int .i64 k2] 102))
        have g0' := keepc HB2.out g0
        have g1' := keepc HB2.out g1
        have HP2 := Lib.hid (HPP.out.grow HB2.out)
        have HR2 := Lib.hid (HR'.out.kept (heap_alloc_old w' (.cells #[.int .i64 k1, .int .i64 k2] 102) HR'.out.owns.lt) (heap_alloc_old w' (.cells #[.int .i64 k1, .int .i64 k2] 102) HR'.out.lt))
        have hX9 : w'.heap.size < (w'.alloc (.cells #[.int .i64 k1, .int .i64 k2] 102)).heap.size := by simp
        have hBX : B0 < w'.heap.size := World.block_lt_of_cell? w' _ HPP.out.k0
        have hmX : bm < w'.heap.size := HR'.out.owns.lt
        have hRX : R9 < w'.heap.size := HR'.out.lt
        have HAT2 := Lib.hid (fun W' (hW : Below (w'.alloc (.cells #[.int .i64 k1, .int .i64 k2] 102)).heap.size (w'.alloc (.cells #[.int .i64 k1, .int .i64 k2] 102)) W') => HAT.out W' (HB2.out.trans (hW.mono HB2.out.size)))
        clear g0 g1 hbx hen HB2 HAT
        generalize w'.alloc (.cells #[.int .i64 k1, .int .i64 k2] 102) = W2 at b0 b1 g0' g1' HP2 HR2 hX9 HAT2 ⊢
        generalize w'.heap.size = X9 at b0 b1 hX9 hBX hmX hRX ⊢
        generalize hzz : atD dues (k1, k2) = z at HAT2
        have HZ := Lib.hid hzz
        clear hzz
        generalize zna dues k1 = T at g0' g1' HAT2
        have HI := Lib.hid ((Below.refl W2.heap.size W2).drew)
        apply wp_ex (I := fun W6 => Below W2.heap.size W2 W6)
        ·go_region_held3 (fun w' => w'.cell? (ad.add (k1.toNat * 2)) = some (.slice X0 T.f0.length y0) ∧ w'.cell? ⟨(ad.add (k1.toNat * 2)).block, (ad.add (k1.toNat * 2)).off + 1, none⟩ = some (.slice X1 T.f1.length y1) ∧ w'.cell? ⟨X9, 0, none⟩ = some (.int .i64 k1) ∧ w'.cell? ⟨X9, 1, none⟩ = some (.int .i64 k2))
          (first | exact ⟨keepc HI.out g0', keepc HI.out g1', keepc HI.out b0, keepc HI.out b1⟩)
          (first | (go_at_call 25; with_reducible refine (HAT2.out _ ?_).mono ?_; (focus exact HI.out); rintro e w6 ⟨rfl, hb6⟩; have HI := Lib.hid (HI.out.trans (hb6.mono HI.out.size)); clear hb6; dsimp only))
         all_goals exact ⟨rfl, HI.out⟩
        intro W6 hb6
        have b0' := keepc hb6 b0
        have b1' := keepc hb6 b1
        have HP6 := Lib.hid (HP2.out.grow hb6)
        have HR6 := Lib.hid (HR2.out.kept (hb6.block _ HR2.out.owns.lt) (hb6.block _ HR2.out.lt))
        have hX6 : X9 < W6.heap.size := Nat.lt_of_lt_of_le hX9 hb6.size
        clear b0 b1 g0' g1' hb6 HI HAT2 HP2 HR2 hX9 q0 q1
        by_cases hgt : y < z
        ·have hdg := decide_eq_true hgt
         have hr := HRR.out
         rw [if_pos (List.any_eq_true.2 ⟨_, HYM.out, by simp only [HZ.out]; exact hdg⟩)] at hr
         injection hr with hr
         subst hr
         clear hgt
         go_wp2
         go_ret
         exact ⟨rfl, HP6.out.bel⟩
        ·have hdg := decide_eq_false hgt
         obtain ⟨W7, hup, hR7, ht7⟩ := HR6.out.kept (w' := W6.drew) rfl rfl |>.update (k1, k2) (by rw [midD_keys]; exact List.mem_map.2 ⟨_, HYM.out, rfl⟩) z
         have hup' : (Instr.mapUpdate 97 (.map (some bm)) (.agg #[.int .i64 k1, .int .i64 k2]) (.int .i64 z)).run Tryz.prog W6.drew = .ok () W7 := hup
         have k4 := HP6.out.k4
         have hput : (midD dues D.m left).put (k1, k2) z = midD dues D.m (left.filter (· != (k1, k2))) := by
          rw [← HZ.out]; exact midD_put (List.mem_map.2 ⟨_, HYM.out, rfl⟩)
         rw [hput] at hR7
         have HP7 := Lib.hid (HP6.out.drew.turn ht7 hR7.owns)
         have HR7 := Lib.hid hR7
         have HGT := Lib.hid hgt
         clear hup hR7 ht7 hput hgt
         go_wp2
         apply wp_ex (I := fun W8 => W8 = W7)
         ·go_region
          all_goals exact ⟨rfl, rfl⟩
         rintro W8 rfl
         go_wp2
         go_roundw
         case rel =>
          refine ⟨left.filter (· != (k1, k2)), HR7.out, fun k hk => HSU.out k (List.mem_filter.1 hk).1, fun p hp hn => ?_, HP7.out⟩
          by_cases hpk : p.1 = (k1, k2)
          ·have h1 := get_mem HND.out hp
           have h2 := get_mem HND.out HYM.out
           rw [hpk] at h1 ⊢
           rw [h1] at h2
           rw [h2, HZ.out]
           have := HGT.out
           omega
          ·have := HDN.out p hp (fun hm => hn (List.mem_filter.2 ⟨hm, bne_iff_ne.2 hpk⟩))
           omega
         case measure =>
          rw [HR7.out.left_eq, hrg.left_eq]
          exact filter_lt HK.out
     ·rw [if_neg hki] at hr
      cases hr
  ·rw [if_neg hl] at h
   injection h with h
   subst h
   have d1 : ((dues.length : Int) != (l.length : Int)) = true := by rw [bne_iff_ne]; omega
   have d2 : (dues.length != l.length) = true := by rw [bne_iff_ne]; exact hl
   clear hl
   go_enter Tryz.func14, Tryz.ntmps14
   go_wp2_with (first | (go_at_call 39; with_reducible refine (HG.out _ ?_).mono ?_; (focus exact Below.refl _ _); rintro e' w1 ⟨B0, bm, v, rfl, hv⟩; have HV := Lib.hid hv; clear hv))
   go_ret
   exact ⟨rfl, HV.out.bel⟩
 ·rw [if_neg he] at h
  injection h with h
  subst h
  have HB9 := Lib.hid (fun W (hW : Below w.heap.size w W) => (HO.out W hW).mono fun _ _ q => OfPost.bad q he)
  have d0 : (e9 != 0) = true := by simpa using he
  clear ho h0 hc0 h1 hc1 h2 h3 he HO
  go_enter Tryz.func14, Tryz.ntmps14
  go_wp2_with (first | (go_at_call 39; with_reducible refine (HB9.out _ ?_).mono ?_; (focus exact Below.refl _ _); rintro e' w1 ⟨rfl, hb1⟩; have HB := Lib.hid hb1; clear hb1))
  go_ret
  exact ⟨rfl, HB.out⟩
theorem due_Check.calls (A0 : Option Addr) (c0 : Nat) (l0 : List S78) (A1 : Option Addr) (c1 : Nat) (l1 : List S68) (A2 : Option Addr) (c2 : Nat) (l2 : List Int) (A3 : Option Addr) (c3 : Nat) (l3 : List S27) (r : Int) (w : World) (hr0 : Kd.C k78 w A0 l0.length l0) (hc0 : l0.length ≤ c0) (hr1 : Kd.C k68 w A1 l1.length l1) (hc1 : l1.length ≤ c1) (hr2 : Kd.C (Kd.int .i64) w A2 l2.length l2) (hc2 : l2.length ≤ c2) (hr3 : Kd.C k27 w A3 l3.length l3) (hc3 : l3.length ≤ c3) (h : due_Check.f l0 l1 l2 l3 = some r) :
  Calls Tryz.prog 14 #[.slice A0 l0.length c0, .slice A1 l1.length c1, .slice A2 l2.length c2, .slice A3 l3.length c3] w fun e w' => e = .returned (.int .i64 r) ∧ Below w.heap.size w w' := by
 obtain ⟨f, hf⟩ := zob h
 exact check_go f A0 c0 l0 A1 c1 l1 A2 c2 l2 A3 c3 l3 w hr0 hc0 hr1 hc1 hr2 hr3 r hf
end Go.Proofs.YtfondhcppjkchaaGreat.Q
