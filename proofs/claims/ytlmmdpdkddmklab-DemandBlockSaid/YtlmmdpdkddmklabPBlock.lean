import Derived.Test.YtlmmdpdkddmklabPSched
import Derived.Test.YtlmmdpdkddmklabQx7
namespace Go.Proofs.Ytlmmdpdkddmklab.Q
open Go.RowKit Go.Proofs.YtlmmdpdkddmklabW.PrintWords Go.Proofs.YtlmmdpdkddmklabW.PrintLast
set_option linter.unusedVariables false

theorem block_l0 (l : List S38) (x1 : Int) (ps : List Int) (hok : ∀ w ∈ l, Okw w) (hl : l.length ≤ 40) (b : Bool)
    (h : Ev (fun k => (demand_Worst.f k l (wrap64 (Int.tmod x1 9))).bind fun bt225 => (if bt225.2.2.2 = 0 then (if bt225.2.2.1 = true then (carillonlaw23_DemandBlock.j2 k l ps (l.map (·.f2)).sum (wrap64 (Int.tmod x1 9)) true) else (carillonlaw23_DemandBlock.j2 k l ps (l.map (·.f2)).sum (wrap64 (Int.tmod x1 9)) (decide ((l.map (·.f2)).sum > 1000)))) else (some false))) b) :
    ∀ (d n : Nat) (all : Int), n ≤ l.length → l.length - n = d → 0 ≤ all → all ≤ n * 1048576 → all + ((l.drop n).map (·.f2)).sum = (l.map (·.f2)).sum → Ev (fun k => carillonlaw23_DemandBlock.l0 k l x1 ps all (n : Int)) b := by
  intro d
  induction d with
  | zero =>
    intro n all h1 h2 h3 h4 h5
    obtain rfl : n = l.length := by omega
    have e : all = (l.map (·.f2)).sum := by simpa using h5
    subst e
    refine Ev.step (fun k => ?_) h
    simp only [carillonlaw23_DemandBlock.l0]
    rw [if_neg (by omega), copied_eq l (by omega), Option.bind_some]
  | succ d ih =>
    intro n all h1 h2 h3 h4 h5
    have hn : n < l.length := by omega
    have hw := hok _ (List.getElem_mem hn)
    have c0 := hw.c0
    have c1 := hw.c1
    rw [sum_drop l n hn] at h5
    refine Ev.step (fun k => ?_) (ih (n + 1) (all + l[n].f2) (by omega) (by omega) (by omega) (by omega) (by omega))
    simp only [carillonlaw23_DemandBlock.l0]
    rw [if_pos (by omega), if_pos (by omega), rd_at l n hn, wrap_succ n (by omega), wrap_id (by omega) (by omega)]
theorem block_l1 (l : List S38) (ps : List Int) (S bl : Int) (hl : l.length ≤ 40) (b : Bool) (h : Ev (fun k => carillonlaw23_DemandBlock.l2 k l ps bl (l.map (·.f2)) 0 S 0) b) :
    ∀ (d n : Nat), n ≤ l.length → l.length - n = d → Ev (fun k => carillonlaw23_DemandBlock.l1 k l ps S bl (fill l n) (n : Int)) b := by
  intro d
  induction d with
  | zero =>
    intro n h1 h2
    obtain rfl : n = l.length := by omega
    refine Ev.step (fun k => ?_) h
    simp only [carillonlaw23_DemandBlock.l1]
    rw [if_neg (by omega), fill_all]
  | succ d ih =>
    intro n h1 h2
    have hn : n < l.length := by omega
    refine Ev.step (fun k => ?_) (ih (n + 1) (by omega) (by omega))
    simp only [carillonlaw23_DemandBlock.l1]
    rw [if_pos (by omega), if_pos (by omega), fill_len l n (by omega), if_pos (by omega), rd_at l n hn, wrap_succ n (by omega), Int.toNat_natCast, fill_set l n hn]
theorem block_piece (ps : List Int) (bl : Int) (hb0 : 0 ≤ bl) (hb1 : bl ≤ 8) (hps : ∀ x ∈ ps, 0 ≤ x ∧ x ≤ 255) (j : Nat) (hj : j < ps.length) :
    ∃ P, wrap64 ((Int.tmod (wrap64 (rd ps (j : Int))) (wrap64 (bl + 1))) + 1) = P ∧ 1 ≤ P ∧ P ≤ bl + 1 := by
  obtain ⟨p0, p1⟩ := hps _ (List.getElem_mem hj)
  rw [rdI_at ps j hj, wrap_id (x := ps[j]) (by omega) (by omega), wrap_id (x := bl + 1) (by omega) (by omega)]
  have h0 := Int.tmod_nonneg (bl + 1) p0
  have h1 := Int.tmod_lt_of_pos ps[j] (by omega : 0 < bl + 1)
  exact ⟨_, wrap_id (by omega) (by omega), by omega, by omega⟩
theorem block_l2 (l : List S38) (hok : ∀ w ∈ l, Okw w) (hl : l.length ≤ 40) (ps : List Int) (hpl : ps.length ≤ 200) (hps : ∀ x ∈ ps, 0 ≤ x ∧ x ≤ 255) (bl : Int) (hb0 : 0 ≤ bl) (hb1 : bl ≤ 8) (hno : ∀ u ∈ l, ∀ v ∈ l, ¬ Bad l bl u.f0 v.f1) :
    ∀ (m : Nat) (xs : List Int) (now all : Int) (kk : Nat), all.toNat + mu l xs now < m → (kk : Int) + all ≤ 1000 → St l xs now all → Busy l xs now bl →
    Ev (fun k => carillonlaw23_DemandBlock.l2 k l ps bl xs now all (kk : Int)) true := by
  intro m
  induction m with
  | zero => intro xs now all kk h; omega
  | succ m ih =>
    intro xs now all kk hm hkk hst hbusy
    by_cases hall : 0 < all
    · obtain ⟨j0, i1, i2, i3⟩ := hst.left hall
      have hscan := scan_loop l xs now hst.len (by omega) (fun k first next n => carillonlaw23_DemandBlock.l3 k l ps bl xs now all (kk : Int) first next n) (fun k first next n hn => by
        have := hst.len
        simp only [carillonlaw23_DemandBlock.l3]
        rw [if_pos (by omega), if_pos (by omega), if_pos (by omega)])
      obtain ⟨first, next, hs, he⟩ := hscan l.length 0 (-1) 4611686018427387904 (by omega) (by omega) (Scan.start l xs now)
      refine Ev.step (f := fun k => carillonlaw23_DemandBlock.l3 k l ps bl xs now all (kk : Int) (-1) 4611686018427387904 ((0 : Nat) : Int)) (fun k => by simp only [carillonlaw23_DemandBlock.l2]; rw [if_pos hall]; rfl) (he true ?_)
      have hn0 := hst.now0
      have hn1 := hst.now1
      have hsum := sum_bound l hok
      by_cases hf : first < 0
      · obtain ⟨-, hfut⟩ := hs.none hf
        have hnext : ∀ j (h1 : j < l.length) (h2 : j < xs.length), xs[j] ≠ 0 → next ≤ l[j].f0 := fun j h1 h2 h0 => hs.far j h1 h2 h1 h0 (hfut j h1 h2 h1 h0)
        have hr1 := (hok _ (List.getElem_mem i1)).r1
        have hj0 := hnext j0 i1 i2 i3
        have hgt : now < next := by
          rcases hs.near with h | ⟨j, h1, h2, h3, h4, h5⟩ <;> omega
        refine Ev.step (fun k => ?_) (ih xs next all kk (by
          have : mu l xs next < mu l xs now := mu_lt l xs xs now next rfl (by omega) (fun _ _ _ h => h) (by
            rcases hs.near with h | ⟨j, h1, h2, h3, h4, h5⟩
            · omega
            · exact ⟨j, h1, h2, h2, h3, .inr ⟨h4, by omega⟩⟩)
          omega) hkk (hst.idle (by omega) (by omega)) (Busy.idle hst.le (by omega) hnext))
        simp only [carillonlaw23_DemandBlock.l3]
        rw [if_neg (by omega), if_pos hf]
      · obtain ⟨f, k1, k2, rfl, -, k3, k4, k5⟩ := hs.some (by omega)
        have hx0 := hst.pos _ (List.getElem_mem k2)
        have hx1 := hst.le f k1 k2
        have hw := hok _ (List.getElem_mem k1)
        have hc1 := hw.c1
        have hd1 := hw.d1
        have hxs : xs[f] ≤ all := by
          have := sum_nonneg (xs.set f (xs[f] - xs[f])) (fun x hx => by
            rcases List.mem_or_eq_of_mem_set hx with hx | rfl
            · exact hst.pos x hx
            · omega)
          rw [sum_set xs f _ k2] at this
          have := hst.tot
          omega
        have hrun : ∀ P : Int, 1 ≤ P → P ≤ bl + 1 → ∃ r, mn P xs[f] = r ∧ 1 ≤ r ∧ r ≤ xs[f] ∧ r ≤ bl + 1 := fun P h1 h2 => by
          refine ⟨_, rfl, ?_⟩
          unfold mn
          split <;> omega
        obtain ⟨r, hr0, hr1, hr2, hstep⟩ : ∃ r, 1 ≤ r ∧ r ≤ xs[f] ∧ r ≤ bl + 1 ∧ ∀ k, carillonlaw23_DemandBlock.l3 (k + 1) l ps bl xs now all (kk : Int) (f : Int) next (l.length : Int) = (if xs[f] - r = 0 then (if now + r > l[f].f1 then some false else carillonlaw23_DemandBlock.l2 k l ps bl (xs.set f (xs[f] - r)) (now + r) (all - r) ((kk + 1 : Nat) : Int)) else carillonlaw23_DemandBlock.l2 k l ps bl (xs.set f (xs[f] - r)) (now + r) (all - r) ((kk + 1 : Nat) : Int)) := by
          by_cases hk : kk < ps.length
          · obtain ⟨P, hP, hP1, hP2⟩ := block_piece ps bl hb0 hb1 hps kk hk
            obtain ⟨r, hr, hr0, hr1, hr2⟩ := hrun P hP1 hP2
            refine ⟨r, hr0, hr1, hr2, fun k => ?_⟩
            have w2 : wrap64 (xs[f] - r) = xs[f] - r := wrap_id (by omega) (by omega)
            have w3 : wrap64 (now + r) = now + r := wrap_id (by omega) (by omega)
            have w4 : wrap64 (all - r) = all - r := wrap_id (by omega) (by omega)
            have w5 : wrap64 (bl + 1) ≠ 0 := by rw [wrap_id (by omega) (by omega)]; omega
            simp only [carillonlaw23_DemandBlock.l3]
            rw [if_neg (by omega), if_neg (by omega), if_pos (by omega : (kk : Int) < (ps.length : Int)), if_pos (by omega : 0 ≤ (kk : Int)), if_neg w5, if_pos (by omega), if_pos (by omega), Option.bind_some, hP, rdI_at xs f k2, hr, w2, w3, w4, Int.toNat_natCast, rd_set xs f _ k2, rd_at l f k1, if_pos (by omega : (f : Int) < (l.length : Int)), wrap_succ kk (by omega)]
          · obtain ⟨r, hr, hr0, hr1, hr2⟩ := hrun 1 (by omega) (by omega)
            refine ⟨r, hr0, hr1, hr2, fun k => ?_⟩
            have w2 : wrap64 (xs[f] - r) = xs[f] - r := wrap_id (by omega) (by omega)
            have w3 : wrap64 (now + r) = now + r := wrap_id (by omega) (by omega)
            have w4 : wrap64 (all - r) = all - r := wrap_id (by omega) (by omega)
            simp only [carillonlaw23_DemandBlock.l3]
            rw [if_neg (by omega), if_neg (by omega), if_neg (by omega : ¬ (kk : Int) < (ps.length : Int)), if_pos (by omega), if_pos (by omega), Option.bind_some, rdI_at xs f k2, hr, w2, w3, w4, Int.toNat_natCast, rd_set xs f _ k2, rd_at l f k1, if_pos (by omega : (f : Int) < (l.length : Int)), wrap_succ kk (by omega)]
        have hbusy' := hbusy.run hst.le f k1 k2 k3 hr0 (by omega) (fun j a1 a2 a3 a4 => k5 j a1 a2 a1 a3 a4) (by omega) (.inl hr2)
        have hst' := hst.run f k2 (by omega : 0 ≤ r) hr1
        have hnext := ih (xs.set f (xs[f] - r)) (now + r) (all - r) (kk + 1) (by
          have : mu l (xs.set f (xs[f] - r)) (now + r) ≤ mu l xs now := mu_le l xs _ now (now + r) (by simp) (by omega) (set_ne fun _ => k3)
          omega) (by omega) hst' hbusy'
        by_cases hz : xs[f] - r = 0
        · by_cases hlate : now + r > l[f].f1
          · obtain ⟨u, hu, v, hv, hbad⟩ := Busy.late hok hst.len hbusy f k1 k2 k3 hst'.pos hlate
            exact absurd hbad (hno u hu v hv)
          · exact Ev.step (fun k => by rw [hstep k, if_pos hz, if_neg hlate]) hnext
        · exact Ev.step (fun k => by rw [hstep k, if_neg hz]) hnext
    · exact Ev.step (fun k => by simp only [carillonlaw23_DemandBlock.l2]; rw [if_neg (by omega)]) works_bind
theorem block_pure (l : List S38) (_ : l.length * 24 ≤ 140737488351232) (_ : ∀ x ∈ l, In64 x) (x1 : Int) (hx1 : 0 ≤ x1 ∧ x1 ≤ 255) (ps : List Int) (hps : ∀ n ∈ ps, (Lit.int .u8 n).wf = true) : Ev (fun k => carillonlaw23_DemandBlock.f k l x1 ps) true := by
  unfold carillonlaw23_DemandBlock.f
  have hworks : Ev (fun k => carillonlaw23_DemandBlock.j0 k l x1 ps true) true := Ev.step (fun k => by simp only [carillonlaw23_DemandBlock.j0]; exact if_pos trivial) works_bind
  have hworks2 : ∀ S bl, Ev (fun k => carillonlaw23_DemandBlock.j2 k l ps S bl true) true := fun S bl => Ev.step (fun k => by simp only [carillonlaw23_DemandBlock.j2]; exact if_pos trivial) works_bind
  by_cases hl : (l.length : Int) > 40
  · exact Ev.congr (fun k => if_pos hl) hworks
  refine Ev.congr (fun k => if_neg hl) ?_
  by_cases hl2 : (ps.length : Int) > 200
  · exact Ev.congr (fun k => if_pos hl2) hworks
  refine Ev.congr (fun k => if_neg hl2) (Ev.bind (refMay_eq l) ?_)
  by_cases hm : mayB l = true
  · rw [hm]
    obtain ⟨-, hok⟩ := (mayB_iff l).1 hm
    have t0 := Int.tmod_nonneg 9 hx1.1
    have t1 := Int.tmod_lt_of_pos x1 (by omega : (0 : Int) < 9)
    have hw : wrap64 (Int.tmod x1 9) = Int.tmod x1 9 := wrap_id (by omega) (by omega)
    obtain ⟨r, hr, hE⟩ := worst_eq l (Int.tmod x1 9) hm (by omega) (by omega)
    refine Ev.step (f := fun k => carillonlaw23_DemandBlock.l0 k l x1 ps 0 ((0 : Nat) : Int)) (fun k => by simp [carillonlaw23_DemandBlock.j0]) (block_l0 l x1 ps hok (by omega) true ?_ l.length 0 0 (by omega) (by omega) (by omega) (by omega) (by simp))
    rw [hw]
    refine Ev.bind hE (Ev.congr (fun k => if_pos rfl) ?_)
    by_cases his : r.2.2 = true
    · exact Ev.congr (fun k => if_pos his) (hworks2 _ _)
    · refine Ev.congr (fun k => if_neg his) ?_
      by_cases hn : (l.map (·.f2)).sum > 1000
      · rw [decide_eq_true hn]; exact hworks2 _ _
      · rw [decide_eq_false hn]
        have hno : ∀ u ∈ l, ∀ v ∈ l, ¬ Bad l (Int.tmod x1 9) u.f0 v.f1 := by
          rcases hr with ⟨e, -⟩ | ⟨-, hno⟩
          · exact absurd e his
          · exact fun u hu v hv => hno (u.f0, v.f1) (mem_pairs.2 ⟨u, hu, v, hv, rfl⟩)
        have hps' : ∀ x ∈ ps, 0 ≤ x ∧ x ≤ 255 := fun x hx => bounds_u8 (hps x hx)
        refine Ev.step (fun k => ?_) (block_l1 l ps (l.map (·.f2)).sum (Int.tmod x1 9) (by omega) true (block_l2 l hok (by omega) ps (by omega) hps' _ t0 (by omega) hno _ (l.map (·.f2)) 0 (l.map (·.f2)).sum 0 (Nat.lt_succ_self _) (by omega) (St.start l hok) (Busy.start l hok _ t0)) l.length 0 (by omega) (by omega))
        simp only [carillonlaw23_DemandBlock.j2]
        rw [if_neg (by simp), if_pos (by omega), if_pos (by omega), Int.toNat_natCast, fill_zero]
        rfl
  · have hm' : mayB l = false := by simpa using hm
    rw [hm']
    exact hworks
end Go.Proofs.Ytlmmdpdkddmklab.Q
