import Derived.Test.YtlmmdpdkddmklabPEdf
namespace Go.Proofs.Ytlmmdpdkddmklab.Q
open Go.RowKit Go.Proofs.YtlmmdpdkddmklabW.PrintWords Go.Proofs.YtlmmdpdkddmklabW.PrintLast
set_option linter.unusedVariables false

def fill (l : List S38) (n : Nat) : List Int := (l.take n).map (·.f2) ++ List.replicate (l.length - n) 0
theorem fill_len (l : List S38) (n : Nat) (h : n ≤ l.length) : (fill l n).length = l.length := by
  simp [fill]; omega
theorem fill_zero (l : List S38) : List.replicate l.length 0 = fill l 0 := by simp [fill]
theorem fill_all (l : List S38) : fill l l.length = l.map (·.f2) := by simp [fill]
theorem fill_set (l : List S38) (n : Nat) (h : n < l.length) : (fill l n).set n l[n].f2 = fill l (n + 1) := by
  unfold fill
  have hl : ((l.take n).map (·.f2)).length = n := by simp; omega
  rw [List.set_append_right _ _ (by omega), hl, Nat.sub_self]
  have e : l.length - n = (l.length - (n + 1)) + 1 := by omega
  rw [e, List.replicate_succ, List.set_cons_zero, List.take_succ_eq_append_getElem h, List.map_append, List.append_assoc]
  rfl
theorem sum_drop (l : List S38) (n : Nat) (h : n < l.length) : ((l.drop n).map (·.f2)).sum = l[n].f2 + ((l.drop (n + 1)).map (·.f2)).sum := by
  rw [drop_at l n h, List.map_cons, List.sum_cons]

/-- The scan, for whichever loop makes these steps. -/
theorem scan_loop (l : List S38) (xs : List Int) (now : Int) (hlen : l.length = xs.length) (hl : l.length ≤ 4096) (G : Nat → Int → Int → Int → Option Bool)
    (hG : ∀ k first next (n : Nat), n < l.length → G (k + 1) first next n = (if (rd xs n) = 0 then (G k first next (wrap64 ((n : Int) + 1))) else (if ((rd_T38 l n).f0) > now then (G k first (mn next ((rd_T38 l n).f0)) (wrap64 ((n : Int) + 1))) else (if first < 0 then (G k n next (wrap64 ((n : Int) + 1))) else (if 0 ≤ first then (if first < (l.length : Int) then (if ((rd_T38 l n).f1) < ((rd_T38 l first).f1) then (G k n next (wrap64 ((n : Int) + 1))) else (G k first next (wrap64 ((n : Int) + 1)))) else (none)) else (none)))))) :
    ∀ (d n : Nat) (first next : Int), n ≤ l.length → l.length - n = d → Scan l xs now n first next → ∃ first' next', Scan l xs now l.length first' next' ∧ ∀ b, Ev (fun k => G k first' next' (l.length : Int)) b → Ev (fun k => G k first next (n : Int)) b := by
  intro d
  induction d with
  | zero =>
    intro n first next h1 h2 hs
    obtain rfl : n = l.length := by omega
    exact ⟨first, next, hs, fun b h => h⟩
  | succ d ih =>
    intro n first next h1 h2 hs
    have hn : n < l.length := by omega
    have hx : n < xs.length := by omega
    have hg := fun k => hG k first next n hn
    simp only [rdI_at xs n hx, rd_at l n hn, wrap_succ n (by omega)] at hg
    by_cases c0 : xs[n] = 0
    · obtain ⟨f', n', s', e'⟩ := ih (n + 1) first next (by omega) (by omega) (hs.skip hn hx c0)
      exact ⟨f', n', s', fun b h => Ev.step (fun k => by rw [hg k, if_pos c0]) (e' b h)⟩
    · by_cases c1 : l[n].f0 > now
      · obtain ⟨f', n', s', e'⟩ := ih (n + 1) first (mn next l[n].f0) (by omega) (by omega) (hs.later hn hx c0 c1)
        exact ⟨f', n', s', fun b h => Ev.step (fun k => by rw [hg k, if_neg c0, if_pos c1]) (e' b h)⟩
      · by_cases c2 : first < 0
        · obtain ⟨f', n', s', e'⟩ := ih (n + 1) n next (by omega) (by omega) (hs.better hn hx c0 (by omega) (fun f hf e => by omega))
          exact ⟨f', n', s', fun b h => Ev.step (fun k => by rw [hg k, if_neg c0, if_neg c1, if_pos c2]) (e' b h)⟩
        · obtain ⟨f, k1, k2, e, _⟩ := hs.some (by omega)
          subst e
          simp only [rd_at l f k1] at hg
          by_cases c3 : l[n].f1 < l[f].f1
          · obtain ⟨f', n', s', e'⟩ := ih (n + 1) n next (by omega) (by omega) (hs.better hn hx c0 (by omega) (fun f' hf e => by
              obtain rfl : f = f' := by omega
              omega))
            exact ⟨f', n', s', fun b h => Ev.step (fun k => by rw [hg k, if_neg c0, if_neg c1, if_neg c2, if_pos (by omega), if_pos (by omega), if_pos c3]) (e' b h)⟩
          · obtain ⟨f', n', s', e'⟩ := ih (n + 1) f next (by omega) (by omega) (hs.keep hn hx c0 (by omega) (by omega) (fun f' hf e => by
              obtain rfl : f = f' := by omega
              omega))
            exact ⟨f', n', s', fun b h => Ev.step (fun k => by rw [hg k, if_neg c0, if_neg c1, if_neg c2, if_pos (by omega), if_pos (by omega), if_neg c3]) (e' b h)⟩

theorem St.left {l : List S38} {xs : List Int} {now all : Int} (h : St l xs now all) (ha : 0 < all) : ∃ j, ∃ (h1 : j < l.length) (h2 : j < xs.length), xs[j] ≠ 0 := by
  refine Classical.byContradiction fun hc => ?_
  have hz : ∀ x ∈ xs, x = 0 := fun x hx => Classical.byContradiction fun h0 => by
    obtain ⟨j, hj, rfl⟩ := List.getElem_of_mem hx
    exact hc ⟨j, by have := h.len; omega, hj, h0⟩
  have : xs.sum = 0 := by
    clear h ha hc
    induction xs with
    | nil => rfl
    | cons x xs ih => rw [List.sum_cons, hz x List.mem_cons_self, ih (fun y hy => hz y (List.mem_cons_of_mem _ hy))]; rfl
  have := h.tot
  omega
theorem St.none {l : List S38} {xs : List Int} {now all : Int} (h : St l xs now all) (ha : ¬ 0 < all) : ∀ j (h2 : j < xs.length), xs[j] = 0 := fun j h2 =>
  sum_zero xs h.pos (by have := sum_nonneg xs h.pos; have := h.tot; omega) _ (List.getElem_mem h2)
theorem set_ne {xs : List Int} {f : Nat} {r : Int} (hf : ∀ (h : f < xs.length), xs[f] ≠ 0) : ∀ j (h1 : j < xs.length) (h2 : j < (xs.set f r).length), (xs.set f r)[j] ≠ 0 → xs[j] ≠ 0 := fun j h1 h2 h => by
  rw [List.getElem_set] at h
  split at h
  · rename_i e; subst e; exact hf h1
  · exact h
theorem rd_set (xs : List Int) (f : Nat) (v : Int) (h : f < xs.length) : rd (xs.set f v) (f : Int) = v := by
  rw [rdI_at _ f (by simpa using h), List.getElem_set_self]

/-! ### edf -/
theorem edf_l0 (l : List S38) (hok : ∀ w ∈ l, Okw w) (hl : l.length ≤ 60) (b : Bool) (h : Ev (fun k => carillonlaw23_edf.l1 k l (l.map (·.f2)) (l.map (·.f2)).sum 0) b) :
    ∀ (d n : Nat) (all : Int), n ≤ l.length → l.length - n = d → 0 ≤ all → all ≤ n * 1048576 → all + ((l.drop n).map (·.f2)).sum = (l.map (·.f2)).sum → Ev (fun k => carillonlaw23_edf.l0 k l (fill l n) all (n : Int)) b := by
  intro d
  induction d with
  | zero =>
    intro n all h1 h2 h3 h4 h5
    obtain rfl : n = l.length := by omega
    refine Ev.step (fun k => ?_) h
    simp only [carillonlaw23_edf.l0]
    rw [if_neg (by omega), fill_all]
    congr 1
    simpa using h5
  | succ d ih =>
    intro n all h1 h2 h3 h4 h5
    have hn : n < l.length := by omega
    have hw := hok _ (List.getElem_mem hn)
    have c0 := hw.c0
    have c1 := hw.c1
    rw [sum_drop l n hn] at h5
    refine Ev.step (fun k => ?_) (ih (n + 1) (all + l[n].f2) (by omega) (by omega) (by omega) (by omega) (by omega))
    simp only [carillonlaw23_edf.l0]
    rw [if_pos (by omega), if_pos (by omega), fill_len l n (by omega), if_pos (by omega), rd_at l n hn, wrap_succ n (by omega), wrap_id (by omega) (by omega), Int.toNat_natCast, fill_set l n hn]

def Verd (l : List S38) (b : Bool) : Prop := (b = true → ∀ a b', dem l a b' = 0 ∨ dem l a b' ≤ b' - a) ∧ (b = false → ∃ u ∈ l, ∃ v ∈ l, Bad l 0 u.f0 v.f1)
theorem edf_l1 (l : List S38) (hok : ∀ w ∈ l, Okw w) (hl : l.length ≤ 60) : ∀ (m : Nat) (xs : List Int) (now all : Int), mu l xs now < m → St l xs now all → Busy l xs now 0 → Fits l xs now →
    ∃ b, Ev (fun k => carillonlaw23_edf.l1 k l xs all now) b ∧ Verd l b := by
  intro m
  induction m with
  | zero => intro xs now all h; omega
  | succ m ih =>
    intro xs now all hm hst hbusy hfits
    by_cases hall : 0 < all
    · obtain ⟨j0, i1, i2, i3⟩ := hst.left hall
      have hscan := scan_loop l xs now hst.len (by omega) (fun k first next n => carillonlaw23_edf.l2 k l xs all now first next n) (fun k first next n hn => by
        have := hst.len
        simp only [carillonlaw23_edf.l2]
        rw [if_pos (by omega), if_pos (by omega), if_pos (by omega)])
      obtain ⟨first, next, hs, he⟩ := hscan l.length 0 (-1) 4611686018427387904 (by omega) (by omega) (Scan.start l xs now)
      have hto : ∀ b, Ev (fun k => carillonlaw23_edf.l2 k l xs all now first next (l.length : Int)) b → Ev (fun k => carillonlaw23_edf.l1 k l xs all now) b := fun b h =>
        Ev.step (fun k => by simp only [carillonlaw23_edf.l1]; rw [if_pos hall]; rfl) (he b h)
      have hn0 := hst.now0
      have hn1 := hst.now1
      have hsum := sum_bound l hok
      have hgt : now < next := by
        rcases hs.near with h | ⟨j, h1, h2, h3, h4, h5⟩
        · omega
        · omega
      by_cases hf : first < 0
      · obtain ⟨-, hfut⟩ := hs.none hf
        have hnext : ∀ j (h1 : j < l.length) (h2 : j < xs.length), xs[j] ≠ 0 → next ≤ l[j].f0 := fun j h1 h2 h0 => hs.far j h1 h2 h1 h0 (hfut j h1 h2 h1 h0)
        have hr1 := (hok _ (List.getElem_mem i1)).r1
        have hj0 := hnext j0 i1 i2 i3
        obtain ⟨b, hb, hv⟩ := ih xs next all (by
          have : mu l xs next < mu l xs now := mu_lt l xs xs now next rfl (by omega) (fun _ _ _ h => h) (by
            rcases hs.near with h | ⟨j, h1, h2, h3, h4, h5⟩
            · omega
            · exact ⟨j, h1, h2, h2, h3, .inr ⟨h4, by omega⟩⟩)
          omega) (hst.idle (by omega) (by omega)) (Busy.idle hst.le (by omega) hnext) (hfits.idle (by omega))
        refine ⟨b, hto b (Ev.step (fun k => ?_) hb), hv⟩
        simp only [carillonlaw23_edf.l2]
        rw [if_neg (by omega), if_pos hf]
      · obtain ⟨f, k1, k2, rfl, -, k3, k4, k5⟩ := hs.some (by omega)
        have hx0 := hst.pos _ (List.getElem_mem k2)
        have hx1 := hst.le f k1 k2
        have hw := hok _ (List.getElem_mem k1)
        have hc1 := hw.c1
        have hd1 := hw.d1
        have hxs : xs[f] ≤ all := by
          have := sum_nonneg (xs.set f (xs[f] - xs[f])) (fun x hx => by
            rcases List.mem_or_eq_of_mem_set hx with hx | rfl
            · exact hst.pos x hx
            · omega)
          rw [sum_set xs f _ k2] at this
          have := hst.tot
          omega
        obtain ⟨r, hr, hr0, hr1, hr2, hr3⟩ : ∃ r, mn xs[f] (next - now) = r ∧ 1 ≤ r ∧ r ≤ xs[f] ∧ r ≤ next - now ∧ (r = xs[f] ∨ r = next - now) := by
          refine ⟨_, rfl, ?_⟩
          unfold mn
          split <;> omega
        have hnx : next ≤ 4611686018427387904 := by
          rcases hs.near with h | ⟨j, h1, h2, h3, h4, h5⟩
          · omega
          · have := (hok _ (List.getElem_mem h1)).r1; omega
        have w1 : wrap64 (next - now) = next - now := wrap_id (by omega) (by omega)
        have w2 : wrap64 (xs[f] - r) = xs[f] - r := wrap_id (by omega) (by omega)
        have w3 : wrap64 (now + r) = now + r := wrap_id (by omega) (by omega)
        have w4 : wrap64 (all - r) = all - r := wrap_id (by omega) (by omega)
        have hstep : ∀ k, carillonlaw23_edf.l2 (k + 1) l xs all now (f : Int) next (l.length : Int) = (if xs[f] - r = 0 then (if now + r > l[f].f1 then some false else carillonlaw23_edf.l1 k l (xs.set f (xs[f] - r)) (all - r) (now + r)) else carillonlaw23_edf.l1 k l (xs.set f (xs[f] - r)) (all - r) (now + r)) := fun k => by
          simp only [carillonlaw23_edf.l2]
          rw [if_neg (by omega), if_neg (by omega), if_pos (by omega), if_pos (by omega), Option.bind_some, rdI_at xs f k2, w1, hr, w2, w3, w4, Int.toNat_natCast, rd_set xs f _ k2, rd_at l f k1, if_pos (by omega : (f : Int) < (l.length : Int))]
        have hbusy' := hbusy.run hst.le f k1 k2 k3 hr0 (by omega) (fun j a1 a2 a3 a4 => k5 j a1 a2 a1 a3 a4) (by omega) (.inr fun j a1 a2 a3 a4 => by
          have := hs.far j a1 a2 a1 a3 a4; omega)
        have hst' := hst.run f k2 (by omega : 0 ≤ r) hr1
        by_cases hz : xs[f] - r = 0
        · by_cases hlate : now + r > l[f].f1
          · refine ⟨false, hto false (Ev.step (f := fun _ => some false) (fun k => by rw [hstep k, if_pos hz, if_pos hlate]) (Ev.now _)), ⟨fun h => (by cases h), fun _ => ?_⟩⟩
            exact Busy.late hok hst.len hbusy f k1 k2 k3 hst'.pos hlate
          · obtain ⟨b, hb, hv⟩ := ih (xs.set f (xs[f] - r)) (now + r) (all - r) (by
              have : mu l (xs.set f (xs[f] - r)) (now + r) < mu l xs now := mu_lt l xs _ now (now + r) (by simp) (by omega) (set_ne fun _ => k3) ⟨f, k1, k2, by simpa using k2, k3, .inl (by rw [List.getElem_set_self]; exact hz)⟩
              omega) hst' hbusy' (hfits.run hst.len f k1 k2 k4 (by omega) (fun _ => by omega))
            exact ⟨b, hto b (Ev.step (fun k => by rw [hstep k, if_pos hz, if_neg hlate]) hb), hv⟩
        · obtain ⟨b, hb, hv⟩ := ih (xs.set f (xs[f] - r)) (now + r) (all - r) (by
            have : mu l (xs.set f (xs[f] - r)) (now + r) < mu l xs now := mu_lt l xs _ now (now + r) (by simp) (by omega) (set_ne fun _ => k3) (by
              rcases hs.near with h | ⟨j, h1, h2, h3, h4, h5⟩
              · omega
              · exact ⟨j, h1, h2, by simpa using h2, h3, .inr ⟨h4, by omega⟩⟩)
            omega) hst' hbusy' (hfits.run hst.len f k1 k2 k4 (by omega) (fun h => absurd h hz))
          exact ⟨b, hto b (Ev.step (fun k => by rw [hstep k, if_neg hz]) hb), hv⟩
    · refine ⟨true, Ev.step (f := fun _ => some true) (fun k => by simp only [carillonlaw23_edf.l1]; rw [if_neg (by omega)]) (Ev.now _), ⟨fun _ a b => ?_, fun h => by cases h⟩⟩
      exact hfits.full a b fun j h1 h2 _ _ => hst.none hall j h2
theorem edf_eq (l : List S38) (hm : mayB l = true) (hl : l.length ≤ 60) : ∃ b, Ev (fun k => carillonlaw23_edf.f k l) b ∧ Verd l b := by
  obtain ⟨-, hok⟩ := (mayB_iff l).1 hm
  obtain ⟨b, hb, hv⟩ := edf_l1 l hok hl _ (l.map (·.f2)) 0 (l.map (·.f2)).sum (Nat.lt_succ_self _) (St.start l hok) (Busy.start l hok 0 (by omega)) (Fits.start l hok)
  refine ⟨b, Ev.congr (fun k => ?_) (edf_l0 l hok hl b hb l.length 0 0 (by omega) (by omega) (by omega) (by omega) (by simp)), hv⟩
  unfold carillonlaw23_edf.f
  rw [if_pos (by omega), if_pos (by omega), Int.toNat_natCast, fill_zero]
  rfl
theorem edf_pure (l : List S38) (_ : l.length * 24 ≤ 140737488351232) (_ : ∀ x ∈ l, In64 x) : Ev (fun k => carillonlaw23_DemandEdf.f k l) true := by
  unfold carillonlaw23_DemandEdf.f
  have hworks : Ev (fun k => carillonlaw23_DemandEdf.j0 k l true) true := Ev.step (fun k => by simp only [carillonlaw23_DemandEdf.j0]; exact if_pos trivial) works_bind
  by_cases hl : (l.length : Int) > 60
  · exact Ev.congr (fun k => if_pos hl) hworks
  refine Ev.congr (fun k => if_neg hl) (Ev.bind (refMay_eq l) ?_)
  by_cases hm : mayB l = true
  · rw [hm]
    obtain ⟨r, hr, hE⟩ := worst_eq l 0 hm (by omega) (by omega)
    obtain ⟨b, hb, hv⟩ := edf_eq l hm (by omega)
    have hne : (r.2.2 != b) = true := by
      rcases hr with ⟨e, hp, hbad, -⟩ | ⟨rfl, hno⟩
      · rw [e]
        cases b with
        | false => rfl
        | true => 
          have h1 := hv.1 rfl r.1 r.2.1
          obtain ⟨_, h2, h3⟩ := hbad
          omega
      · cases b with
        | true => rfl
        | false =>
          obtain ⟨u, hu, v, hv', hbad⟩ := hv.2 rfl
          exact absurd hbad (hno (u.f0, v.f1) (mem_pairs.2 ⟨u, hu, v, hv', rfl⟩))
    refine Ev.step (f := fun k => (demand_Worst.f k l 0).bind fun bt213 => (if bt213.2.2.2 = 0 then ((carillonlaw23_edf.f k l).bind fun t217 => (if (bt213.2.2.1 != t217) = true then ((carillonlaw23_works.f k).bind fun t218 => (some t218)) else (some false))) else (some false))) (fun k => ?_) (Ev.bind hE ?_)
    · simp only [carillonlaw23_DemandEdf.j0]
      rw [if_neg (by simp), copied_eq l (by omega), Option.bind_some]
    · refine Ev.congr (fun k => if_pos rfl) (Ev.bind hb (Ev.congr (fun k => if_pos hne) works_bind))
  · have hm' : mayB l = false := by simpa using hm
    rw [hm']
    exact hworks
end Go.Proofs.Ytlmmdpdkddmklab.Q
