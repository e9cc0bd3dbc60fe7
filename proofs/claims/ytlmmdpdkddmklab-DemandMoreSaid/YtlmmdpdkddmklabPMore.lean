import Derived.Test.YtlmmdpdkddmklabPs
import Derived.Test.YtlmmdpdkddmklabQx8
namespace Go.Proofs.Ytlmmdpdkddmklab.Q
open Go.RowKit Go.Proofs.YtlmmdpdkddmklabW.PrintWords Go.Proofs.YtlmmdpdkddmklabW.PrintLast
set_option linter.unusedVariables false

/-! ### one more work -/
theorem pairs_more {l : List S38} (w : S38) {p : Int × Int} (h : p ∈ pairsOf l) : p ∈ pairsOf (l ++ [w]) := by
  obtain ⟨u, hu, v, hv, rfl⟩ := mem_pairs.1 h
  exact mem_pairs.2 ⟨u, List.mem_append_left _ hu, v, List.mem_append_left _ hv, rfl⟩
theorem dem_more (l : List S38) (w : S38) (a b : Int) (hw : Okw w) : dem l a b ≤ dem (l ++ [w]) a b ∧ dem (l ++ [w]) a b ≤ dem l a b + w.f2 := by
  have := hw.c0
  rw [dem_append]
  simp only [dem]
  split <;> omega
theorem worst_more {l : List S38} {w : S38} (hw : Okw w) {bl : Int} {r r' : Int × Int × Bool} (h : IsWorst l bl r) (h' : IsWorst (l ++ [w]) bl r') (hr : r.2.2 = true) : r'.2.2 = true ∧ (r'.1 < r.1 ∨ (r'.1 = r.1 ∧ r'.2.1 ≤ r.2.1)) := by
  rcases h with ⟨-, hp, ⟨b1, b2, b3⟩, -⟩ | ⟨rfl, -⟩
  · have hd := (dem_more l w r.1 r.2.1 hw).1
    have hbad : Bad (l ++ [w]) bl r.1 r.2.1 := ⟨b1, by omega, by omega⟩
    rcases h' with ⟨e, -, -, hall⟩ | ⟨-, hno⟩
    · exact ⟨e, hall _ (pairs_more w hp) hbad⟩
    · exact absurd hbad (hno _ (pairs_more w hp))
  · cases hr

/-! ### all of them later -/
def sh (c : Int) (w : S38) : S38 := ⟨w.f0 + c, w.f1 + c, w.f2⟩
theorem dem_sh (c : Int) (l : List S38) (a b : Int) : dem (l.map (sh c)) (a + c) (b + c) = dem l a b := by
  induction l with
  | nil => rfl
  | cons w l ih =>
    simp only [List.map_cons, dem, ih, sh]
    by_cases h : a ≤ w.f0 ∧ w.f1 ≤ b
    · rw [if_pos h, if_pos (by omega)]
    · rw [if_neg h, if_neg (by omega)]
theorem bad_sh (c : Int) (l : List S38) (bl a b : Int) : Bad (l.map (sh c)) bl (a + c) (b + c) ↔ Bad l bl a b := by
  unfold Bad
  rw [dem_sh]
  constructor <;> rintro ⟨h1, h2, h3⟩ <;> exact ⟨by omega, by omega, by omega⟩
theorem worst_sh (c : Int) (l : List S38) (bl : Int) (r : Int × Int × Bool) (h : IsWorst l bl r) : IsWorst (l.map (sh c)) bl (if r.2.2 = true then (r.1 + c, r.2.1 + c, true) else (0, 0, false)) := by
  have hp : ∀ p ∈ pairsOf (l.map (sh c)), ∃ q ∈ pairsOf l, p = (q.1 + c, q.2 + c) := fun p hp => by
    obtain ⟨u, hu, v, hv, rfl⟩ := mem_pairs.1 hp
    obtain ⟨u', hu', rfl⟩ := List.mem_map.1 hu
    obtain ⟨v', hv', rfl⟩ := List.mem_map.1 hv
    exact ⟨(u'.f0, v'.f1), mem_pairs.2 ⟨u', hu', v', hv', rfl⟩, rfl⟩
  have hq : ∀ q ∈ pairsOf l, (q.1 + c, q.2 + c) ∈ pairsOf (l.map (sh c)) := fun q hq => by
    obtain ⟨u, hu, v, hv, rfl⟩ := mem_pairs.1 hq
    exact mem_pairs.2 ⟨sh c u, List.mem_map_of_mem hu, sh c v, List.mem_map_of_mem hv, rfl⟩
  rcases h with ⟨e, h1, h2, h3⟩ | ⟨rfl, hno⟩
  · rw [if_pos e]
    refine .inl ⟨rfl, hq _ h1, (bad_sh c l bl _ _).2 h2, fun p hpm hb => ?_⟩
    obtain ⟨q, hqm, rfl⟩ := hp p hpm
    have := h3 q hqm ((bad_sh c l bl _ _).1 hb)
    simp only
    omega
  · rw [if_neg (by simp)]
    refine .inr ⟨rfl, fun p hpm hb => ?_⟩
    obtain ⟨q, hqm, rfl⟩ := hp p hpm
    exact hno q hqm ((bad_sh c l bl _ _).1 hb)
def shl (c : Int) (l : List S38) (n : Nat) : List S38 := (l.take n).map (sh c) ++ l.drop n
theorem shl_len (c : Int) (l : List S38) (n : Nat) (h : n ≤ l.length) : (shl c l n).length = l.length := by
  simp [shl]; omega
theorem shl_at (c : Int) (l : List S38) (n : Nat) (h : n < l.length) : rd_T38 (shl c l n) (n : Int) = l[n] := by
  rw [rd_at _ n (by rw [shl_len c l n (by omega)]; exact h)]
  unfold shl
  rw [List.getElem_append_right (by simp; omega), List.getElem_drop]
  congr 1
  simp
  omega
theorem shl_set (c : Int) (l : List S38) (n : Nat) (h : n < l.length) : (shl c l n).set n (sh c l[n]) = shl c l (n + 1) := by
  unfold shl
  have hl : ((l.take n).map (sh c)).length = n := by simp; omega
  rw [List.set_append_right _ _ (by omega), hl, Nat.sub_self, drop_at l n h, List.set_cons_zero, List.take_succ_eq_append_getElem h, List.map_append, List.append_assoc]
  rfl
theorem shl_all (c : Int) (l : List S38) : shl c l l.length = l.map (sh c) := by simp [shl]
theorem shl_none (c : Int) (l : List S38) : shl c l 0 = l := by simp [shl]
theorem rd_set38 (xs : List S38) (f : Nat) (v : S38) (h : f < xs.length) : rd_T38 (xs.set f v) (f : Int) = v := by
  rw [rd_at _ f (by simpa using h), List.getElem_set_self]
theorem more_l0 (y : List S38) (hok : ∀ w ∈ y, Okw w) (hl : y.length ≤ 101) (c : Int) (hc0 : 0 ≤ c) (hc1 : c ≤ 65535) (r : Int × Int × Bool) (hr : IsWorst y 3 r) :
    ∀ (d n : Nat), n ≤ y.length → y.length - n = d → Ev (fun k => carillonlaw23_DemandMore.l0 k c (shl c y n) r.1 r.2.1 r.2.2 (n : Int)) true := by
  intro d
  induction d with
  | zero =>
    intro n h1 h2
    obtain rfl : n = y.length := by omega
    refine Ev.step (f := fun k => (carillonref23_May.f k (y.map (sh c))).bind fun t289 => (if t289 = true then ((demand_Worst.f k (y.map (sh c)) 3).bind fun bt290 => (if bt290.2.2.2 = 0 then (if (bt290.2.2.1 == r.2.2) = true then (if r.2.2 = true then (if bt290.1 = (wrap64 (r.1 + (wrap64 (c)))) then (if bt290.2.1 = (wrap64 (r.2.1 + (wrap64 (c)))) then ((carillonlaw23_works.f k).bind fun t294 => (some t294)) else (some false)) else (some false)) else ((carillonlaw23_works.f k).bind fun t295 => (some t295))) else (some false)) else (some false))) else ((carillonlaw23_works.f k).bind fun t296 => (some t296)))) (fun k => ?_) (Ev.bind (refMay_eq _) ?_)
    · simp only [carillonlaw23_DemandMore.l0]
      rw [shl_len c y _ (Nat.le_refl _), if_neg (by omega), shl_all]
    · by_cases hm : mayB (y.map (sh c)) = true
      · refine Ev.congr (fun k => if_pos hm) ?_
        obtain ⟨s, hs, hE⟩ := worst_eq _ 3 hm (by omega) (by omega)
        obtain rfl := hs.unique (worst_sh c y 3 r hr)
        refine Ev.bind hE (Ev.congr (fun k => if_pos rfl) ?_)
        by_cases e : r.2.2 = true
        · simp only [e, if_true]
          refine Ev.congr (fun k => if_pos (by rfl)) ?_
          have hw : ∀ p ∈ pairsOf y, (0 ≤ p.1 ∧ p.1 ≤ 2251799813685248) ∧ 0 ≤ p.2 ∧ p.2 ≤ 2251799813685248 := fun p hp => by
            obtain ⟨u, hu, v, hv, rfl⟩ := mem_pairs.1 hp
            have a0 := (hok u hu).r0; have a1 := (hok u hu).r1; have a2 := (hok v hv).r0; have a3 := (hok v hv).d0; have a4 := (hok v hv).d1
            exact ⟨⟨a0, by omega⟩, by omega, a4⟩
          have hb : (0 ≤ r.1 ∧ r.1 ≤ 2251799813685248) ∧ 0 ≤ r.2.1 ∧ r.2.1 ≤ 2251799813685248 := by
            rcases hr with ⟨-, h1, -⟩ | ⟨rfl, -⟩
            · exact hw _ h1
            · cases e
          rw [wrap_id (x := c) (by omega) (by omega), wrap_id (x := r.1 + c) (by omega) (by omega), wrap_id (x := r.2.1 + c) (by omega) (by omega)]
          exact Ev.congr (fun k => by rw [if_pos rfl, if_pos rfl]) works_bind
        · have e' : r.2.2 = false := by simpa using e
          simp only [e', Bool.false_eq_true, if_false]
          exact Ev.congr (fun k => if_pos (by rfl)) works_bind
      · exact Ev.congr (fun k => if_neg hm) works_bind
  | succ d ih =>
    intro n h1 h2
    have hn : n < y.length := by omega
    have hw := hok _ (List.getElem_mem hn)
    have a0 := hw.r0; have a1 := hw.r1; have a2 := hw.d0; have a3 := hw.d1
    have hlen := shl_len c y n (by omega)
    refine Ev.step (fun k => ?_) (ih (n + 1) (by omega) (by omega))
    simp only [carillonlaw23_DemandMore.l0]
    rw [hlen, if_pos (by omega), if_pos (by omega), Option.bind_some, shl_at c y n hn, Int.toNat_natCast, rd_set38 _ n _ (by omega), List.set_set, wrap_succ n (by omega), wrap_id (x := c) (by omega) (by omega), wrap_id (x := y[n].f0 + c) (by omega) (by omega), wrap_id (x := y[n].f1 + c) (by omega) (by omega)]
    exact congrArg (fun z => carillonlaw23_DemandMore.l0 k c z r.1 r.2.1 r.2.2 _) (shl_set c y n hn)
theorem more_pure (l : List S38) (_ : l.length * 24 ≤ 140737488351232) (_ : ∀ x ∈ l, In64 x) (x0 x1 x2 : Int) (_ : -9223372036854775808 ≤ x0 ∧ x0 ≤ 9223372036854775807) (_ : -9223372036854775808 ≤ x1 ∧ x1 ≤ 9223372036854775807) (_ : -9223372036854775808 ≤ x2 ∧ x2 ≤ 9223372036854775807)
    (a : Int) (ha : 0 ≤ a ∧ a ≤ 65535) (b : Int) (hb : 0 ≤ b ∧ b ≤ 65535) (c : Int) (hc : 0 ≤ c ∧ c ≤ 65535) : Ev (fun k => carillonlaw23_DemandMore.f k l x0 x1 x2 a b c) true := by
  unfold carillonlaw23_DemandMore.f
  have hworks : Ev (fun k => carillonlaw23_DemandMore.j0 k l a b c (l ++ [⟨x0, x1, x2⟩]) true x0 x1 x2) true := Ev.step (fun k => by simp only [carillonlaw23_DemandMore.j0]; exact if_pos trivial) works_bind
  have hlen : l.length < 5864062014805 := by omega
  simp only [copied_eq l (by omega), Option.bind_some, if_pos hlen]
  by_cases hl : (l.length : Int) > 100
  · exact Ev.congr (fun k => if_pos hl) hworks
  refine Ev.congr (fun k => if_neg hl) (Ev.bind (refMay_eq _) ?_)
  by_cases hm : mayB (l ++ [⟨x0, x1, x2⟩]) = true
  · rw [hm]
    obtain ⟨-, hok⟩ := (mayB_iff _).1 hm
    have hml : mayB l = true := (mayB_iff l).2 ⟨by omega, fun w hw => hok w (List.mem_append_left _ hw)⟩
    have hw : Okw ⟨x0, x1, x2⟩ := hok _ (List.mem_append_right _ List.mem_cons_self)
    have hyl : (l ++ [(⟨x0, x1, x2⟩ : S38)]).length ≤ 101 := by simp; omega
    have hd := dem_more l ⟨x0, x1, x2⟩ a b hw
    have hdl := dem_bound (fun x hx => hok x (List.mem_append_left _ hx)) (l := l) a b
    have hc0 := hw.c0
    have hc1 := hw.c1
    simp only at hc0 hc1 hd
    have e1 := of_eq l a b
    have e2 := of_eq (l ++ [⟨x0, x1, x2⟩]) a b
    rw [if_pos hml] at e1
    rw [if_pos hm] at e2
    obtain ⟨r, hr, hE⟩ := worst_eq l 3 hml (by omega) (by omega)
    obtain ⟨r', hr', hE'⟩ := worst_eq _ 3 hm (by omega) (by omega)
    have hmono := worst_more hw hr hr'
    generalize hy : l ++ [(⟨x0, x1, x2⟩ : S38)] = y at *
    have hj2 : Ev (fun k => carillonlaw23_DemandMore.j2 k c y r'.1 r'.2.1 r'.2.2 false) true := Ev.step (f := fun k => carillonlaw23_DemandMore.l0 k c (shl c y 0) r'.1 r'.2.1 r'.2.2 ((0 : Nat) : Int)) (fun k => by rw [shl_none]; simp [carillonlaw23_DemandMore.j2]) (more_l0 y hok hyl c hc.1 hc.2 r' hr' y.length 0 (by omega) (by omega))
    have hj1 : Ev (fun k => carillonlaw23_DemandMore.j1 k l c y false) true := by
      refine Ev.step (f := fun k => (demand_Worst.f k l 3).bind fun bt274 => ((demand_Worst.f k y 3).bind fun bt281 => (if bt274.2.2.2 = 0 then (if bt281.2.2.2 = 0 then (if bt274.2.2.1 = true then (if bt281.2.2.1 = true then (if bt281.1 > bt274.1 then (carillonlaw23_DemandMore.j2 k c y bt281.1 bt281.2.1 bt281.2.2.1 true) else (if bt281.1 = bt274.1 then (carillonlaw23_DemandMore.j2 k c y bt281.1 bt281.2.1 bt281.2.2.1 (decide (bt281.2.1 > bt274.2.1))) else (carillonlaw23_DemandMore.j2 k c y bt281.1 bt281.2.1 bt281.2.2.1 false))) else (carillonlaw23_DemandMore.j2 k c y bt281.1 bt281.2.1 bt281.2.2.1 true)) else (carillonlaw23_DemandMore.j2 k c y bt281.1 bt281.2.1 bt281.2.2.1 false)) else (carillonlaw23_DemandMore.j2 k c y bt281.1 bt281.2.1 bt281.2.2.1 true)) else (carillonlaw23_DemandMore.j2 k c y bt281.1 bt281.2.1 bt281.2.2.1 true)))) (fun k => ?_) (Ev.bind hE (Ev.bind hE' ?_))
      · simp only [carillonlaw23_DemandMore.j1]
        rw [if_neg (by simp), copied_eq l (by omega), Option.bind_some, copied_eq y (by omega)]
        rfl
      · refine Ev.congr (fun k => by rw [if_pos rfl, if_pos rfl]) ?_
        by_cases e : r.2.2 = true
        · obtain ⟨e', hle⟩ := hmono e
          rw [e'] at hj2
          refine Ev.congr (fun k => by rw [if_pos e, if_pos e', if_neg (by omega)]) ?_
          by_cases e3 : r'.1 = r.1
          · refine Ev.congr (fun k => by rw [if_pos e3, decide_eq_false (show ¬ r'.2.1 > r.2.1 by omega), e']) hj2
          · exact Ev.congr (fun k => by rw [if_neg e3, e']) hj2
        · exact Ev.congr (fun k => if_neg e) hj2
    refine Ev.step (f := fun k => (demand_Of.f k l a b).bind fun bt264 => ((demand_Of.f k y a b).bind fun bt269 => (if bt264.2 = 0 then (if bt269.2 = 0 then (if bt269.1 < bt264.1 then (carillonlaw23_DemandMore.j1 k l c y true) else (carillonlaw23_DemandMore.j1 k l c y (decide (bt269.1 > (wrap64 (bt264.1 + x2)))))) else (carillonlaw23_DemandMore.j1 k l c y true)) else (carillonlaw23_DemandMore.j1 k l c y true)))) (fun k => ?_) (Ev.bind e1 (Ev.bind e2 ?_))
    · simp only [carillonlaw23_DemandMore.j0]
      rw [if_neg (by simp), copied_eq l (by omega), Option.bind_some, copied_eq y (by omega), wrap_id (x := a) (by omega) (by omega), wrap_id (x := b) (by omega) (by omega)]
      rfl
    · refine Ev.congr (fun k => ?_) hj1
      simp only
      rw [if_pos trivial, if_pos trivial, if_neg (by omega), wrap_id (by omega) (by omega), decide_eq_false (by omega)]
  · have hm' : mayB (l ++ [⟨x0, x1, x2⟩]) = false := by simpa using hm
    rw [hm']
    exact hworks
end Go.Proofs.Ytlmmdpdkddmklab.Q
