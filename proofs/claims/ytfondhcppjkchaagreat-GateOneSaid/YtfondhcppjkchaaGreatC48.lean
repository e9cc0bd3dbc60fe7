import Derived.Test.YtfondhcppjkchaaGreatC43
set_option maxHeartbeats 40000000
set_option maxRecDepth 100000
set_option linter.unusedVariables false
set_option linter.unusedSimpArgs false
namespace Go.Proofs.YtfondhcppjkchaaGreat.Q.Mw
open Go.RowKit Go.Proofs.YtfondhcppjkchaaGreatW.PrintWords
def mayB (l : List S61) : Bool := decide (l.length ≤ 4096) && !l.any badW
structure Okw (w : S61) : Prop where
 r0 : 0 ≤ w.f0
 r1 : w.f0 ≤ 1125899906842624
 d0 : w.f0 < w.f1
 d1 : w.f1 ≤ 2251799813685248
 c0 : 1 ≤ w.f2
 c1 : w.f2 ≤ 1048576
theorem badW_ok (w : S61) : badW w = false ↔ Okw w := by
 unfold badW
 simp only [Bool.or_eq_false_iff, decide_eq_false_iff_not]
 constructor
 ·rintro ⟨⟨⟨⟨⟨h1, h2⟩, h3⟩, h4⟩, h5⟩, h6⟩
  exact ⟨by omega, by omega, by omega, by omega, by omega, by omega⟩
 ·rintro ⟨h1, h2, h3, h4, h5, h6⟩
  exact ⟨⟨⟨⟨⟨by omega, by omega⟩, by omega⟩, by omega⟩, by omega⟩, by omega⟩
theorem mayB_iff (l : List S61) : mayB l = true ↔ l.length ≤ 4096 ∧ ∀ w ∈ l, Okw w := by
 unfold mayB
 rw [Bool.and_eq_true, decide_eq_true_iff, Bool.not_eq_true', List.any_eq_false]
 constructor
 ·rintro ⟨h1, h2⟩
  exact ⟨h1, fun w hw => (badW_ok w).1 (by simpa using h2 w hw)⟩
 ·rintro ⟨h1, h2⟩
  exact ⟨h1, fun w hw => by rw [(badW_ok w).2 (h2 w hw)]; simp⟩
def dem : List S61 → Int → Int → Int
 | [], _, _ => 0
 | w :: l, a, b => (if a ≤ w.f0 ∧ w.f1 ≤ b then w.f2 else 0) + dem l a b
theorem dem_append (l m : List S61) (a b : Int) : dem (l ++ m) a b = dem l a b + dem m a b := by
 induction l with
 | nil => simp [dem]
 | cons w l ih => simp only [List.cons_append, dem, ih]; omega
theorem dem_perm {l m : List S61} (h : l.Perm m) (a b : Int) : dem l a b = dem m a b := by
 induction h with
 | nil => rfl
 | cons w _ ih => simp only [dem, ih]
 | swap u w l => simp only [dem]; omega
 | trans _ _ ih1 ih2 => rw [ih1, ih2]
theorem dem_bound {l : List S61} (h : ∀ w ∈ l, Okw w) (a b : Int) : 0 ≤ dem l a b ∧ dem l a b ≤ l.length * 1048576 := by
 induction l with
 | nil => simp [dem]
 | cons w l ih =>
  have i := ih (fun u hu => h u (List.mem_cons_of_mem _ hu))
  have hw := h w List.mem_cons_self
  have h1 := hw.c0
  have h2 := hw.c1
  simp only [dem, List.length_cons]
  split <;> (refine ⟨by omega, ?_⟩; have e : ((l.length + 1 : Nat) : Int) = l.length + 1 := by omega) <;> omega
theorem rd_at (l : List S61) (n : Nat) (h : n < l.length) : zy l (n : Int) = l[n] := by
 unfold zy
 rw [Int.toNat_natCast, List.getD_eq_getElem?_getD, List.getElem?_eq_getElem h]
 rfl
theorem zsa {x : Int} (h0 : -9223372036854775808 ≤ x) (h1 : x ≤ 9223372036854775807) : wrap64 x = x := by unfold wrap64; omega
theorem wrap_succ (n : Nat) (h : n ≤ 1000000000000) : wrap64 ((n : Int) + 1) = ((n + 1 : Nat) : Int) := by unfold wrap64; omega
theorem may_eq (l : List S61) : demand_May.f l = some (mayB l) := by
 unfold demand_May.f mayB containsBad.f
 by_cases h : (l.length : Int) ≤ 4096
 ·have h' : l.length ≤ 4096 := by omega
  simp [h, h']
 ·have h' : ¬ l.length ≤ 4096 := by omega
  simp [h, h']
def Bad (l : List S61) (block a b : Int) : Prop := a < b ∧ 0 < dem l a b ∧ b - a < dem l a b + block
def BestOf (l : List S61) (block : Int) (P : List (Int × Int)) (r : Int × Int × Bool) : Prop :=
 (r.2.2 = true ∧ (r.1, r.2.1) ∈ P ∧ Bad l block r.1 r.2.1 ∧ ∀ p ∈ P, Bad l block p.1 p.2 → r.1 < p.1 ∨ (r.1 = p.1 ∧ r.2.1 ≤ p.2)) ∨
 (r = (0, 0, false) ∧ ∀ p ∈ P, ¬ Bad l block p.1 p.2)
def pairsOf (l : List S61) : List (Int × Int) := l.flatMap fun u => l.map fun v => (u.f0, v.f1)
theorem zgb {l : List S61} {p : Int × Int} : p ∈ pairsOf l ↔ ∃ u ∈ l, ∃ v ∈ l, p = (u.f0, v.f1) := by
 unfold pairsOf
 rw [List.mem_flatMap]
 constructor
 ·rintro ⟨u, hu, h⟩
  obtain ⟨v, hv, e⟩ := List.mem_map.1 h
  exact ⟨u, hu, v, hv, e.symm⟩
 ·rintro ⟨u, hu, v, hv, rfl⟩
  exact ⟨u, hu, List.mem_map.2 ⟨v, hv, rfl⟩⟩
def IsWorst (l : List S61) (block : Int) (r : Int × Int × Bool) : Prop := BestOf l block (pairsOf l) r
theorem BestOf.skip {l : List S61} {block : Int} {P : List (Int × Int)} {r : Int × Int × Bool} (h : BestOf l block P r) (p : Int × Int) (hp : ¬ Bad l block p.1 p.2 ∨ (r.2.2 = true ∧ (r.1 < p.1 ∨ (r.1 = p.1 ∧ r.2.1 ≤ p.2)))) : BestOf l block (P ++ [p]) r := by
 rcases h with ⟨h1, h2, h3, h4⟩ | ⟨h1, h2⟩
 ·refine .inl ⟨h1, List.mem_append_left _ h2, h3, fun q hq hb => ?_⟩
  rcases List.mem_append.1 hq with hq | hq
  ·exact h4 q hq hb
  ·rw [List.mem_singleton] at hq
   subst hq
   rcases hp with hp | hp
   ·exact absurd hb hp
   ·exact hp.2
 ·refine .inr ⟨h1, fun q hq => ?_⟩
  rcases List.mem_append.1 hq with hq | hq
  ·exact h2 q hq
  ·rw [List.mem_singleton] at hq
   subst hq
   rcases hp with hp | hp
   ·exact hp
   ·rw [h1] at hp
    cases hp.1
theorem BestOf.take {l : List S61} {block : Int} {P : List (Int × Int)} {r : Int × Int × Bool} (h : BestOf l block P r) (p : Int × Int) (hp : Bad l block p.1 p.2) (hr : r.2.2 = true → ¬ (r.1 < p.1 ∨ (r.1 = p.1 ∧ r.2.1 ≤ p.2))) : BestOf l block (P ++ [p]) (p.1, p.2, true) := by
 refine .inl ⟨rfl, List.mem_append_right _ (by simp), hp, fun q hq hb => ?_⟩
 rcases List.mem_append.1 hq with hq | hq
 ·rcases h with ⟨h1, h2, h3, h4⟩ | ⟨h1, h2⟩
  ·have a := h4 q hq hb
   have b := hr h1
   simp only
   omega
  ·exact absurd hb (h2 q hq)
 ·rw [List.mem_singleton] at hq
  subst hq
  exact .inr ⟨rfl, Int.le_refl _⟩
theorem get_arr (l : List Int) (j : Nat) (h : j < l.length) : l.toArray[j]! = l[j] := by simp [h]
theorem compact_upto (l : List Int) (hs : ∀ i j (hi : i < l.length) (hj : j < l.length), i ≤ j → l[i] ≤ l[j]) : ∀ m, m ≤ l.length → (Lib.compactUpTo l.toArray m).Pairwise (· < ·) ∧ ∀ x, x ∈ Lib.compactUpTo l.toArray m ↔ ∃ j, ∃ (h : j < l.length), j < m ∧ l[j] = x
 | 0, _ => ⟨by simp [Lib.compactUpTo], fun x => by simp [Lib.compactUpTo]⟩
 | m + 1, hm => by
  obtain ⟨ih1, ih2⟩ := compact_upto l hs m (by omega)
  have hml : m < l.length := by omega
  rw [Lib.compactUpTo_succ]
  by_cases hk : Lib.keeps l.toArray m = true
  ·rw [if_pos hk, get_arr l m hml]
   refine ⟨?_, fun x => ?_⟩
   ·rw [List.pairwise_append]
    refine ⟨ih1, by simp, fun x hx y hy => ?_⟩
    rw [List.mem_singleton] at hy
    subst hy
    obtain ⟨j, hj, hjm, rfl⟩ := (ih2 x).1 hx
    have hk' : m = 0 ∨ l.toArray[m]! ≠ l.toArray[m - 1]! := by simpa [Lib.keeps] using hk
    rcases hk' with h0 | hne
    ·omega
    ·rw [get_arr l m hml, get_arr l (m - 1) (by omega)] at hne
     have a := hs j (m - 1) hj (by omega) (by omega)
     have b := hs (m - 1) m (by omega) hml (by omega)
     omega
   ·rw [List.mem_append, ih2, List.mem_singleton]
    constructor
    ·rintro (⟨j, hj, hjm, rfl⟩ | rfl)
     ·exact ⟨j, hj, by omega, rfl⟩
     ·exact ⟨m, hml, by omega, rfl⟩
    ·rintro ⟨j, hj, hjm, rfl⟩
     by_cases e : j = m
     ·subst e; exact .inr rfl
     ·exact .inl ⟨j, hj, by omega, rfl⟩
  ·rw [if_neg hk, List.append_nil]
   refine ⟨ih1, fun x => ?_⟩
   rw [ih2]
   constructor
   ·rintro ⟨j, hj, hjm, rfl⟩
    exact ⟨j, hj, by omega, rfl⟩
   ·rintro ⟨j, hj, hjm, rfl⟩
    by_cases e : j = m
    ·subst e
     have hk' : ¬ (j = 0 ∨ l.toArray[j]! ≠ l.toArray[j - 1]!) := by simpa [Lib.keeps] using hk
     have h0 : j ≠ 0 := fun h => hk' (.inl h)
     have h1 : l.toArray[j]! = l.toArray[j - 1]! := Classical.byContradiction fun h => hk' (.inr h)
     rw [get_arr l j hml, get_arr l (j - 1) (by omega)] at h1
     exact ⟨j - 1, by omega, by omega, h1.symm⟩
    ·exact ⟨j, hj, by omega, rfl⟩
theorem compact_spec (l : List Int) (h : l.Pairwise (· ≤ ·)) : (Lib.compact l).Pairwise (· < ·) ∧ ∀ x, x ∈ Lib.compact l ↔ x ∈ l := by
 have hs : ∀ i j (hi : i < l.length) (hj : j < l.length), i ≤ j → l[i] ≤ l[j] := fun i j hi hj hij => by
  rcases Nat.lt_or_eq_of_le hij with h1 | h1
  ·exact List.pairwise_iff_getElem.1 h i j hi hj h1
  ·subst h1; exact Int.le_refl _
 obtain ⟨h1, h2⟩ := compact_upto l hs l.length (Nat.le_refl _)
 refine ⟨h1, fun x => (h2 x).trans ?_⟩
 rw [List.mem_iff_getElem]
 constructor
 ·rintro ⟨j, hj, _, rfl⟩; exact ⟨j, hj, rfl⟩
 ·rintro ⟨j, hj, rfl⟩; exact ⟨j, hj, hj, rfl⟩
def startsR (l : List S61) : List Int := Lib.compact ((l.map (·.f0)).mergeSort fun x y => decide (x ≤ y))
theorem startsR_spec (l : List S61) : (startsR l).Pairwise (· < ·) ∧ (∀ x, x ∈ startsR l ↔ ∃ u ∈ l, u.f0 = x) ∧ (startsR l).length ≤ l.length := by
 have hp : ((l.map (·.f0)).mergeSort fun x y => decide (x ≤ y)).Pairwise (· ≤ ·) := by
  have := List.pairwise_mergeSort (le := fun x y : Int => decide (x ≤ y)) (fun a b c h1 h2 => by simp at *; omega) (fun a b => by simp; omega) (l.map (·.f0))
  exact this.imp fun h => by simpa using h
 obtain ⟨h1, h2⟩ := compact_spec _ hp
 refine ⟨h1, fun x => (h2 x).trans ?_, ?_⟩
 ·rw [List.mem_mergeSort, List.mem_map]
 ·have := compact_len ((l.map (·.f0)).mergeSort fun x y => decide (x ≤ y))
  simpa [startsR] using this
theorem starts_l0 (l : List S61) (hlen : l.length ≤ 4096) : ∀ (d n : Nat) (acc : List Int), n ≤ l.length → l.length - n = d → acc = (l.take n).map (·.f0) → Ev (fun k => demand_starts.l0 k acc l (l.length : Int) (n : Int)) (startsR l) := by
 intro d
 induction d with
 | zero =>
  intro n acc h1 h2 h3
  have e : n = l.length := by omega
  subst e
  rw [List.take_length] at h3
  refine Ev.step (f := fun _ => some (startsR l)) (fun k => ?_) (Ev.now _)
  simp only [demand_starts.l0]
  rw [if_neg (by omega)]
  unfold Q.slices_Sort.f Q.slices_Compact.f slices_Sort.f slices_Compact.f startsR
  subst h3
  rw [if_pos (by simpa using hlen), Option.bind_some, if_pos (by simpa using hlen), Option.bind_some]
 | succ d ih =>
  intro n acc h1 h2 h3
  have hn : n < l.length := by omega
  refine Ev.step (fun k => ?_) (ih (n + 1) (acc ++ [l[n].f0]) (by omega) (by omega) (by rw [h3, List.take_succ_eq_append_getElem hn, List.map_append]; rfl))
  simp only [demand_starts.l0]
  rw [if_pos (by omega), if_pos (by omega), if_pos (by omega), if_pos (by rw [h3]; simp; omega), rd_at l n hn, wrap_succ n (by omega)]
theorem starts_eq (l : List S61) (hlen : l.length ≤ 4096) : Ev (fun k => demand_starts.f k l) (startsR l) := by
 simpa [demand_starts.f] using starts_l0 l hlen l.length 0 [] (by omega) (by omega) (by simp)
def sumGe : List S61 → Int → Int
 | [], _ => 0
 | w :: l, a => (if a ≤ w.f0 then w.f2 else 0) + sumGe l a
theorem sumGe_append (l m : List S61) (a : Int) : sumGe (l ++ m) a = sumGe l a + sumGe m a := by
 induction l with
 | nil => simp [sumGe]
 | cons w l ih => simp only [List.cons_append, sumGe, ih]; omega
theorem dem_all {l : List S61} {b : Int} (h : ∀ w ∈ l, w.f1 ≤ b) (a : Int) : dem l a b = sumGe l a := by
 induction l with
 | nil => rfl
 | cons w l ih =>
  have hw := h w List.mem_cons_self
  simp only [dem, sumGe, ih fun u hu => h u (List.mem_cons_of_mem _ hu)]
  by_cases c : a ≤ w.f0
  ·rw [if_pos c, if_pos ⟨c, hw⟩]
  ·rw [if_neg c, if_neg (fun h => c h.1)]
theorem dem_none {l : List S61} {b : Int} (h : ∀ w ∈ l, b < w.f1) (a : Int) : dem l a b = 0 := by
 induction l with
 | nil => rfl
 | cons w l ih =>
  have hw := h w List.mem_cons_self
  simp only [dem, ih fun u hu => h u (List.mem_cons_of_mem _ hu)]
  rw [if_neg (by omega)]
  rfl
theorem dem_last (s : List S61) (hs : s.Pairwise fun x y => x.f1 ≤ y.f1) (a : Int) (i : Nat) (hi : i < s.length) (hl : ∀ (h : i + 1 < s.length), s[i + 1].f1 ≠ s[i].f1) : dem s a s[i].f1 = sumGe (s.take (i + 1)) a := by
 have hp := List.pairwise_iff_getElem.1 hs
 have h1 : ∀ w ∈ s.take (i + 1), w.f1 ≤ s[i].f1 := fun w hw => by
  obtain ⟨j, hj, rfl⟩ := List.mem_iff_getElem.1 hw
  rw [List.getElem_take]
  have hj' : j < i + 1 := by rw [List.length_take] at hj; omega
  by_cases e : j = i
  ·subst e; exact Int.le_refl _
  ·exact hp j i (by omega) hi (by omega)
 have h2 : ∀ w ∈ s.drop (i + 1), s[i].f1 < w.f1 := fun w hw => by
  obtain ⟨j, hj, rfl⟩ := List.mem_iff_getElem.1 hw
  rw [List.length_drop] at hj
  rw [List.getElem_drop]
  have hn := hl (by omega)
  have a1 := hp i (i + 1) hi (by omega) (by omega)
  by_cases e : j = 0
  ·subst e; simp only [Nat.add_zero]; omega
  ·have := hp (i + 1) (i + 1 + j) (by omega) (by omega) (by omega)
   omega
 generalize s[i].f1 = D at h1 h2 ⊢
 have e : dem s a D = dem (s.take (i + 1) ++ s.drop (i + 1)) a D := by rw [List.take_append_drop]
 rw [e, dem_append, dem_all h1, dem_none h2, Int.add_zero]
theorem sumGe_bound {l : List S61} (h : ∀ w ∈ l, Okw w) (a : Int) : 0 ≤ sumGe l a ∧ sumGe l a ≤ l.length * 1048576 := by
 have := dem_bound h a 2251799813685248
 rwa [dem_all (fun w hw => (h w hw).d1)] at this
theorem worst_l1 (l s : List S61) (st : List Int) (block : Int) (hm : mayB l = true) (hb0 : 0 ≤ block) (hb1 : block ≤ 1048576) (hp : s.Perm l) (hs : s.Pairwise fun x y => x.f1 ≤ y.f1) (hst : st.length ≤ l.length) (j : Nat) (hj : j < st.length) (hr0 : 0 ≤ st[j]) (hr1 : st[j] ≤ 1125899906842624) :
  ∀ (d i : Nat) (sum : Int), i ≤ s.length → s.length - i = d → sum = sumGe (s.take i) st[j] → (∀ v ∈ s.take i, Bad l block st[j] v.f1 → ∃ h : i < s.length, s[i].f1 = v.f1) →
  (∃ D, (∃ v ∈ s, v.f1 = D) ∧ Bad l block st[j] D ∧ (∀ v ∈ s, Bad l block st[j] v.f1 → D ≤ v.f1) ∧ Ev (fun n => demand_Worst.l1 n block 0 0 false s st[j] sum st (st.length : Int) (j : Int) s (s.length : Int) (i : Int)) (st[j], D, true, 0)) ∨
  ((∀ v ∈ s, ¬ Bad l block st[j] v.f1) ∧ ∀ res, Ev (fun n => demand_Worst.l0 n block 0 0 false s st (st.length : Int) ((j + 1 : Nat) : Int)) res → Ev (fun n => demand_Worst.l1 n block 0 0 false s st[j] sum st (st.length : Int) (j : Int) s (s.length : Int) (i : Int)) res) := by
 obtain ⟨hlen, hok⟩ := (mayB_iff l).1 hm
 have hls := hp.length_eq
 have hoks : ∀ w ∈ s, Okw w := fun w hw => hok w (hp.mem_iff.1 hw)
 have hpg := List.pairwise_iff_getElem.1 hs
 generalize st[j] = r at hr0 hr1 ⊢
 intro d
 induction d with
 | zero =>
  intro i sum h1 h2 h3 h4
  have e : i = s.length := by omega
  subst e
  rw [List.take_length] at h4
  refine .inr ⟨fun v hv hb => by obtain ⟨h, _⟩ := h4 v hv hb; omega, fun res h => Ev.step (fun n => ?_) h⟩
  simp only [demand_Worst.l1]
  rw [if_neg (by omega), wrap_succ j (by omega)]
 | succ d ih =>
  intro i sum h1 h2 h3 h4
  have hi : i < s.length := by omega
  have hw := hoks _ (List.getElem_mem hi)
  have w1 := hw.d1; have w2 := hw.r0; have w3 := hw.d0; have w4 := hw.c0; have w5 := hw.c1
  have hsb := sumGe_bound (l := s.take i) (fun w hw => hoks w (List.mem_of_mem_take hw)) r
  have hsb' := sumGe_bound (l := s.take (i + 1)) (fun w hw => hoks w (List.mem_of_mem_take hw)) r
  have hlt : (s.take i).length ≤ 4096 := by rw [List.length_take]; omega
  have hlt' : (s.take (i + 1)).length ≤ 4096 := by rw [List.length_take]; omega
  have hst' : sumGe (s.take (i + 1)) r = sum + (if r ≤ s[i].f0 then s[i].f2 else 0) := by
   rw [List.take_succ_eq_append_getElem hi, sumGe_append, ← h3]
   simp [sumGe]
  have hE1 : ∀ n, demand_Worst.l1 (n + 1) block 0 0 false s r sum st (st.length : Int) (j : Int) s (s.length : Int) (i : Int) = demand_Worst.j3 n block 0 0 false s r (sumGe (s.take (i + 1)) r) (i : Int) st (st.length : Int) (j : Int) s (s.length : Int) (i : Int) s[i].f0 s[i].f1 s[i].f2 := by
   intro n
   simp only [demand_Worst.l1]
   rw [if_pos (by omega), if_pos (by omega), if_pos (by omega), rd_at s i hi, hst']
   by_cases c : s[i].f0 ≥ r
   ·rw [if_pos c, if_pos (by omega), zsa (by omega) (by omega)]
   ·rw [if_neg c, if_neg (by omega), Int.add_zero]
  generalize hS : sumGe (s.take (i + 1)) r = S at hE1 hsb' hst'
  by_cases hg : ∃ h : i + 1 < s.length, s[i + 1].f1 = s[i].f1
  ·obtain ⟨hg1, hg2⟩ := hg
   have hE2 : ∀ n, demand_Worst.j3 (n + 1) block 0 0 false s r S (i : Int) st (st.length : Int) (j : Int) s (s.length : Int) (i : Int) s[i].f0 s[i].f1 s[i].f2 = demand_Worst.j4 n block 0 0 false s r S st (st.length : Int) (j : Int) s (s.length : Int) (i : Int) true s[i].f0 s[i].f1 s[i].f2 := by
    intro n
    simp only [demand_Worst.j3]
    rw [wrap_succ i (by omega), if_pos (by omega), if_pos (by omega), rd_at s (i + 1) hg1, hg2, beq_self_eq_true]
   have hE3 : ∀ n, demand_Worst.j4 (n + 1) block 0 0 false s r S st (st.length : Int) (j : Int) s (s.length : Int) (i : Int) true s[i].f0 s[i].f1 s[i].f2 = demand_Worst.j5 n block 0 0 false s r S st (st.length : Int) (j : Int) s (s.length : Int) (i : Int) true s[i].f0 s[i].f1 s[i].f2 := by
    intro n
    simp only [demand_Worst.j4]
    rw [if_pos trivial]
   have hE4 : ∀ n, demand_Worst.j5 (n + 1) block 0 0 false s r S st (st.length : Int) (j : Int) s (s.length : Int) (i : Int) true s[i].f0 s[i].f1 s[i].f2 = demand_Worst.l1 n block 0 0 false s r S st (st.length : Int) (j : Int) s (s.length : Int) ((i + 1 : Nat) : Int) := by
    intro n
    simp only [demand_Worst.j5]
    rw [if_pos trivial, wrap_succ i (by omega)]
   have hgo : ∀ {res}, Ev (fun n => demand_Worst.l1 n block 0 0 false s r S st (st.length : Int) (j : Int) s (s.length : Int) ((i + 1 : Nat) : Int)) res → Ev (fun n => demand_Worst.l1 n block 0 0 false s r sum st (st.length : Int) (j : Int) s (s.length : Int) (i : Int)) res :=
    fun h => Ev.step hE1 (Ev.step hE2 (Ev.step hE3 (Ev.step hE4 h)))
   rcases ih (i + 1) S (by omega) (by omega) hS.symm (fun v hv hb => ⟨hg1, by
    rw [List.take_succ_eq_append_getElem hi] at hv
    rcases List.mem_append.1 hv with hv | hv
    ·obtain ⟨_, e⟩ := h4 v hv hb; omega
    ·rw [List.mem_singleton] at hv; subst hv; exact hg2⟩) with ⟨D, a, b, c, h⟩ | ⟨a, h⟩
   ·exact .inl ⟨D, a, b, c, hgo h⟩
   ·exact .inr ⟨a, fun res hr => hgo (h res hr)⟩
  ·have hlast : ∀ h : i + 1 < s.length, s[i + 1].f1 ≠ s[i].f1 := fun h e => hg ⟨h, e⟩
   have hdem : dem l r s[i].f1 = S := by rw [← dem_perm hp, dem_last s hs r i hi hlast, hS]
   have hbadi : Bad l block r s[i].f1 ↔ r < s[i].f1 ∧ 0 < S ∧ s[i].f1 - r < S + block := by unfold Bad; rw [hdem]
   have hE2 : ∀ n, demand_Worst.j3 (n + 1) block 0 0 false s r S (i : Int) st (st.length : Int) (j : Int) s (s.length : Int) (i : Int) s[i].f0 s[i].f1 s[i].f2 = demand_Worst.j4 n block 0 0 false s r S st (st.length : Int) (j : Int) s (s.length : Int) (i : Int) false s[i].f0 s[i].f1 s[i].f2 := by
    intro n
    simp only [demand_Worst.j3]
    rw [wrap_succ i (by omega)]
    by_cases c : ((i + 1 : Nat) : Int) < (s.length : Int)
    ·have c' : i + 1 < s.length := by omega
     rw [if_pos c, if_pos (by omega), rd_at s (i + 1) c', beq_eq_false_iff_ne.2 (hlast c')]
    ·rw [if_neg c]
   by_cases hbad : Bad l block r s[i].f1
   ·obtain ⟨b1, b2, b3⟩ := hbadi.1 hbad
    refine .inl ⟨s[i].f1, ⟨_, List.getElem_mem hi, rfl⟩, hbad, fun v hv hb => ?_, ?_⟩
    ·obtain ⟨m, hm', rfl⟩ := List.mem_iff_getElem.1 hv
     by_cases c : m < i
     ·obtain ⟨_, e⟩ := h4 s[m] (List.mem_take_iff_getElem.2 ⟨m, by omega, rfl⟩) hb
      omega
     ·by_cases e : m = i
      ·subst e; exact Int.le_refl _
      ·exact hpg i m hi hm' (by omega)
    ·refine Ev.step hE1 (Ev.step hE2 (Ev.step (f := fun n => demand_Worst.j5 n block 0 0 false s r S st (st.length : Int) (j : Int) s (s.length : Int) (i : Int) false s[i].f0 s[i].f1 s[i].f2) (fun n => ?_) (Ev.step (f := fun _ => some (r, s[i].f1, true, 0)) (fun n => ?_) (Ev.now _))))
     ·simp only [demand_Worst.j4]
      rw [if_neg (by simp), if_neg (by omega), beq_eq_false_iff_ne.2 (by omega)]
     ·simp only [demand_Worst.j5]
      rw [if_neg (by simp), zsa (by omega) (by omega), zsa (by omega) (by omega), if_pos (by omega)]
   ·have hno : ¬ (r < s[i].f1 ∧ 0 < S ∧ s[i].f1 - r < S + block) := fun h => hbad (hbadi.2 h)
    have hE5 : ∀ b, (b = true ∨ (b = false ∧ ¬ (s[i].f1 - r < S + block))) → ∀ n, demand_Worst.j5 (n + 1) block 0 0 false s r S st (st.length : Int) (j : Int) s (s.length : Int) (i : Int) b s[i].f0 s[i].f1 s[i].f2 = demand_Worst.l1 n block 0 0 false s r S st (st.length : Int) (j : Int) s (s.length : Int) ((i + 1 : Nat) : Int) := by
     intro b hb n
     simp only [demand_Worst.j5]
     rw [wrap_succ i (by omega)]
     rcases hb with rfl | ⟨rfl, hb⟩
     ·rw [if_pos rfl]
     ·rw [if_neg (by simp), zsa (by omega) (by omega), zsa (by omega) (by omega), if_neg (by omega)]
    have hgo : ∀ {res}, Ev (fun n => demand_Worst.l1 n block 0 0 false s r S st (st.length : Int) (j : Int) s (s.length : Int) ((i + 1 : Nat) : Int)) res → Ev (fun n => demand_Worst.l1 n block 0 0 false s r sum st (st.length : Int) (j : Int) s (s.length : Int) (i : Int)) res := by
     intro res h
     refine Ev.step hE1 (Ev.step hE2 (Ev.step (f := fun n => demand_Worst.j5 n block 0 0 false s r S st (st.length : Int) (j : Int) s (s.length : Int) (i : Int) (if s[i].f1 ≤ r then true else S == 0) s[i].f0 s[i].f1 s[i].f2) (fun n => ?_) (Ev.step (hE5 _ ?_) h)))
     ·simp only [demand_Worst.j4]
      rw [if_neg (by simp)]
      by_cases c : s[i].f1 ≤ r
      ·rw [if_pos c, if_pos c, decide_eq_true c]
      ·rw [if_neg c, if_neg c]
     ·by_cases c : s[i].f1 ≤ r
      ·rw [if_pos c]; exact .inl rfl
      ·rw [if_neg c]
       by_cases c2 : S = 0
       ·rw [c2]; exact .inl rfl
       ·exact .inr ⟨beq_eq_false_iff_ne.2 c2, fun h3 => hno ⟨by omega, by omega, h3⟩⟩
    rcases ih (i + 1) S (by omega) (by omega) hS.symm (fun v hv hb => by
     rw [List.take_succ_eq_append_getElem hi] at hv
     rcases List.mem_append.1 hv with hv | hv
     ·obtain ⟨_, e⟩ := h4 v hv hb
      rw [← e] at hb
      exact absurd hb hbad
     ·rw [List.mem_singleton] at hv; subst hv; exact absurd hb hbad) with ⟨D, a, b, c, h⟩ | ⟨a, h⟩
    ·exact .inl ⟨D, a, b, c, hgo h⟩
    ·exact .inr ⟨a, fun res hr => hgo (h res hr)⟩
theorem worst_l0 (l : List S61) (block : Int) (hm : mayB l = true) (hb0 : 0 ≤ block) (hb1 : block ≤ 1048576) :
  ∀ (d j : Nat), j ≤ (startsR l).length → (startsR l).length - j = d → (∀ i (h : i < (startsR l).length), i < j → ∀ v ∈ l, ¬ Bad l block (startsR l)[i] v.f1) →
  ∃ r, IsWorst l block r ∧ Ev (fun n => demand_Worst.l0 n block 0 0 false (sortR l) (startsR l) ((startsR l).length : Int) (j : Int)) (r.1, r.2.1, r.2.2, 0) := by
 obtain ⟨hlen, hok⟩ := (mayB_iff l).1 hm
 obtain ⟨hp, hs⟩ := sortR_spec l
 obtain ⟨hst1, hst2, hst3⟩ := startsR_spec l
 have hpg := List.pairwise_iff_getElem.1 hst1
 generalize sortR l = s at hp hs ⊢
 generalize startsR l = st at hst1 hst2 hst3 hpg ⊢
 intro d
 induction d with
 | zero =>
  intro j h1 h2 h3
  have e : j = st.length := by omega
  subst e
  refine ⟨(0, 0, false), .inr ⟨rfl, fun p hp' => ?_⟩, Ev.step (f := fun _ => some (0, 0, false, 0)) (fun n => ?_) (Ev.now _)⟩
  ·obtain ⟨u, hu, v, hv, rfl⟩ := zgb.1 hp'
   obtain ⟨i, hi, e⟩ := List.mem_iff_getElem.1 ((hst2 u.f0).2 ⟨u, hu, rfl⟩)
   have := h3 i hi hi v hv
   rw [e] at this
   exact this
  ·simp only [demand_Worst.l0]
   rw [if_neg (by omega)]
 | succ d ih =>
  intro j h1 h2 h3
  have hj : j < st.length := by omega
  obtain ⟨u0, hu0, eu0⟩ := (hst2 st[j]).1 (List.getElem_mem hj)
  have hu := hok u0 hu0
  have hE : ∀ n, demand_Worst.l0 (n + 1) block 0 0 false s st (st.length : Int) (j : Int) = demand_Worst.l1 n block 0 0 false s st[j] 0 st (st.length : Int) (j : Int) s (s.length : Int) ((0 : Nat) : Int) := by
   intro n
   simp only [demand_Worst.l0]
   rw [if_pos (by omega), if_pos (by omega), if_pos (by omega)]
   have e : rd st (j : Int) = st[j] := by
    unfold rd
    rw [Int.toNat_natCast, List.getD_eq_getElem?_getD, List.getElem?_eq_getElem hj]
    rfl
   rw [e]
   rfl
  rcases worst_l1 l s st block hm hb0 hb1 hp hs hst3 j hj (by rw [← eu0]; exact hu.r0) (by rw [← eu0]; exact hu.r1) s.length 0 0 (by omega) (by omega) (by simp [sumGe]) (by simp) with ⟨D, ⟨v, hv, rfl⟩, hb, hmin, h⟩ | ⟨hno, h⟩
  ·refine ⟨(st[j], v.f1, true), .inl ⟨rfl, zgb.2 ⟨u0, hu0, v, hp.mem_iff.1 hv, by rw [eu0]⟩, hb, fun p hp' hbp => ?_⟩, Ev.step hE h⟩
   obtain ⟨u, hu', v', hv', rfl⟩ := zgb.1 hp'
   obtain ⟨i, hi, e⟩ := List.mem_iff_getElem.1 ((hst2 u.f0).2 ⟨u, hu', rfl⟩)
   simp only at hbp ⊢
   rcases Nat.lt_trichotomy i j with c | c | c
   ·have := h3 i hi c v' hv'
    rw [e] at this
    exact absurd hbp this
   ·subst c
    rw [← e] at hbp ⊢
    exact .inr ⟨rfl, hmin v' (hp.mem_iff.2 hv') hbp⟩
   ·have := hpg j i hj hi c
    rw [e] at this
    exact .inl this
  ·obtain ⟨r, hr, hR⟩ := ih (j + 1) (by omega) (by omega) (fun i hi hij v hv => by
    by_cases c : i = j
    ·subst c; exact hno v (hp.mem_iff.2 hv)
    ·exact h3 i hi (by omega) v hv)
   exact ⟨r, hr, Ev.step hE (h _ hR)⟩
theorem worst_eq (l : List S61) (block : Int) (hm : mayB l = true) (hb0 : 0 ≤ block) (hb1 : block ≤ 1048576) : ∃ r, IsWorst l block r ∧ Ev (fun n => demand_Worst.f n l block) (r.1, r.2.1, r.2.2, 0) := by
 obtain ⟨hlen, hok⟩ := (mayB_iff l).1 hm
 obtain ⟨r, hr, hE⟩ := worst_l0 l block hm hb0 hb1 (startsR l).length 0 (by omega) (by omega) (by omega)
 refine ⟨r, hr, Ev.congr (f := fun n => demand_Worst.j0 n l block 0 0 false false) (fun n => ?_) (Ev.step (f := fun n => (demand_starts.f n l).bind fun st => demand_Worst.l0 n block 0 0 false (sortR l) st (st.length : Int) 0) (fun n => ?_) (Ev.bind (starts_eq l hlen) hE))⟩
 ·unfold demand_Worst.f
  rw [may_eq, hm, Option.bind_some, if_pos rfl, if_neg (by omega), decide_eq_false (by omega)]
 ·simp only [demand_Worst.j0]
  rw [if_neg (by simp)]
  unfold Q.sortedByDue.f sortedByDue.f
  rw [if_pos hlen, Option.bind_some]
end Go.Proofs.YtfondhcppjkchaaGreat.Q.Mw
