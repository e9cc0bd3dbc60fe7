import Derived.Test.YtlmmdpdkddmklabPa
namespace Go.Proofs.Ytlmmdpdkddmklab.Q
open Go.RowKit Go.Proofs.YtlmmdpdkddmklabW.PrintWords Go.Proofs.YtlmmdpdkddmklabW.PrintLast
set_option linter.unusedVariables false

/-- An interval in which there is too much. -/
def Bad (l : List S38) (block a b : Int) : Prop := a < b ∧ 0 < dem l a b ∧ b - a < dem l a b + block
/-- The first of the pairs P at which there is too much; or there is none. -/
def BestOf (l : List S38) (block : Int) (P : List (Int × Int)) (r : Int × Int × Bool) : Prop :=
  (r.2.2 = true ∧ (r.1, r.2.1) ∈ P ∧ Bad l block r.1 r.2.1 ∧ ∀ p ∈ P, Bad l block p.1 p.2 → r.1 < p.1 ∨ (r.1 = p.1 ∧ r.2.1 ≤ p.2)) ∨
  (r = (0, 0, false) ∧ ∀ p ∈ P, ¬ Bad l block p.1 p.2)
def pairsOf (l : List S38) : List (Int × Int) := l.flatMap fun u => l.map fun v => (u.f0, v.f1)
theorem mem_pairs {l : List S38} {p : Int × Int} : p ∈ pairsOf l ↔ ∃ u ∈ l, ∃ v ∈ l, p = (u.f0, v.f1) := by
  unfold pairsOf
  rw [List.mem_flatMap]
  constructor
  · rintro ⟨u, hu, h⟩
    obtain ⟨v, hv, e⟩ := List.mem_map.1 h
    exact ⟨u, hu, v, hv, e.symm⟩
  · rintro ⟨u, hu, v, hv, rfl⟩
    exact ⟨u, hu, List.mem_map.2 ⟨v, hv, rfl⟩⟩
def IsWorst (l : List S38) (block : Int) (r : Int × Int × Bool) : Prop := BestOf l block (pairsOf l) r
theorem BestOf.unique {l m : List S38} {block : Int} {P P' : List (Int × Int)} (hP : ∀ p, p ∈ P ↔ p ∈ P') (hd : ∀ a b, Bad l block a b ↔ Bad m block a b) {r r' : Int × Int × Bool} (h : BestOf l block P r) (h' : BestOf m block P' r') : r = r' := by
  obtain ⟨x, y, i⟩ := r
  obtain ⟨x', y', i'⟩ := r'
  rcases h with ⟨h1, h2, h3, h4⟩ | ⟨h1, h2⟩ <;> rcases h' with ⟨k1, k2, k3, k4⟩ | ⟨k1, k2⟩
  · have a := h4 _ ((hP _).2 k2) ((hd _ _).2 k3)
    have b := k4 _ ((hP _).1 h2) ((hd _ _).1 h3)
    simp only at a b h1 k1
    have e1 : x = x' := by omega
    have e2 : y = y' := by omega
    rw [e1, e2, h1, k1]
  · exact absurd ((hd _ _).1 h3) (k2 _ ((hP _).1 h2))
  · exact absurd ((hd _ _).2 k3) (h2 _ ((hP _).2 k2))
  · rw [h1, k1]
theorem IsWorst.unique {l : List S38} {block : Int} {r r' : Int × Int × Bool} (h : IsWorst l block r) (h' : IsWorst l block r') : r = r' := BestOf.unique (fun _ => Iff.rfl) (fun _ _ => Iff.rfl) h h'
theorem IsWorst.perm {l m : List S38} (hp : l.Perm m) {block : Int} {r r' : Int × Int × Bool} (h : IsWorst l block r) (h' : IsWorst m block r') : r = r' := by
  refine BestOf.unique (fun p => ?_) (fun a b => ?_) h h'
  · simp only [mem_pairs, hp.mem_iff]
  · unfold Bad
    rw [dem_perm hp]

/-- One pair more. -/
theorem BestOf.skip {l : List S38} {block : Int} {P : List (Int × Int)} {r : Int × Int × Bool} (h : BestOf l block P r) (p : Int × Int) (hp : ¬ Bad l block p.1 p.2 ∨ (r.2.2 = true ∧ (r.1 < p.1 ∨ (r.1 = p.1 ∧ r.2.1 ≤ p.2)))) : BestOf l block (P ++ [p]) r := by
  rcases h with ⟨h1, h2, h3, h4⟩ | ⟨h1, h2⟩
  · refine .inl ⟨h1, List.mem_append_left _ h2, h3, fun q hq hb => ?_⟩
    rcases List.mem_append.1 hq with hq | hq
    · exact h4 q hq hb
    · rw [List.mem_singleton] at hq
      subst hq
      rcases hp with hp | hp
      · exact absurd hb hp
      · exact hp.2
  · refine .inr ⟨h1, fun q hq => ?_⟩
    rcases List.mem_append.1 hq with hq | hq
    · exact h2 q hq
    · rw [List.mem_singleton] at hq
      subst hq
      rcases hp with hp | hp
      · exact hp
      · rw [h1] at hp
        cases hp.1
theorem BestOf.take {l : List S38} {block : Int} {P : List (Int × Int)} {r : Int × Int × Bool} (h : BestOf l block P r) (p : Int × Int) (hp : Bad l block p.1 p.2) (hr : r.2.2 = true → ¬ (r.1 < p.1 ∨ (r.1 = p.1 ∧ r.2.1 ≤ p.2))) : BestOf l block (P ++ [p]) (p.1, p.2, true) := by
  refine .inl ⟨rfl, List.mem_append_right _ (by simp), hp, fun q hq hb => ?_⟩
  rcases List.mem_append.1 hq with hq | hq
  · rcases h with ⟨h1, h2, h3, h4⟩ | ⟨h1, h2⟩
    · have a := h4 q hq hb
      have b := hr h1
      simp only
      omega
    · exact absurd hb (h2 q hq)
  · rw [List.mem_singleton] at hq
    subst hq
    exact .inr ⟨rfl, Int.le_refl _⟩

/-! ### the reference's Worst -/
theorem refWorst_l1 (l : List S38) (block : Int) (hm : mayB l = true) (hb0 : 0 ≤ block) (hb1 : block ≤ 1048576) (i : Nat) (hi : i < l.length) (P : List (Int × Int)) (res : Int × Int × Bool) :
    ∀ (d k : Nat) (r : Int × Int × Bool), k ≤ l.length → l.length - k = d → BestOf l block (P ++ (l.take k).map fun v => (l[i].f0, v.f1)) r →
    ∃ r', BestOf l block (P ++ l.map fun v => (l[i].f0, v.f1)) r' ∧ (Ev (fun n => carillonref23_Worst.l0 n l block r'.1 r'.2.1 r'.2.2 ((i + 1 : Nat) : Int)) res → Ev (fun n => carillonref23_Worst.l1 n l block r.1 r.2.1 r.2.2 (i : Int) (k : Int)) res) := by
  obtain ⟨hlen, hok⟩ := (mayB_iff l).1 hm
  intro d
  induction d with
  | zero =>
    intro k r h1 h2 h3
    have e : k = l.length := by omega
    subst e
    rw [List.take_length] at h3
    refine ⟨r, h3, fun h => Ev.step (fun n => ?_) h⟩
    simp only [carillonref23_Worst.l1]
    rw [if_neg (by omega), wrap_succ i (by omega)]
  | succ d ih =>
    intro k r h1 h2 h3
    have hk : k < l.length := by omega
    have hu := hok _ (List.getElem_mem hi)
    have hv := hok _ (List.getElem_mem hk)
    have := hu.r0; have := hu.r1; have := hv.d0; have := hv.d1; have := hv.r0
    have hdm := dem_bound hok l[i].f0 l[k].f1
    have etk : ((l.take (k + 1)).map fun v => (l[i].f0, v.f1)) = ((l.take k).map fun v => (l[i].f0, v.f1)) ++ [(l[i].f0, l[k].f1)] := by
      rw [List.take_succ_eq_append_getElem hk, List.map_append]; rfl
    have ih' : ∀ r, BestOf l block (P ++ ((l.take k).map fun v => (l[i].f0, v.f1)) ++ [(l[i].f0, l[k].f1)]) r → ∃ r', BestOf l block (P ++ l.map fun v => (l[i].f0, v.f1)) r' ∧ (Ev (fun n => carillonref23_Worst.l0 n l block r'.1 r'.2.1 r'.2.2 ((i + 1 : Nat) : Int)) res → Ev (fun n => carillonref23_Worst.l1 n l block r.1 r.2.1 r.2.2 (i : Int) ((k + 1 : Nat) : Int)) res) :=
      fun r hr => ih (k + 1) r (by omega) (by omega) (by rw [etk, ← List.append_assoc]; exact hr)
    -- skipped at once
    by_cases hsk : l[k].f1 ≤ l[i].f0 ∨ (r.2.2 = true ∧ (r.1 < l[i].f0 ∨ (r.1 = l[i].f0 ∧ r.2.1 ≤ l[k].f1)))
    · obtain ⟨r', hr', hE⟩ := ih' r (h3.skip (l[i].f0, l[k].f1) (by
        rcases hsk with h | h
        · exact .inl fun hb => by have := hb.1; simp only at this; omega
        · exact .inr h))
      refine ⟨r', hr', fun h => ?_⟩
      refine Ev.step (f := fun n => carillonref23_Worst.j2 n l block r.1 r.2.1 r.2.2 (i : Int) (k : Int) l[i].f0 l[k].f1 true) (fun n => ?_) (Ev.step (fun n => ?_) (hE h))
      · simp only [carillonref23_Worst.l1]
        rw [if_pos (by omega), if_pos (by omega), if_pos (by omega), if_pos (by omega), rd_at l i hi, rd_at l k hk]
        by_cases c1 : l[k].f1 ≤ l[i].f0
        · rw [if_pos c1]
        · rw [if_neg c1]
          obtain ⟨c2, c3⟩ := hsk.resolve_left c1
          rw [if_pos c2]
          by_cases c4 : l[i].f0 > r.1
          · rw [if_pos c4]
          · rw [if_neg c4, if_pos (by omega), decide_eq_true (by omega)]
      · simp only [carillonref23_Worst.j2]
        rw [if_pos trivial, wrap_succ k (by omega)]
    · have c1 : ¬ l[k].f1 ≤ l[i].f0 := fun h => hsk (.inl h)
      have c2 : r.2.2 = true → ¬ (r.1 < l[i].f0 ∨ (r.1 = l[i].f0 ∧ r.2.1 ≤ l[k].f1)) := fun h h' => hsk (.inr ⟨h, h'⟩)
      have hE0 : ∀ n, carillonref23_Worst.l1 (n + 1) l block r.1 r.2.1 r.2.2 (i : Int) (k : Int) = carillonref23_Worst.j2 n l block r.1 r.2.1 r.2.2 (i : Int) (k : Int) l[i].f0 l[k].f1 false := by
        intro n
        simp only [carillonref23_Worst.l1]
        rw [if_pos (by omega), if_pos (by omega), if_pos (by omega), if_pos (by omega), rd_at l i hi, rd_at l k hk, if_neg c1]
        cases hr : r.2.2 with
        | true =>
          have c3 := c2 hr
          rw [if_pos rfl, if_neg (by omega)]
          by_cases c4 : l[i].f0 = r.1
          · rw [if_pos c4, decide_eq_false (by omega)]
          · rw [if_neg c4]
        | false => rw [if_neg (by simp)]
      by_cases hbad : Bad l block l[i].f0 l[k].f1
      · obtain ⟨r', hr', hE⟩ := ih' _ (h3.take (l[i].f0, l[k].f1) hbad c2)
        refine ⟨r', hr', fun h => Ev.step hE0 (Ev.step (f := fun n => (carillonref23_Of.f n l l[i].f0 l[k].f1).bind fun t => (if t > 0 then (if (wrap64 (t + block)) > (wrap64 (l[k].f1 - l[i].f0)) then (carillonref23_Worst.l1 n l block l[i].f0 l[k].f1 true (i : Int) (wrap64 ((k : Int) + 1))) else (carillonref23_Worst.l1 n l block r.1 r.2.1 r.2.2 (i : Int) (wrap64 ((k : Int) + 1)))) else (carillonref23_Worst.l1 n l block r.1 r.2.1 r.2.2 (i : Int) (wrap64 ((k : Int) + 1))))) (fun n => ?_) (Ev.bind (refOf_eq l _ _ hm) (Ev.congr (fun n => ?_) (hE h))))⟩
        · simp only [carillonref23_Worst.j2]
          rw [if_neg (by simp)]
        · have h1 := hbad.2.1
          have h2 := hbad.2.2
          rw [if_pos h1, wrap_id (by omega) (by omega), wrap_id (by omega) (by omega), if_pos (by omega), wrap_succ k (by omega)]
      · obtain ⟨r', hr', hE⟩ := ih' r (h3.skip (l[i].f0, l[k].f1) (.inl hbad))
        refine ⟨r', hr', fun h => Ev.step hE0 (Ev.step (f := fun n => (carillonref23_Of.f n l l[i].f0 l[k].f1).bind fun t => (if t > 0 then (if (wrap64 (t + block)) > (wrap64 (l[k].f1 - l[i].f0)) then (carillonref23_Worst.l1 n l block l[i].f0 l[k].f1 true (i : Int) (wrap64 ((k : Int) + 1))) else (carillonref23_Worst.l1 n l block r.1 r.2.1 r.2.2 (i : Int) (wrap64 ((k : Int) + 1)))) else (carillonref23_Worst.l1 n l block r.1 r.2.1 r.2.2 (i : Int) (wrap64 ((k : Int) + 1))))) (fun n => ?_) (Ev.bind (refOf_eq l _ _ hm) (Ev.congr (fun n => ?_) (hE h))))⟩
        · simp only [carillonref23_Worst.j2]
          rw [if_neg (by simp)]
        · by_cases h1 : dem l l[i].f0 l[k].f1 > 0
          · have h2 : ¬ (l[k].f1 - l[i].f0 < dem l l[i].f0 l[k].f1 + block) := fun h2 => hbad ⟨by omega, h1, h2⟩
            rw [if_pos h1, wrap_id (by omega) (by omega), wrap_id (by omega) (by omega), if_neg (by omega), wrap_succ k (by omega)]
          · rw [if_neg h1, wrap_succ k (by omega)]
theorem pairs_take (l : List S38) (i : Nat) (hi : i < l.length) : ((l.take (i + 1)).flatMap fun u => l.map fun v => (u.f0, v.f1)) = ((l.take i).flatMap fun u => l.map fun v => (u.f0, v.f1)) ++ l.map fun v => (l[i].f0, v.f1) := by
  rw [List.take_succ_eq_append_getElem hi, List.flatMap_append]
  simp
theorem refWorst_l0 (l : List S38) (block : Int) (hm : mayB l = true) (hb0 : 0 ≤ block) (hb1 : block ≤ 1048576) :
    ∀ (d i : Nat) (r : Int × Int × Bool), i ≤ l.length → l.length - i = d → BestOf l block ((l.take i).flatMap fun u => l.map fun v => (u.f0, v.f1)) r →
    ∃ r', IsWorst l block r' ∧ Ev (fun n => carillonref23_Worst.l0 n l block r.1 r.2.1 r.2.2 (i : Int)) r' := by
  obtain ⟨hlen, hok⟩ := (mayB_iff l).1 hm
  intro d
  induction d with
  | zero =>
    intro i r h1 h2 h3
    have e : i = l.length := by omega
    subst e
    rw [List.take_length] at h3
    refine ⟨r, h3, Ev.step (f := fun _ => some r) (fun n => ?_) (Ev.now _)⟩
    simp only [carillonref23_Worst.l0]
    rw [if_neg (by omega)]
  | succ d ih =>
    intro i r h1 h2 h3
    have hi : i < l.length := by omega
    obtain ⟨r1, hr1, _⟩ := refWorst_l1 l block hm hb0 hb1 i hi _ (0, 0, false) l.length 0 r (by omega) (by omega) (by simpa using h3)
    obtain ⟨r', hr', hE⟩ := ih (i + 1) r1 (by omega) (by omega) (by rw [pairs_take l i hi]; exact hr1)
    obtain ⟨r2, hr2, hE2⟩ := refWorst_l1 l block hm hb0 hb1 i hi _ r' l.length 0 r (by omega) (by omega) (by simpa using h3)
    have e : r2 = r1 := BestOf.unique (fun _ => Iff.rfl) (fun _ _ => Iff.rfl) hr2 hr1
    subst e
    refine ⟨r', hr', Ev.step (fun n => ?_) (hE2 hE)⟩
    simp only [carillonref23_Worst.l0]
    rw [if_pos (by omega)]
    rfl
theorem refWorst_eq (l : List S38) (block : Int) (hm : mayB l = true) (hb0 : 0 ≤ block) (hb1 : block ≤ 1048576) : ∃ r, IsWorst l block r ∧ Ev (fun n => carillonref23_Worst.f n l block) r := by
  obtain ⟨r, hr, hE⟩ := refWorst_l0 l block hm hb0 hb1 l.length 0 (0, 0, false) (by omega) (by omega) (.inr ⟨rfl, by simp⟩)
  exact ⟨r, hr, by simpa [carillonref23_Worst.f] using hE⟩
end Go.Proofs.Ytlmmdpdkddmklab.Q
