import Derived.Test.YtlmmdpdkddmklabQx4
namespace Go.Proofs.Ytlmmdpdkddmklab.Q
open Go.RowKit Go.Proofs.YtlmmdpdkddmklabW.PrintWords Go.Proofs.YtlmmdpdkddmklabW.PrintLast
set_option linter.unusedVariables false

/-! ### words on lists of works -/
def mayB (l : List S38) : Bool := decide (l.length ≤ 4096) && !l.any badW
structure Okw (w : S38) : Prop where
  r0 : 0 ≤ w.f0
  r1 : w.f0 ≤ 1125899906842624
  d0 : w.f0 < w.f1
  d1 : w.f1 ≤ 2251799813685248
  c0 : 1 ≤ w.f2
  c1 : w.f2 ≤ 1048576
theorem badW_ok (w : S38) : badW w = false ↔ Okw w := by
  unfold badW
  simp only [Bool.or_eq_false_iff, decide_eq_false_iff_not]
  constructor
  · rintro ⟨⟨⟨⟨⟨h1, h2⟩, h3⟩, h4⟩, h5⟩, h6⟩
    exact ⟨by omega, by omega, by omega, by omega, by omega, by omega⟩
  · rintro ⟨h1, h2, h3, h4, h5, h6⟩
    exact ⟨⟨⟨⟨⟨by omega, by omega⟩, by omega⟩, by omega⟩, by omega⟩, by omega⟩
theorem mayB_iff (l : List S38) : mayB l = true ↔ l.length ≤ 4096 ∧ ∀ w ∈ l, Okw w := by
  unfold mayB
  rw [Bool.and_eq_true, decide_eq_true_iff, Bool.not_eq_true', List.any_eq_false]
  constructor
  · rintro ⟨h1, h2⟩
    exact ⟨h1, fun w hw => (badW_ok w).1 (by simpa using h2 w hw)⟩
  · rintro ⟨h1, h2⟩
    exact ⟨h1, fun w hw => by rw [(badW_ok w).2 (h2 w hw)]; simp⟩

/-- the demand of an interval. -/
def dem : List S38 → Int → Int → Int
  | [], _, _ => 0
  | w :: l, a, b => (if a ≤ w.f0 ∧ w.f1 ≤ b then w.f2 else 0) + dem l a b
theorem dem_append (l m : List S38) (a b : Int) : dem (l ++ m) a b = dem l a b + dem m a b := by
  induction l with
  | nil => simp [dem]
  | cons w l ih => simp only [List.cons_append, dem, ih]; omega
theorem dem_perm {l m : List S38} (h : l.Perm m) (a b : Int) : dem l a b = dem m a b := by
  induction h with
  | nil => rfl
  | cons w _ ih => simp only [dem, ih]
  | swap u w l => simp only [dem]; omega
  | trans _ _ ih1 ih2 => rw [ih1, ih2]
theorem dem_bound {l : List S38} (h : ∀ w ∈ l, Okw w) (a b : Int) : 0 ≤ dem l a b ∧ dem l a b ≤ l.length * 1048576 := by
  induction l with
  | nil => simp [dem]
  | cons w l ih =>
    have i := ih (fun u hu => h u (List.mem_cons_of_mem _ hu))
    have hw := h w List.mem_cons_self
    have h1 := hw.c0
    have h2 := hw.c1
    simp only [dem, List.length_cons]
    split <;> (refine ⟨by omega, ?_⟩; have e : ((l.length + 1 : Nat) : Int) = l.length + 1 := by omega) <;> omega

theorem rd_at (l : List S38) (n : Nat) (h : n < l.length) : rd_T38 l (n : Int) = l[n] := by
  unfold rd_T38
  rw [Int.toNat_natCast, List.getD_eq_getElem?_getD, List.getElem?_eq_getElem h]
  rfl
theorem drop_at (l : List S38) (n : Nat) (h : n < l.length) : l.drop n = l[n] :: l.drop (n + 1) := List.drop_eq_getElem_cons h
theorem wrap_id {x : Int} (h0 : -9223372036854775808 ≤ x) (h1 : x ≤ 9223372036854775807) : wrap64 x = x := by unfold wrap64; omega
theorem wrap_succ (n : Nat) (h : n ≤ 1000000000000) : wrap64 ((n : Int) + 1) = ((n + 1 : Nat) : Int) := by unfold wrap64; omega

/-! ### May -/
theorem may_eq (l : List S38) : demand_May.f l = some (mayB l) := by
  unfold demand_May.f mayB containsBad.f
  by_cases h : (l.length : Int) ≤ 4096
  · have h' : l.length ≤ 4096 := by omega
    simp [h, h']
  · have h' : ¬ l.length ≤ 4096 := by omega
    simp [h, h']

theorem chain_eq (w : S38) (X : Option Bool) : (if w.f0 < 0 then (some false) else (if w.f0 > 1125899906842624 then (some false) else (if w.f1 ≤ w.f0 then (some false) else (if w.f1 > 2251799813685248 then (some false) else (if w.f2 < 1 then (some false) else (if w.f2 > 1048576 then (some false) else X)))))) = if badW w = true then some false else X := by
  unfold badW
  by_cases h1 : w.f0 < 0
  · simp [h1]
  by_cases h2 : w.f0 > 1125899906842624
  · simp [h2]
  by_cases h3 : w.f1 ≤ w.f0
  · simp [h3]
  by_cases h4 : w.f1 > 2251799813685248
  · simp [h4]
  by_cases h5 : w.f2 < 1
  · simp [h5]
  simp [h1, h2, h3, h4, h5]
theorem refMay_l0 (l : List S38) : ∀ (d n : Nat), n ≤ l.length → n ≤ 4097 → l.length - n = d → (l.take n).any badW = false → Ev (fun k => carillonref23_May.l0 k l (n : Int)) (mayB l) := by
  intro d
  induction d with
  | zero =>
    intro n h1 h2 h3 h4
    have e : n = l.length := by omega
    subst e
    rw [List.take_length] at h4
    refine Ev.step (f := fun k => carillonref23_May.j1 k l (l.length : Int) false) (fun k => ?_) (Ev.step (f := fun _ => some (mayB l)) (fun k => ?_) (Ev.now _))
    · simp only [carillonref23_May.l0]
      rw [if_neg (by omega)]
    · simp only [carillonref23_May.j1]
      rw [if_neg (by simp)]
      unfold mayB
      rw [h4]
      simp only [Bool.not_false, Bool.and_true, Option.some.injEq, decide_eq_decide]
      omega
  | succ d ih =>
    intro n h1 h2 h3 h4
    have hn : n < l.length := by omega
    by_cases h5 : n ≤ 4096
    · cases hb : badW l[n] with
      | true =>
        have hm : mayB l = false := by
          unfold mayB
          rw [List.any_eq_true.2 ⟨_, List.getElem_mem hn, hb⟩]
          simp
        rw [hm]
        refine Ev.step (f := fun k => carillonref23_May.j1 k l (n : Int) true) (fun k => ?_) (Ev.step (f := fun _ => some false) (fun k => ?_) (Ev.now _))
        · simp only [carillonref23_May.l0]
          rw [if_pos (by omega), decide_eq_true (by omega)]
        · simp only [carillonref23_May.j1]
          rw [if_pos trivial, if_pos (by omega), if_pos (by omega), chain_eq, rd_at l n hn, if_pos hb]
      | false =>
        refine Ev.step (f := fun k => carillonref23_May.j1 k l (n : Int) true) (fun k => ?_) (Ev.step (fun k => ?_) (ih (n + 1) (by omega) (by omega) (by omega) ?_))
        · simp only [carillonref23_May.l0]
          rw [if_pos (by omega), decide_eq_true (by omega)]
        · simp only [carillonref23_May.j1]
          rw [if_pos trivial, if_pos (by omega), if_pos (by omega), chain_eq, rd_at l n hn, if_neg (by rw [hb]; simp), wrap_succ n (by omega)]
        · rw [List.take_succ_eq_append_getElem hn, List.any_append, h4]
          simp [hb]
    · have hm : mayB l = false := by
        unfold mayB
        rw [decide_eq_false (by omega)]
        rfl
      rw [hm]
      refine Ev.step (f := fun k => carillonref23_May.j1 k l (n : Int) false) (fun k => ?_) (Ev.step (f := fun _ => some false) (fun k => ?_) (Ev.now _))
      · simp only [carillonref23_May.l0]
        rw [if_pos (by omega), decide_eq_false (by omega)]
      · simp only [carillonref23_May.j1]
        rw [if_neg (by simp), decide_eq_false (by omega)]
theorem refMay_eq (l : List S38) : Ev (fun k => carillonref23_May.f k l) (mayB l) := by
  simpa [carillonref23_May.f] using refMay_l0 l l.length 0 (by omega) (by omega) (by omega) (by simp)

/-! ### Of -/
theorem of_l0 (l : List S38) (a b : Int) (hlen : l.length ≤ 4096) (hok : ∀ w ∈ l, Okw w) : ∀ (d n : Nat) (s : Int), n ≤ l.length → l.length - n = d → 0 ≤ s → s ≤ n * 1048576 → Ev (fun k => demand_Of.l0 k a b s l (l.length : Int) (n : Int)) (s + dem (l.drop n) a b, 0) := by
  intro d
  induction d with
  | zero =>
    intro n s h1 h2 h3 h4
    have e : n = l.length := by omega
    subst e
    refine Ev.step (f := fun _ => some (s, 0)) (fun k => ?_) (by simpa [dem] using Ev.now _)
    simp only [demand_Of.l0]
    rw [if_neg (by omega)]
  | succ d ih =>
    intro n s h1 h2 h3 h4
    have hn : n < l.length := by omega
    have hw := hok _ (List.getElem_mem hn)
    have c0 := hw.c0
    have c1 := hw.c1
    rw [drop_at l n hn, dem]
    by_cases hc : a ≤ l[n].f0 ∧ l[n].f1 ≤ b
    · rw [if_pos hc, ← Int.add_assoc]
      refine Ev.step (fun k => ?_) (ih (n + 1) (s + l[n].f2) (by omega) (by omega) (by omega) (by omega))
      simp only [demand_Of.l0]
      rw [if_pos (by omega), if_pos (by omega), if_pos (by omega), rd_at l n hn, if_pos (by omega), if_pos (by omega), wrap_succ n (by omega), wrap_id (by omega) (by omega)]
    · rw [if_neg hc, Int.zero_add]
      refine Ev.step (fun k => ?_) (ih (n + 1) s (by omega) (by omega) (by omega) (by omega))
      simp only [demand_Of.l0]
      rw [if_pos (by omega), if_pos (by omega), if_pos (by omega), rd_at l n hn, wrap_succ n (by omega)]
      by_cases h5 : l[n].f0 ≥ a
      · rw [if_pos h5, if_neg (by omega)]
      · rw [if_neg h5]
theorem of_eq (l : List S38) (a b : Int) : Ev (fun k => demand_Of.f k l a b) (if mayB l then (dem l a b, 0) else (0, 2)) := by
  by_cases h : mayB l = true
  · rw [if_pos h]
    obtain ⟨h1, h2⟩ := (mayB_iff l).1 h
    refine Ev.congr (f := fun k => demand_Of.l0 k a b 0 l (l.length : Int) ((0 : Nat) : Int)) (fun k => ?_) (by simpa using of_l0 l a b h1 h2 l.length 0 0 (by omega) (by omega) (by omega) (by omega))
    unfold demand_Of.f
    rw [may_eq, h]
    rfl
  · rw [if_neg h]
    refine Ev.congr (f := fun _ => some (0, 2)) (fun k => ?_) (Ev.now _)
    unfold demand_Of.f
    rw [may_eq, Option.bind_some, if_neg h]
theorem refOf_l0 (l : List S38) (a b : Int) (hlen : l.length ≤ 4096) (hok : ∀ w ∈ l, Okw w) : ∀ (d n : Nat) (s : Int), n ≤ l.length → l.length - n = d → 0 ≤ s → s ≤ n * 1048576 → Ev (fun k => carillonref23_Of.l0 k l a b s (n : Int)) (s + dem (l.drop n) a b) := by
  intro d
  induction d with
  | zero =>
    intro n s h1 h2 h3 h4
    have e : n = l.length := by omega
    subst e
    refine Ev.step (f := fun _ => some s) (fun k => ?_) (by simpa [dem] using Ev.now _)
    simp only [carillonref23_Of.l0]
    rw [if_neg (by omega)]
  | succ d ih =>
    intro n s h1 h2 h3 h4
    have hn : n < l.length := by omega
    have hw := hok _ (List.getElem_mem hn)
    have c0 := hw.c0
    have c1 := hw.c1
    rw [drop_at l n hn, dem]
    by_cases hc : a ≤ l[n].f0 ∧ l[n].f1 ≤ b
    · rw [if_pos hc, ← Int.add_assoc]
      refine Ev.step (fun k => ?_) (ih (n + 1) (s + l[n].f2) (by omega) (by omega) (by omega) (by omega))
      simp only [carillonref23_Of.l0]
      rw [if_pos (by omega), if_pos (by omega), rd_at l n hn, if_pos (by omega), if_pos (by omega), wrap_succ n (by omega), wrap_id (by omega) (by omega)]
    · rw [if_neg hc, Int.zero_add]
      refine Ev.step (fun k => ?_) (ih (n + 1) s (by omega) (by omega) (by omega) (by omega))
      simp only [carillonref23_Of.l0]
      rw [if_pos (by omega), if_pos (by omega), rd_at l n hn, wrap_succ n (by omega)]
      by_cases h5 : l[n].f0 ≥ a
      · rw [if_pos h5, if_neg (by omega)]
      · rw [if_neg h5]
theorem refOf_eq (l : List S38) (a b : Int) (h : mayB l = true) : Ev (fun k => carillonref23_Of.f k l a b) (dem l a b) := by
  obtain ⟨h1, h2⟩ := (mayB_iff l).1 h
  simpa [carillonref23_Of.f] using refOf_l0 l a b h1 h2 l.length 0 0 (by omega) (by omega) (by omega) (by omega)
end Go.Proofs.Ytlmmdpdkddmklab.Q
