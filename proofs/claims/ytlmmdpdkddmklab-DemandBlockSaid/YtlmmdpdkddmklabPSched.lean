import Derived.Test.YtlmmdpdkddmklabPs
namespace Go.Proofs.Ytlmmdpdkddmklab.Q
open Go.RowKit Go.Proofs.YtlmmdpdkddmklabW.PrintWords Go.Proofs.YtlmmdpdkddmklabW.PrintLast
set_option linter.unusedVariables false

theorem rdI_at (xs : List Int) (n : Nat) (h : n < xs.length) : rd xs (n : Int) = xs[n] := by
  unfold rd
  rw [Int.toNat_natCast, List.getD_eq_getElem?_getD, List.getElem?_eq_getElem h]
  rfl
theorem sumGe_mem {l : List S38} (hok : ∀ w ∈ l, Okw w) {a b : Int} {w : S38} (hw : w ∈ l) (h1 : a ≤ w.f0) (h2 : w.f1 ≤ b) : 0 < dem l a b := by
  induction l with
  | nil => cases hw
  | cons u l ih =>
    have hu := (hok u List.mem_cons_self).c0
    have hb := (dem_bound (fun x hx => hok x (List.mem_cons_of_mem _ hx)) a b).1
    simp only [dem]
    rcases List.mem_cons.1 hw with rfl | hw
    · rw [if_pos ⟨h1, h2⟩]; omega
    · have := ih (fun x hx => hok x (List.mem_cons_of_mem _ hx)) hw
      split <;> omega
theorem dem_mono_left {l : List S38} (hok : ∀ w ∈ l, Okw w) {a a' b : Int} (h : ∀ w ∈ l, a ≤ w.f0 → w.f1 ≤ b → a' ≤ w.f0) : dem l a b ≤ dem l a' b := by
  induction l with
  | nil => simp [dem]
  | cons u l ih =>
    have hu := (hok u List.mem_cons_self).c0
    have i := ih (fun x hx => hok x (List.mem_cons_of_mem _ hx)) (fun w hw => h w (List.mem_cons_of_mem _ hw))
    have hh := h u List.mem_cons_self
    simp only [dem]
    by_cases c : a ≤ u.f0 ∧ u.f1 ≤ b
    · rw [if_pos c, if_pos ⟨hh c.1 c.2, c.2⟩]; omega
    · rw [if_neg c]; split <;> omega
/-- Of those that count in an interval there is one that begins first. -/
theorem first_start {l : List S38} {a b : Int} : (∃ w ∈ l, a ≤ w.f0 ∧ w.f1 ≤ b) → ∃ w ∈ l, a ≤ w.f0 ∧ w.f1 ≤ b ∧ ∀ u ∈ l, a ≤ u.f0 → u.f1 ≤ b → w.f0 ≤ u.f0 := by
  induction l with
  | nil => rintro ⟨w, hw, _⟩; cases hw
  | cons x l ih =>
    rintro ⟨w, hw, h1, h2⟩
    by_cases hl : ∃ w ∈ l, a ≤ w.f0 ∧ w.f1 ≤ b
    · obtain ⟨m, hm, m1, m2, m3⟩ := ih hl
      by_cases c : a ≤ x.f0 ∧ x.f1 ≤ b ∧ x.f0 < m.f0
      · refine ⟨x, List.mem_cons_self, c.1, c.2.1, fun u hu u1 u2 => ?_⟩
        rcases List.mem_cons.1 hu with rfl | hu
        · exact Int.le_refl _
        · have := m3 u hu u1 u2; omega
      · refine ⟨m, List.mem_cons_of_mem _ hm, m1, m2, fun u hu u1 u2 => ?_⟩
        rcases List.mem_cons.1 hu with rfl | hu
        · have : ¬ u.f0 < m.f0 := fun h => c ⟨u1, u2, h⟩
          omega
        · exact m3 u hu u1 u2
    · rcases List.mem_cons.1 hw with rfl | hw
      · refine ⟨w, List.mem_cons_self, h1, h2, fun u hu u1 u2 => ?_⟩
        rcases List.mem_cons.1 hu with rfl | hu
        · exact Int.le_refl _
        · exact absurd ⟨u, hu, u1, u2⟩ hl
      · exact absurd ⟨w, hw, h1, h2⟩ hl

theorem dem_zero (l : List S38) (a b : Int) (h : ∀ j (hj : j < l.length), a ≤ l[j].f0 → l[j].f1 ≤ b → False) : dem l a b = 0 := by
  induction l with
  | nil => rfl
  | cons u l ih =>
    simp only [dem]
    rw [if_neg (fun c => h 0 (by simp) c.1 c.2), ih (fun j hj => h (j + 1) (by simpa using hj))]
    rfl

/-! ### what has been done -/
/-- What has been done of those that count in an interval. -/
def exW : List S38 → List Int → Int → Int → Int
  | w :: l, x :: xs, a, b => (if a ≤ w.f0 ∧ w.f1 ≤ b then w.f2 - x else 0) + exW l xs a b
  | _, _, _, _ => 0
theorem exW_set : ∀ (l : List S38) (xs : List Int) (i : Nat) (r a b : Int) (hi : i < l.length) (hx : i < xs.length), exW l (xs.set i (xs[i] - r)) a b = exW l xs a b + (if a ≤ l[i].f0 ∧ l[i].f1 ≤ b then r else 0)
  | w :: l, x :: xs, 0, r, a, b, _, _ => by
    simp only [List.set_cons_zero, exW, List.getElem_cons_zero]
    split <;> omega
  | w :: l, x :: xs, i + 1, r, a, b, hi, hx => by
    have ih := exW_set l xs i r a b (by simpa using hi) (by simpa using hx)
    simp only [List.set_cons_succ, exW, List.getElem_cons_succ]
    rw [ih]
    omega
theorem exW_le : ∀ (l : List S38) (xs : List Int) (a b : Int), l.length = xs.length → (∀ x ∈ xs, 0 ≤ x) → exW l xs a b ≤ dem l a b
  | [], [], _, _, _, _ => by simp [exW, dem]
  | w :: l, x :: xs, a, b, hl, hx => by
    have ih := exW_le l xs a b (by simpa using hl) (fun y hy => hx y (List.mem_cons_of_mem _ hy))
    have h0 := hx x List.mem_cons_self
    simp only [exW, dem]
    split <;> omega
theorem exW_done : ∀ (l : List S38) (xs : List Int) (a b : Int), l.length = xs.length → (∀ j (h1 : j < l.length) (h2 : j < xs.length), a ≤ l[j].f0 → l[j].f1 ≤ b → xs[j] = 0) → exW l xs a b = dem l a b
  | [], [], _, _, _, _ => rfl
  | w :: l, x :: xs, a, b, hl, hx => by
    have ih := exW_done l xs a b (by simpa using hl) (fun j h1 h2 => hx (j + 1) (by simpa using h1) (by simpa using h2))
    simp only [exW, dem, ih]
    by_cases c : a ≤ w.f0 ∧ w.f1 ≤ b
    · have h0 : x = 0 := hx 0 (by simp) (by simp) c.1 c.2
      rw [if_pos c, if_pos c]; omega
    · rw [if_neg c, if_neg c]
theorem exW_start : ∀ (l : List S38) (a b : Int), exW l (l.map (·.f2)) a b = 0
  | [], _, _ => rfl
  | w :: l, a, b => by
    simp only [List.map_cons, exW, exW_start l a b]
    split <;> omega
/-- All that is left. -/
theorem sum_set (xs : List Int) (i : Nat) (r : Int) (h : i < xs.length) : (xs.set i (xs[i] - r)).sum = xs.sum - r := by
  induction xs generalizing i with
  | nil => simp at h
  | cons x xs ih =>
    cases i with
    | zero => simp; omega
    | succ i =>
      have := ih i (by simpa using h)
      simp only [List.set_cons_succ, List.getElem_cons_succ, List.sum_cons, this]
      omega
theorem sum_zero (xs : List Int) (h : ∀ x ∈ xs, 0 ≤ x) (hs : xs.sum = 0) : ∀ x ∈ xs, x = 0 := by
  induction xs with
  | nil => simp
  | cons x xs ih =>
    have hx := h x List.mem_cons_self
    have hh := fun y hy => h y (List.mem_cons_of_mem _ hy)
    have hn : 0 ≤ xs.sum := by
      clear ih hs
      induction xs with
      | nil => simp
      | cons y ys ih => 
        have := ih (fun z hz => h z (by rcases List.mem_cons.1 hz with rfl | hz; exact List.mem_cons_self; exact List.mem_cons_of_mem _ (List.mem_cons_of_mem _ hz))) (fun z hz => hh z (List.mem_cons_of_mem _ hz))
        have := hh y List.mem_cons_self
        simp only [List.sum_cons]; omega
    simp only [List.sum_cons] at hs
    intro y hy
    rcases List.mem_cons.1 hy with rfl | hy
    · omega
    · exact ih hh (by omega) y hy

/-! ### who is next -/
/-- What a look over the first i works tells: the earliest Due that is there, and when the next one comes. -/
structure Scan (l : List S38) (xs : List Int) (now : Int) (i : Nat) (first next : Int) : Prop where
  none : first < 0 → first = -1 ∧ ∀ j (h1 : j < l.length) (h2 : j < xs.length), j < i → xs[j] ≠ 0 → now < l[j].f0
  some : 0 ≤ first → ∃ f, ∃ (h1 : f < l.length) (h2 : f < xs.length), first = (f : Int) ∧ f < i ∧ xs[f] ≠ 0 ∧ l[f].f0 ≤ now ∧ ∀ j (k1 : j < l.length) (k2 : j < xs.length), j < i → xs[j] ≠ 0 → l[j].f0 ≤ now → l[f].f1 ≤ l[j].f1
  far : ∀ j (h1 : j < l.length) (h2 : j < xs.length), j < i → xs[j] ≠ 0 → now < l[j].f0 → next ≤ l[j].f0
  near : next = 4611686018427387904 ∨ ∃ j, ∃ (h1 : j < l.length) (h2 : j < xs.length), xs[j] ≠ 0 ∧ now < l[j].f0 ∧ next = l[j].f0
theorem Scan.start (l : List S38) (xs : List Int) (now : Int) : Scan l xs now 0 (-1) 4611686018427387904 :=
  ⟨fun _ => ⟨rfl, fun j _ _ h => by omega⟩, fun h => by omega, fun j _ _ h => by omega, .inl rfl⟩
theorem Scan.skip {l : List S38} {xs : List Int} {now : Int} {i : Nat} {first next : Int} (h : Scan l xs now i first next) (hi : i < l.length) (hx : i < xs.length) (h0 : xs[i] = 0) : Scan l xs now (i + 1) first next := by
  have hne : ∀ j (h2 : j < xs.length), j < i + 1 → xs[j] ≠ 0 → j < i := fun j h2 hj hn => by
    by_cases e : j = i
    · subst e; exact absurd h0 hn
    · omega
  refine ⟨fun hf => ⟨(h.none hf).1, fun j h1 h2 hj hn => (h.none hf).2 j h1 h2 (hne j h2 hj hn) hn⟩, fun hf => ?_, fun j h1 h2 hj hn => h.far j h1 h2 (hne j h2 hj hn) hn, h.near⟩
  obtain ⟨f, h1, h2, e, a, b, c, d⟩ := h.some hf
  exact ⟨f, h1, h2, e, by omega, b, c, fun j k1 k2 hj hn => d j k1 k2 (hne j k2 hj hn) hn⟩
theorem Scan.later {l : List S38} {xs : List Int} {now : Int} {i : Nat} {first next : Int} (h : Scan l xs now i first next) (hi : i < l.length) (hx : i < xs.length) (h0 : xs[i] ≠ 0) (hr : now < l[i].f0) : Scan l xs now (i + 1) first (mn next l[i].f0) := by
  refine ⟨fun hf => ⟨(h.none hf).1, fun j h1 h2 hj hn => ?_⟩, fun hf => ?_, fun j h1 h2 hj hn hl => ?_, ?_⟩
  · by_cases e : j = i
    · subst e; exact hr
    · exact (h.none hf).2 j h1 h2 (by omega) hn
  · obtain ⟨f, h1, h2, e, a, b, c, d⟩ := h.some hf
    refine ⟨f, h1, h2, e, by omega, b, c, fun j k1 k2 hj hn hl => ?_⟩
    by_cases e : j = i
    · subst e; omega
    · exact d j k1 k2 (by omega) hn hl
  · by_cases e : j = i
    · subst e; unfold mn; split <;> omega
    · have := h.far j h1 h2 (by omega) hn hl
      unfold mn; split <;> omega
  · unfold mn
    split
    · exact .inr ⟨i, hi, hx, h0, hr, rfl⟩
    · exact h.near
theorem Scan.better {l : List S38} {xs : List Int} {now : Int} {i : Nat} {first next : Int} (h : Scan l xs now i first next) (hi : i < l.length) (hx : i < xs.length) (h0 : xs[i] ≠ 0) (hr : l[i].f0 ≤ now) (hb : ∀ f (hf : f < l.length), first = (f : Int) → l[i].f1 ≤ l[f].f1) : Scan l xs now (i + 1) (i : Int) next := by
  refine ⟨fun hf => by omega, fun _ => ⟨i, hi, hx, rfl, by omega, h0, hr, fun j k1 k2 hj hn hl => ?_⟩, fun j h1 h2 hj hn hl => ?_, h.near⟩
  · by_cases e : j = i
    · subst e; exact Int.le_refl _
    · by_cases hf : first < 0
      · have := (h.none hf).2 j k1 k2 (by omega) hn; omega
      · obtain ⟨f, h1, h2, e, a, b, c, d⟩ := h.some (by omega)
        have := d j k1 k2 (by omega) hn hl
        have := hb f h1 e
        omega
  · by_cases e : j = i
    · subst e; omega
    · exact h.far j h1 h2 (by omega) hn hl
theorem Scan.keep {l : List S38} {xs : List Int} {now : Int} {i : Nat} {first next : Int} (h : Scan l xs now i first next) (hi : i < l.length) (hx : i < xs.length) (h0 : xs[i] ≠ 0) (hr : l[i].f0 ≤ now) (hf0 : 0 ≤ first) (hb : ∀ f (hf : f < l.length), first = (f : Int) → l[f].f1 ≤ l[i].f1) : Scan l xs now (i + 1) first next := by
  refine ⟨fun hf => by omega, fun _ => ?_, fun j h1 h2 hj hn hl => ?_, h.near⟩
  · obtain ⟨f, h1, h2, e, a, b, c, d⟩ := h.some hf0
    refine ⟨f, h1, h2, e, by omega, b, c, fun j k1 k2 hj hn hl => ?_⟩
    by_cases e' : j = i
    · subst e'; exact hb f h1 e
    · exact d j k1 k2 (by omega) hn hl
  · by_cases e : j = i
    · subst e; omega
    · exact h.far j h1 h2 (by omega) hn hl

/-! ### what holds at every time -/
/-- Since some time ago there was always something to do that must be done till D, but for a block at its beginning. -/
def Busy (l : List S38) (xs : List Int) (now block : Int) : Prop :=
  ∀ D : Int, ∃ t : Int, t ≤ now ∧ now - t ≤ exW l xs t D + block ∧ ∀ j (h1 : j < l.length) (h2 : j < xs.length), l[j].f1 ≤ D → l[j].f0 < t → xs[j] = 0
structure St (l : List S38) (xs : List Int) (now all : Int) : Prop where
  len : l.length = xs.length
  pos : ∀ x ∈ xs, 0 ≤ x
  le : ∀ j (h1 : j < l.length) (h2 : j < xs.length), xs[j] ≤ l[j].f2
  tot : all = xs.sum
  now0 : 0 ≤ now
  now1 : now + all ≤ 1125899906842624 + (l.map (·.f2)).sum
theorem exW_nonneg : ∀ (l : List S38) (xs : List Int) (a b : Int), (∀ j (h1 : j < l.length) (h2 : j < xs.length), xs[j] ≤ l[j].f2) → 0 ≤ exW l xs a b
  | [], _, _, _, _ => by simp [exW]
  | _ :: _, [], _, _, _ => by simp [exW]
  | w :: l, x :: xs, a, b, h => by
    have ih := exW_nonneg l xs a b (fun j h1 h2 => h (j + 1) (by simpa using h1) (by simpa using h2))
    have h0 : x ≤ w.f2 := h 0 (by simp) (by simp)
    simp only [exW]
    split <;> omega
theorem Busy.start (l : List S38) (hok : ∀ w ∈ l, Okw w) (block : Int) (hb : 0 ≤ block) : Busy l (l.map (·.f2)) 0 block := fun D => ⟨0, by omega, by rw [exW_start]; omega, fun j h1 h2 _ h => by
  have := (hok _ (List.getElem_mem h1)).r0; omega⟩
/-- Idling on to the next one. -/
theorem Busy.idle {l : List S38} {xs : List Int} {block next : Int} (h : ∀ j (h1 : j < l.length) (h2 : j < xs.length), xs[j] ≤ l[j].f2) (hb : 0 ≤ block) (hn : ∀ j (h1 : j < l.length) (h2 : j < xs.length), xs[j] ≠ 0 → next ≤ l[j].f0) : Busy l xs next block := fun D =>
  ⟨next, Int.le_refl _, by have := exW_nonneg l xs next D h; omega, fun j h1 h2 _ hl => Classical.byContradiction fun h0 => by have := hn j h1 h2 h0; omega⟩
/-- A piece of the earliest Due. -/
theorem Busy.run {l : List S38} {xs : List Int} {now block r : Int} (h : Busy l xs now block) (hle : ∀ j (h1 : j < l.length) (h2 : j < xs.length), xs[j] ≤ l[j].f2) (f : Nat) (h1 : f < l.length) (h2 : f < xs.length) (hf : xs[f] ≠ 0) (hr : 1 ≤ r) (hle' : 0 ≤ xs[f] - r)
    (hmin : ∀ j (k1 : j < l.length) (k2 : j < xs.length), xs[j] ≠ 0 → l[j].f0 ≤ now → l[f].f1 ≤ l[j].f1) (hb : 0 ≤ block) (hfar : r ≤ block + 1 ∨ ∀ j (k1 : j < l.length) (k2 : j < xs.length), xs[j] ≠ 0 → now < l[j].f0 → now + r ≤ l[j].f0) : Busy l (xs.set f (xs[f] - r)) (now + r) block := by
  intro D
  have hset : ∀ j (k2 : j < (xs.set f (xs[f] - r)).length) (k2' : j < xs.length), xs[j] = 0 → (xs.set f (xs[f] - r))[j] = 0 := fun j k2 k2' h0 => by
    rw [List.getElem_set]
    split
    · rename_i e; subst e; exact absurd h0 hf
    · exact h0
  by_cases hD : l[f].f1 ≤ D
  · obtain ⟨t, t1, t2, t3⟩ := h D
    have hft : t ≤ l[f].f0 := Classical.byContradiction fun hc => hf (t3 f h1 h2 hD (by omega))
    refine ⟨t, by omega, ?_, fun j k1 k2 a b => ?_⟩
    · rw [exW_set l xs f r t D h1 h2, if_pos ⟨hft, hD⟩]; omega
    · have k2' : j < xs.length := by simpa using k2
      exact hset j k2 k2' (t3 j k1 k2' a b)
  · have hex : ∀ t, 0 ≤ exW l (xs.set f (xs[f] - r)) t D := fun t => by
      rw [exW_set l xs f r t D h1 h2]
      have := exW_nonneg l xs t D hle
      split <;> omega
    rcases hfar with hfar | hfar
    · refine ⟨now + 1, by omega, by have := hex (now + 1); omega, fun j k1 k2 a b => ?_⟩
      have k2' : j < xs.length := by simpa using k2
      refine hset j k2 k2' (Classical.byContradiction fun h0 => ?_)
      have := hmin j k1 k2' h0 (by omega)
      omega
    · refine ⟨now + r, Int.le_refl _, by have := hex (now + r); omega, fun j k1 k2 a b => ?_⟩
      have k2' : j < xs.length := by simpa using k2
      refine hset j k2 k2' (Classical.byContradiction fun h0 => ?_)
      by_cases c : l[j].f0 ≤ now
      · have := hmin j k1 k2' h0 c; omega
      · have := hfar j k1 k2' h0 (by omega); omega
/-- Who is late has too much before him. -/
theorem Busy.late {l : List S38} {xs : List Int} {now block r : Int} (hok : ∀ w ∈ l, Okw w) (hlen : l.length = xs.length) (h : Busy l xs now block) (f : Nat) (h1 : f < l.length) (h2 : f < xs.length) (hf : xs[f] ≠ 0) (hpos : ∀ x ∈ xs.set f (xs[f] - r), 0 ≤ x) (hlate : l[f].f1 < now + r) : ∃ u ∈ l, ∃ v ∈ l, Bad l block u.f0 v.f1 := by
  obtain ⟨t, t1, t2, t3⟩ := h l[f].f1
  have hft : t ≤ l[f].f0 := Classical.byContradiction fun hc => hf (t3 f h1 h2 (Int.le_refl _) (by omega))
  have hle := exW_le l (xs.set f (xs[f] - r)) t l[f].f1 (by simpa using hlen) hpos
  rw [exW_set l xs f r t _ h1 h2, if_pos ⟨hft, Int.le_refl _⟩] at hle
  obtain ⟨w, hw, w1, w2, w3⟩ := first_start (l := l) (a := t) (b := l[f].f1) ⟨l[f], List.getElem_mem h1, hft, Int.le_refl _⟩
  have hd := dem_mono_left hok (a := t) (a' := w.f0) (b := l[f].f1) (fun u hu a b => w3 u hu a b)
  refine ⟨w, hw, l[f], List.getElem_mem h1, ?_, sumGe_mem hok hw (Int.le_refl _) w2, by omega⟩
  have := (hok w hw).d0
  omega

/-! ### and on the other side: no more is done than there is time -/
structure Fits (l : List S38) (xs : List Int) (now : Int) : Prop where
  done : ∀ a b, exW l xs a b ≤ (if a ≤ now then now - a else 0)
  full : ∀ a b, (∀ j (h1 : j < l.length) (h2 : j < xs.length), a ≤ l[j].f0 → l[j].f1 ≤ b → xs[j] = 0) → dem l a b = 0 ∨ dem l a b ≤ b - a
theorem Fits.start (l : List S38) (hok : ∀ w ∈ l, Okw w) : Fits l (l.map (·.f2)) 0 := by
  refine ⟨fun a b => by rw [exW_start]; split <;> omega, fun a b h => .inl ?_⟩
  refine dem_zero l a b fun j hj h1 h2 => ?_
  have e := h j hj (by simpa using hj) h1 h2
  rw [List.getElem_map] at e
  have := (hok _ (List.getElem_mem hj)).c0
  omega
theorem Fits.idle {l : List S38} {xs : List Int} {now next : Int} (h : Fits l xs now) (hn : now ≤ next) : Fits l xs next := by
  refine ⟨fun a b => ?_, h.full⟩
  have := h.done a b
  split <;> split at this <;> omega
theorem Fits.run {l : List S38} {xs : List Int} {now r : Int} (h : Fits l xs now) (hlen : l.length = xs.length) (f : Nat) (h1 : f < l.length) (h2 : f < xs.length) (hrel : l[f].f0 ≤ now) (hr : 0 ≤ r) (hdue : xs[f] - r = 0 → now + r ≤ l[f].f1) : Fits l (xs.set f (xs[f] - r)) (now + r) := by
  have hdone : ∀ a b, exW l (xs.set f (xs[f] - r)) a b ≤ (if a ≤ now + r then now + r - a else 0) := fun a b => by
    rw [exW_set l xs f r a b h1 h2]
    have := h.done a b
    by_cases c : a ≤ l[f].f0 ∧ l[f].f1 ≤ b
    · rw [if_pos c, if_pos (by omega)]
      rw [if_pos (by omega)] at this
      omega
    · rw [if_neg c]
      split <;> split at this <;> omega
  refine ⟨hdone, fun a b hz => ?_⟩
  by_cases c : a ≤ l[f].f0 ∧ l[f].f1 ≤ b
  · have h0 := hz f h1 (by simpa using h2) c.1 c.2
    rw [List.getElem_set_self] at h0
    have hd := hdue h0
    have e := exW_done l (xs.set f (xs[f] - r)) a b (by simpa using hlen) hz
    have := hdone a b
    rw [e, if_pos (by omega)] at this
    right; omega
  · refine h.full a b fun j k1 k2 a1 b1 => ?_
    have := hz j k1 (by simpa using k2) a1 b1
    rw [List.getElem_set] at this
    split at this
    · rename_i e; subst e; exact absurd ⟨a1, b1⟩ c
    · exact this

/-! ### how much is still to come -/
def mu : List S38 → List Int → Int → Nat
  | w :: l, x :: xs, now => (if x ≠ 0 then 1 + (if now < w.f0 then 1 else 0) else 0) + mu l xs now
  | _, _, _ => 0
theorem mu_le : ∀ (l : List S38) (xs ys : List Int) (now now' : Int), xs.length = ys.length → now ≤ now' → (∀ j (h1 : j < xs.length) (h2 : j < ys.length), ys[j] ≠ 0 → xs[j] ≠ 0) → mu l ys now' ≤ mu l xs now
  | [], _, _, _, _, _, _, _ => by simp [mu]
  | _ :: _, [], [], _, _, _, _, _ => by simp [mu]
  | w :: l, x :: xs, y :: ys, now, now', hl, hn, h => by
    have ih := mu_le l xs ys now now' (by simpa using hl) hn (fun j h1 h2 => h (j + 1) (by simpa using h1) (by simpa using h2))
    have h0 : y ≠ 0 → x ≠ 0 := h 0 (by simp) (by simp)
    simp only [mu]
    by_cases cy : y = 0
    · rw [if_neg (by simp [cy])]; omega
    · rw [if_pos cy, if_pos (h0 cy)]
      by_cases c1 : now' < w.f0
      · rw [if_pos c1, if_pos (by omega)]; omega
      · rw [if_neg c1]; split <;> omega
theorem mu_lt : ∀ (l : List S38) (xs ys : List Int) (now now' : Int), xs.length = ys.length → now ≤ now' → (∀ j (h1 : j < xs.length) (h2 : j < ys.length), ys[j] ≠ 0 → xs[j] ≠ 0) →
    (∃ j, ∃ (h0 : j < l.length) (h1 : j < xs.length) (h2 : j < ys.length), xs[j] ≠ 0 ∧ (ys[j] = 0 ∨ (now < l[j].f0 ∧ l[j].f0 ≤ now'))) → mu l ys now' < mu l xs now
  | [], _, _, _, _, _, _, _, h => by obtain ⟨j, h0, _⟩ := h; simp at h0
  | _ :: _, [], [], _, _, _, _, _, h => by obtain ⟨j, _, h0, _⟩ := h; simp at h0
  | w :: l, x :: xs, y :: ys, now, now', hl, hn, h, hx => by
    have hl' : xs.length = ys.length := by simpa using hl
    have hr := fun j (h1 : j < xs.length) (h2 : j < ys.length) => h (j + 1) (by simpa using h1) (by simpa using h2)
    have h0 : y ≠ 0 → x ≠ 0 := h 0 (by simp) (by simp)
    obtain ⟨j, k0, k1, k2, a, b⟩ := hx
    cases j with
    | zero =>
      have ih := mu_le l xs ys now now' hl' hn hr
      simp only [List.getElem_cons_zero] at a b
      simp only [mu]
      rw [if_pos a]
      rcases b with b | b
      · rw [if_neg (by simp [b])]; omega
      · rw [if_pos b.1]
        by_cases cy : y = 0
        · rw [if_neg (by simp [cy])]; omega
        · rw [if_pos cy, if_neg (by omega)]; omega
    | succ j =>
      have ih := mu_lt l xs ys now now' hl' hn hr ⟨j, by simpa using k0, by simpa using k1, by simpa using k2, by simpa using a, by simpa using b⟩
      simp only [mu]
      by_cases cy : y = 0
      · rw [if_neg (by simp [cy])]; omega
      · rw [if_pos cy, if_pos (h0 cy)]
        by_cases c1 : now' < w.f0
        · rw [if_pos c1, if_pos (by omega)]; omega
        · rw [if_neg c1]; split <;> omega

/-! ### the steps of a state -/
theorem sum_le : ∀ (l : List S38) (xs : List Int), l.length = xs.length → (∀ j (h1 : j < l.length) (h2 : j < xs.length), xs[j] ≤ l[j].f2) → xs.sum ≤ (l.map (·.f2)).sum
  | [], [], _, _ => by simp
  | w :: l, x :: xs, hl, h => by
    have ih := sum_le l xs (by simpa using hl) (fun j h1 h2 => h (j + 1) (by simpa using h1) (by simpa using h2))
    have h0 : x ≤ w.f2 := h 0 (by simp) (by simp)
    simp only [List.map_cons, List.sum_cons]
    omega
theorem sum_bound (l : List S38) (hok : ∀ w ∈ l, Okw w) : 0 ≤ (l.map (·.f2)).sum ∧ (l.map (·.f2)).sum ≤ l.length * 1048576 := by
  induction l with
  | nil => simp
  | cons w l ih =>
    have i := ih (fun u hu => hok u (List.mem_cons_of_mem _ hu))
    have h1 := (hok w List.mem_cons_self).c0
    have h2 := (hok w List.mem_cons_self).c1
    simp only [List.map_cons, List.sum_cons, List.length_cons]
    have e : ((l.length + 1 : Nat) : Int) = l.length + 1 := by omega
    omega
theorem sum_nonneg : ∀ (xs : List Int), (∀ x ∈ xs, 0 ≤ x) → 0 ≤ xs.sum
  | [], _ => by simp
  | x :: xs, h => by
    have := sum_nonneg xs (fun y hy => h y (List.mem_cons_of_mem _ hy))
    have := h x List.mem_cons_self
    simp only [List.sum_cons]; omega
theorem St.start (l : List S38) (hok : ∀ w ∈ l, Okw w) : St l (l.map (·.f2)) 0 (l.map (·.f2)).sum :=
  ⟨by simp, fun x hx => by obtain ⟨w, hw, rfl⟩ := List.mem_map.1 hx; have := (hok w hw).c0; omega, fun j h1 h2 => by rw [List.getElem_map]; exact Int.le_refl _, rfl, Int.le_refl _, by omega⟩
theorem St.idle {l : List S38} {xs : List Int} {now all next : Int} (h : St l xs now all) (hn : now ≤ next) (hn1 : next ≤ 1125899906842624) : St l xs next all :=
  ⟨h.len, h.pos, h.le, h.tot, by have := h.now0; omega, by have := sum_le l xs h.len h.le; have := h.tot; omega⟩
theorem St.run {l : List S38} {xs : List Int} {now all r : Int} (h : St l xs now all) (f : Nat) (h2 : f < xs.length) (hr : 0 ≤ r) (hle : r ≤ xs[f]) : St l (xs.set f (xs[f] - r)) (now + r) (all - r) := by
  refine ⟨by simpa using h.len, fun x hx => ?_, fun j k1 k2 => ?_, by rw [sum_set xs f r h2, h.tot], by have := h.now0; omega, by have := h.now1; omega⟩
  · rcases List.mem_or_eq_of_mem_set hx with hx | rfl
    · exact h.pos x hx
    · omega
  · rw [List.getElem_set]
    have hj := h.le j k1 (by simpa using k2)
    split
    · rename_i e; subst e; omega
    · exact hj

/-! ### the loops -/
def fill (l : List S38) (n : Nat) : List Int := (l.take n).map (·.f2) ++ List.replicate (l.length - n) 0
theorem fill_len (l : List S38) (n : Nat) (h : n ≤ l.length) : (fill l n).length = l.length := by
  simp [fill]; omega
theorem fill_zero (l : List S38) : List.replicate l.length 0 = fill l 0 := by simp [fill]
theorem fill_all (l : List S38) : fill l l.length = l.map (·.f2) := by simp [fill]
theorem fill_set (l : List S38) (n : Nat) (h : n < l.length) : (fill l n).set n l[n].f2 = fill l (n + 1) := by
  unfold fill
  have hl : ((l.take n).map (·.f2)).length = n := by simp; omega
  rw [List.set_append_right _ _ (by omega), hl, Nat.sub_self]
  have e : l.length - n = (l.length - (n + 1)) + 1 := by omega
  rw [e, List.replicate_succ, List.set_cons_zero, List.take_succ_eq_append_getElem h, List.map_append, List.append_assoc]
  rfl
theorem sum_drop (l : List S38) (n : Nat) (h : n < l.length) : ((l.drop n).map (·.f2)).sum = l[n].f2 + ((l.drop (n + 1)).map (·.f2)).sum := by
  rw [drop_at l n h, List.map_cons, List.sum_cons]

/-- The scan, for whichever loop makes these steps. -/
theorem scan_loop (l : List S38) (xs : List Int) (now : Int) (hlen : l.length = xs.length) (hl : l.length ≤ 4096) (G : Nat → Int → Int → Int → Option Bool)
    (hG : ∀ k first next (n : Nat), n < l.length → G (k + 1) first next n = (if (rd xs n) = 0 then (G k first next (wrap64 ((n : Int) + 1))) else (if ((rd_T38 l n).f0) > now then (G k first (mn next ((rd_T38 l n).f0)) (wrap64 ((n : Int) + 1))) else (if first < 0 then (G k n next (wrap64 ((n : Int) + 1))) else (if 0 ≤ first then (if first < (l.length : Int) then (if ((rd_T38 l n).f1) < ((rd_T38 l first).f1) then (G k n next (wrap64 ((n : Int) + 1))) else (G k first next (wrap64 ((n : Int) + 1)))) else (none)) else (none)))))) :
    ∀ (d n : Nat) (first next : Int), n ≤ l.length → l.length - n = d → Scan l xs now n first next → ∃ first' next', Scan l xs now l.length first' next' ∧ ∀ b, Ev (fun k => G k first' next' (l.length : Int)) b → Ev (fun k => G k first next (n : Int)) b := by
  intro d
  induction d with
  | zero =>
    intro n first next h1 h2 hs
    obtain rfl : n = l.length := by omega
    exact ⟨first, next, hs, fun b h => h⟩
  | succ d ih =>
    intro n first next h1 h2 hs
    have hn : n < l.length := by omega
    have hx : n < xs.length := by omega
    have hg := fun k => hG k first next n hn
    simp only [rdI_at xs n hx, rd_at l n hn, wrap_succ n (by omega)] at hg
    by_cases c0 : xs[n] = 0
    · obtain ⟨f', n', s', e'⟩ := ih (n + 1) first next (by omega) (by omega) (hs.skip hn hx c0)
      exact ⟨f', n', s', fun b h => Ev.step (fun k => by rw [hg k, if_pos c0]) (e' b h)⟩
    · by_cases c1 : l[n].f0 > now
      · obtain ⟨f', n', s', e'⟩ := ih (n + 1) first (mn next l[n].f0) (by omega) (by omega) (hs.later hn hx c0 c1)
        exact ⟨f', n', s', fun b h => Ev.step (fun k => by rw [hg k, if_neg c0, if_pos c1]) (e' b h)⟩
      · by_cases c2 : first < 0
        · obtain ⟨f', n', s', e'⟩ := ih (n + 1) n next (by omega) (by omega) (hs.better hn hx c0 (by omega) (fun f hf e => by omega))
          exact ⟨f', n', s', fun b h => Ev.step (fun k => by rw [hg k, if_neg c0, if_neg c1, if_pos c2]) (e' b h)⟩
        · obtain ⟨f, k1, k2, e, _⟩ := hs.some (by omega)
          subst e
          simp only [rd_at l f k1] at hg
          by_cases c3 : l[n].f1 < l[f].f1
          · obtain ⟨f', n', s', e'⟩ := ih (n + 1) n next (by omega) (by omega) (hs.better hn hx c0 (by omega) (fun f' hf e => by
              obtain rfl : f = f' := by omega
              omega))
            exact ⟨f', n', s', fun b h => Ev.step (fun k => by rw [hg k, if_neg c0, if_neg c1, if_neg c2, if_pos (by omega), if_pos (by omega), if_pos c3]) (e' b h)⟩
          · obtain ⟨f', n', s', e'⟩ := ih (n + 1) f next (by omega) (by omega) (hs.keep hn hx c0 (by omega) (by omega) (fun f' hf e => by
              obtain rfl : f = f' := by omega
              omega))
            exact ⟨f', n', s', fun b h => Ev.step (fun k => by rw [hg k, if_neg c0, if_neg c1, if_neg c2, if_pos (by omega), if_pos (by omega), if_neg c3]) (e' b h)⟩

theorem St.left {l : List S38} {xs : List Int} {now all : Int} (h : St l xs now all) (ha : 0 < all) : ∃ j, ∃ (h1 : j < l.length) (h2 : j < xs.length), xs[j] ≠ 0 := by
  refine Classical.byContradiction fun hc => ?_
  have hz : ∀ x ∈ xs, x = 0 := fun x hx => Classical.byContradiction fun h0 => by
    obtain ⟨j, hj, rfl⟩ := List.getElem_of_mem hx
    exact hc ⟨j, by have := h.len; omega, hj, h0⟩
  have : xs.sum = 0 := by
    clear h ha hc
    induction xs with
    | nil => rfl
    | cons x xs ih => rw [List.sum_cons, hz x List.mem_cons_self, ih (fun y hy => hz y (List.mem_cons_of_mem _ hy))]; rfl
  have := h.tot
  omega
theorem St.none {l : List S38} {xs : List Int} {now all : Int} (h : St l xs now all) (ha : ¬ 0 < all) : ∀ j (h2 : j < xs.length), xs[j] = 0 := fun j h2 =>
  sum_zero xs h.pos (by have := sum_nonneg xs h.pos; have := h.tot; omega) _ (List.getElem_mem h2)
theorem set_ne {xs : List Int} {f : Nat} {r : Int} (hf : ∀ (h : f < xs.length), xs[f] ≠ 0) : ∀ j (h1 : j < xs.length) (h2 : j < (xs.set f r).length), (xs.set f r)[j] ≠ 0 → xs[j] ≠ 0 := fun j h1 h2 h => by
  rw [List.getElem_set] at h
  split at h
  · rename_i e; subst e; exact hf h1
  · exact h
theorem rd_set (xs : List Int) (f : Nat) (v : Int) (h : f < xs.length) : rd (xs.set f v) (f : Int) = v := by
  rw [rdI_at _ f (by simpa using h), List.getElem_set_self]

end Go.Proofs.Ytlmmdpdkddmklab.Q
