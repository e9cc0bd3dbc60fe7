import Derived.Test.YtfondhcppjkchaaGreatC30
import Derived.Deep.RegionHeld3
import Derived.Deep.RegionLaw
import Derived.Deep.LoopGhost
set_option maxHeartbeats 40000000
set_option maxRecDepth 100000
set_option linter.unusedVariables false
set_option linter.unusedSimpArgs false
namespace Go.Proofs.YtfondhcppjkchaaGreat.Q
open Go.RowKit Go.Proofs.YtfondhcppjkchaaGreatW.PrintWords Go.Proofs.YtfondhcppjkchaaGreatW.PrintLast
open Go.Proofs.YtfondhcppjkchaaGreatW.PrintMore
def putsS (i d : Int) (m : AL) : Nat → AL
 | 0 => m
 | n + 1 => (putsS i d m n).put (i, n) d
noncomputable def mLoop (l : List S78) (p h : Int) (costs : List Int) (i k hd n : Int) : Nat → Int → List Edge → Option (List Edge)
 | 0, _, _ => none
 | f + 1, t, es => (needsS l p h costs i k t es).bind fun r => if r.2 = true ∧ hd ≤ k then mLoop l p h costs i k hd n f (wrap64 (t + n)) r.1 else some r.1
noncomputable def kLoop (l : List S78) (p h : Int) (costs : List Int) (i hd n : Int) (f : Nat) (es : List Edge) : Nat → Option (List Edge)
 | 0 => some es
 | c + 1 => (kLoop l p h costs i hd n f es c).bind fun es1 => mLoop l p h costs i c hd n f c es1
noncomputable def taskOf (l : List S78) (p h : Int) (costs : List Int) (f : Nat) (s : AL × List Edge) (i : Int) : Option (AL × List Edge) :=
 (countL p h (zj l i).f0.f0 (zj l i).f0.f1).bind fun c =>
  if 0 ≤ c.1 ∧ 0 ≤ c.2.1 ∧ c.1 + c.2.1 ≤ 1073741824 then
   (kLoop l p h costs i c.1 c.2.1 f s.2 (c.1 + c.2.1).toNat).bind fun es => some (putsS i (zj l i).f1 s.1 (c.1 + c.2.1).toNat, es)
  else none
noncomputable def tasksOf (l : List S78) (p h : Int) (costs : List Int) (f : Nat) : Nat → Option (AL × List Edge)
 | 0 => some ([], [])
 | x + 1 => (tasksOf l p h costs f x).bind fun s => taskOf l p h costs f s x
def badCost (costs : List Int) : Bool := costs.any fun c => decide (c < 1 ∨ c > 1048576)
structure PlanD where
 p : Int
 h : Int
 m : AL
 es : List Edge
noncomputable def due_of.f (f : Nat) (l : List S78) (ins : List S68) (costs : List Int) : Option (Int × PlanD) :=
 (unfold_Of.f l ins).bind fun r =>
  if r.2.2 = 0 then
   if costs.length = l.length then
    if badCost costs = true then some (2, ⟨0, 0, [], []⟩)
    else (tasksOf l r.1 r.2.1 costs f l.length).bind fun s => some (0, ⟨r.1, r.2.1, s.1, s.2⟩)
   else some (2, ⟨0, 0, [], []⟩)
  else some (r.2.2, ⟨0, 0, [], []⟩)
theorem of_bad (A0 A1 A2 : Option Addr) (c0 c1 c2 : Nat) (l : List S78) (ins : List S68) (costs : List Int) (w : World) (h0 : Kd.C k78 w A0 l.length l) (hc0 : l.length ≤ c0) (h1 : Kd.C k68 w A1 ins.length ins) (hc1 : ins.length ≤ c1) (p h e : Int) (ho : unfold_Of.f l ins = some (p, h, e)) (hb : e ≠ 0 ∨ (e = 0 ∧ costs.length ≠ l.length)) :
  Calls Tryz.prog 39 #[.slice A0 l.length c0, .slice A1 ins.length c1, .slice A2 costs.length c2] w fun e' w' => e' = .returned (.tuple #[.pointer none, .int .i64 (if e = 0 then 2 else e)]) ∧ Below w.heap.size w w' := by
 have HO := Lib.hid (fun W (hW : Below w.heap.size w W) => unfold_Of.calls A0 c0 l A1 c1 ins p h e W (Kd.zu h0 hW) hc0 (Kd.zu h1 hW) hc1 ho)
 clear h0 h1 hc0 hc1 ho
 rcases hb with he | ⟨he, hl⟩
 ·have e1 : (e != 0) = true := by simpa using he
  rw [if_neg he]
  clear he
  go_enter Tryz.func39, Tryz.ntmps39
  go_wp2_with (first | (go_at_call 29; with_reducible refine (HO.out _ ?_).mono ?_; (focus exact Below.refl _ _); rintro e' w1 ⟨rfl, hb1⟩; have HB := Lib.hid hb1; clear hb1))
  go_ret2
  exact ⟨rfl, HB.out.alloc HB.out.size _⟩
 ·subst he
  have e1 : ((costs.length : Int) != (l.length : Int)) = true := by rw [bne_iff_ne]; omega
  have e2 : (costs.length != l.length) = true := by rw [bne_iff_ne]; exact hl
  clear hl
  rw [if_pos rfl]
  go_enter Tryz.func39, Tryz.ntmps39
  go_wp2_with (first | (go_at_call 29; with_reducible refine (HO.out _ ?_).mono ?_; (focus exact Below.refl _ _); rintro e' w1 ⟨rfl, hb1⟩; have HB := Lib.hid hb1; clear hb1))
  go_ret2
  exact ⟨rfl, HB.out.alloc HB.out.size _⟩
theorem rd_mem (l : List Int) (x : Int) (h0 : 0 ≤ x) (h : x < l.length) : rd l x ∈ l := by
 unfold rd
 rw [List.getD_eq_getElem?_getD, List.getElem?_eq_getElem (show x.toNat < l.length by omega)]
 exact List.getElem_mem _
theorem badCost_of {costs : List Int} {x : Int} (h0 : 0 ≤ x) (h : x < costs.length) (hb : rd costs x < 1 ∨ rd costs x > 1048576) : badCost costs = true := List.any_eq_true.2 ⟨_, rd_mem costs x h0 h, decide_eq_true hb⟩
theorem badCost_no {costs : List Int} (h : ∀ x : Int, 0 ≤ x → x < costs.length → ¬ (rd costs x < 1 ∨ rd costs x > 1048576)) : badCost costs = false := by
 unfold badCost
 rw [List.any_eq_false]
 intro c hc
 obtain ⟨i, hi⟩ := List.getElem?_of_mem hc
 have hl := (List.getElem?_eq_some_iff.1 hi).1
 have := h i (by omega) (by omega)
 have e : rd costs i = c := by unfold rd; rw [List.getD_eq_getElem?_getD, show ((i : Int)).toNat = i from rfl, hi]; rfl
 rw [e] at this
 simpa using this
theorem tasksOf_prefix {l : List S78} {p h : Int} {costs : List Int} {f : Nat} : ∀ {n : Nat} {s : AL × List Edge}, tasksOf l p h costs f n = some s → ∀ k, k ≤ n → ∃ s', tasksOf l p h costs f k = some s'
 | 0, s, hs, k, hk => ⟨s, by rw [show k = 0 by omega]; exact hs⟩
 | n + 1, s, hs, k, hk => by
  by_cases e : k = n + 1
  ·exact ⟨s, by rw [e]; exact hs⟩
  ·obtain ⟨s1, h1, _⟩ := Option.bind_eq_some_iff.mp (show (tasksOf l p h costs f n).bind _ = some s from hs)
   exact tasksOf_prefix h1 k (by omega)
theorem kLoop_prefix {l : List S78} {p h : Int} {costs : List Int} {i hd n : Int} {f : Nat} {es : List Edge} : ∀ {c : Nat} {s : List Edge}, kLoop l p h costs i hd n f es c = some s → ∀ k, k ≤ c → ∃ s', kLoop l p h costs i hd n f es k = some s'
 | 0, s, hs, k, hk => ⟨s, by rw [show k = 0 by omega]; exact hs⟩
 | c + 1, s, hs, k, hk => by
  by_cases e : k = c + 1
  ·exact ⟨s, by rw [e]; exact hs⟩
  ·obtain ⟨s1, h1, _⟩ := Option.bind_eq_some_iff.mp (show (kLoop l p h costs i hd n f es c).bind _ = some s from hs)
   exact kLoop_prefix h1 k (by omega)
theorem taskOf_inv {l : List S78} {p h : Int} {costs : List Int} {f : Nat} {m1 m2 : AL} {es1 es2 : List Edge} {i : Int} (ht : taskOf l p h costs f (m1, es1) i = some (m2, es2)) :
  ∃ hd n e, countL p h (zj l i).f0.f0 (zj l i).f0.f1 = some (hd, n, e) ∧ 0 ≤ hd ∧ 0 ≤ n ∧ hd + n ≤ 1073741824 ∧ kLoop l p h costs i hd n f es1 (hd + n).toNat = some es2 ∧ m2 = putsS i (zj l i).f1 m1 (hd + n).toNat := by
 unfold taskOf at ht
 obtain ⟨⟨hd, n, e⟩, hc, ht⟩ := Option.bind_eq_some_iff.mp ht
 simp only at ht
 by_cases hb : 0 ≤ hd ∧ 0 ≤ n ∧ hd + n ≤ 1073741824
 ·rw [if_pos hb] at ht
  obtain ⟨es3, hk, ht⟩ := Option.bind_eq_some_iff.mp ht
  injection ht with ht
  injection ht with a b
  subst b
  exact ⟨hd, n, e, hc, hb.1, hb.2.1, hb.2.2, hk, a.symm⟩
 ·rw [if_neg hb] at ht
  cases ht
theorem mLoop_inv {l : List S78} {p h : Int} {costs : List Int} {i k hd n : Int} {f : Nat} {t : Int} {es es' : List Edge} (hm : mLoop l p h costs i k hd n f t es = some es') :
  ∃ f' es1 early, f = f' + 1 ∧ needsS l p h costs i k t es = some (es1, early) ∧ ((early = true ∧ hd ≤ k ∧ mLoop l p h costs i k hd n f' (wrap64 (t + n)) es1 = some es') ∨ (¬ (early = true ∧ hd ≤ k) ∧ es1 = es')) := by
 cases f with
 | zero => cases hm
 | succ f =>
  unfold mLoop at hm
  obtain ⟨⟨es1, early⟩, h1, hm⟩ := Option.bind_eq_some_iff.mp hm
  simp only at hm
  by_cases hc : early = true ∧ hd ≤ k
  ·rw [if_pos hc] at hm
   exact ⟨f, es1, early, rfl, h1, .inl ⟨hc.1, hc.2, hm⟩⟩
  ·rw [if_neg hc] at hm
   injection hm with hm
   exact ⟨f, es1, early, rfl, h1, .inr ⟨hc, hm⟩⟩
theorem PlanV.made {w W : World} (hb : Below w.heap.size w W) (A0 : Option Addr) (c0 : Nat) (l : List S78) (p h : Int) (A2 : Option Addr) (c2 : Nat) (costs : List Int) :
  PlanV w ⟨W.heap.size + 1, A0, c0, l, p, h, A2, c2, costs, W.heap.size⟩ [] [] (.slice none 0 0) ((W.alloc (.map #[] 0)).alloc (.cells #[.slice A0 l.length c0, .int .i64 p, .int .i64 h, .slice A2 costs.length c2, .map (some W.heap.size), .slice none 0 0] 100)) := by
 have hs : (W.alloc (.map #[] 0)).heap.size = W.heap.size + 1 := by simp
 have hn := heap_alloc_new (W.alloc (.map #[] 0)) (.cells #[.slice A0 l.length c0, .int .i64 p, .int .i64 h, .slice A2 costs.length c2, .map (some W.heap.size), .slice none 0 0] 100)
 rw [hs] at hn
 have hbx : ∀ i u, (#[.slice A0 l.length c0, .int .i64 p, .int .i64 h, .slice A2 costs.length c2, .map (some W.heap.size), .slice none 0 0] : Array Value)[i]? = some u → ((W.alloc (.map #[] 0)).alloc (.cells #[.slice A0 l.length c0, .int .i64 p, .int .i64 h, .slice A2 costs.length c2, .map (some W.heap.size), .slice none 0 0] 100)).cell? ⟨W.heap.size + 1, i, none⟩ = some u := fun i u hu => by
  rw [cell_of_row _ _ _ _ _ _ hn]; exact hu
 have hw := hb.size
 refine ⟨hbx 0 _ rfl, hbx 1 _ rfl, hbx 2 _ rfl, hbx 3 _ rfl, hbx 4 _ rfl, hbx 5 _ rfl, ?_, World.ownsRow_nil _ _ _ _, ?_, by simp only; omega, by simp only; omega, by simp only; omega, by simp [Value.ownBlock], by simp [Value.ownBlock], ?_⟩
 ·simp only [World.frozen?]; rw [hn]; rfl
 ·exact (OwnsM.made W).block (heap_alloc_old _ _ (by simp))
 ·exact (hb.alloc hb.size _).alloc (by rw [hs]; omega) _
def OfPost (w : World) (A0 : Option Addr) (c0 : Nat) (l : List S78) (A2 : Option Addr) (c2 : Nat) (costs : List Int) (e : Int) (D : PlanD) (e' : Ending) (w' : World) : Prop :=
 (e ≠ 0 ∧ e' = .returned (.tuple #[.pointer none, .int .i64 e]) ∧ Below w.heap.size w w') ∨
 (e = 0 ∧ ∃ B bm, e' = .returned (.tuple #[.pointer (some ⟨B, 0, none⟩), .int .i64 0]) ∧ Plan w ⟨B, A0, c0, l, D.p, D.h, A2, c2, costs, bm⟩ D.m D.es w')
theorem of_goes (A0 A1 A2 : Option Addr) (c0 c1 c2 : Nat) (l : List S78) (ins : List S68) (costs : List Int) (w : World) (h0 : Kd.C k78 w A0 l.length l) (hc0 : l.length ≤ c0) (h1 : Kd.C k68 w A1 ins.length ins) (hc1 : ins.length ≤ c1) (h2 : Kd.C (Kd.int .i64) w A2 costs.length costs) (p h : Int) (ho : unfold_Of.f l ins = some (p, h, 0)) (hl : costs.length = l.length)
  (f : Nat) (m : AL) (es : List Edge) (ht : badCost costs = false → tasksOf l p h costs f l.length = some (m, es)) (E : Int) (hE : (if badCost costs = true then 2 else 0) = E) :
  Calls Tryz.prog 39 #[.slice A0 l.length c0, .slice A1 ins.length c1, .slice A2 costs.length c2] w (OfPost w A0 c0 l A2 c2 costs E ⟨p, h, m, es⟩) := by
 have HE := Lib.hid hE
 clear hE
 have HO := Lib.hid (fun W (hW : Below w.heap.size w W) => unfold_Of.calls A0 c0 l A1 c1 ins p h 0 W (Kd.zu h0 hW) hc0 (Kd.zu h1 hW) hc1 ho)
 have hmm := @run_makeMap Tryz.prog
 have hcl : costs.length ≤ 9223372036854775807 := h2.2.1
 have hll : l.length ≤ 9223372036854775807 := h0.2.1
 have e1 : ((costs.length : Int) != (l.length : Int)) = false := by rw [bne_eq_false_iff_eq]; omega
 have e2 : (costs.length != l.length) = false := by rw [bne_eq_false_iff_eq]; exact hl
 have HL := Lib.hid hl
 have H0 := Lib.hid h0
 have H2 := Lib.hid h2
 have HT := Lib.hid ht
 clear h0 h1 hc0 hc1 ho hl h2 ht
 go_enter Tryz.func39, Tryz.ntmps39
 go_wp2_with (first | (go_at_call 29; with_reducible refine (HO.out _ ?_).mono ?_; (focus exact Below.refl _ _); rintro e' w1 ⟨rfl, hb1⟩; have HB := Lib.hid hb1; clear hb1))
 generalize hS : w1.heap.size = S0
 have HS := Lib.hid hS
 clear hS
 go_loopw [37] (fun v37 W1 => ∃ x : Int, v37 = .int .i64 x ∧ 0 ≤ x ∧ x ≤ costs.length ∧ (∀ y : Int, 0 ≤ y → y < x → ¬ (rd costs y < 1 ∨ rd costs y > 1048576)) ∧ W1 = w1.alloc (.cells #[.int .i64 p, .int .i64 h] 39)) (fun v37 _ => costs.length - (intOf v37).toNat)
 case atStart => exact ⟨0, rfl, by omega, by omega, fun y a b => by omega, rfl⟩
 case round =>
  obtain ⟨x, rfl, x0, x1, hok, rfl⟩ := hrel
  have HB1 := Lib.hid (HB.out.alloc HB.out.size (.cells #[.int .i64 p, .int .i64 h] 39))
  by_cases hlt : x < (costs.length : Int)
  ·obtain ⟨ad, rfl, hx⟩ := Kd.zya (Kd.zu H2.out HB1.out) x x0 hlt
   have HK := Lib.hid hok
   clear hok
   have c := decide_eq_true hlt
   have j0 := eq_true x0
   have j1 := eq_true hlt
   generalize hy : rd costs x = y at hx
   have HY := Lib.hid hy
   clear hy
   generalize w1.alloc (.cells #[.int .i64 p, .int .i64 h] 39) = W1 at hx HB1 ⊢
   by_cases hb1 : y < 1
   ·have d1 := decide_eq_true hb1
    have hbad := badCost_of x0 hlt (.inl (by rw [HY.out]; exact hb1))
    have HBD := Lib.hid hbad
    clear hbad hb1
    go_wp2
    go_ret2
    exact .inl ⟨by rw [← HE.out, if_pos HBD.out]; decide, by rw [← HE.out, if_pos HBD.out]; rfl, HB1.out⟩
   ·have d1 := decide_eq_false hb1
    by_cases hb2 : y > 1048576
    ·have d2 := decide_eq_true hb2
     have hbad := badCost_of x0 hlt (.inr (by rw [HY.out]; exact hb2))
     have HBD := Lib.hid hbad
     clear hbad hb1 hb2
     go_wp2
     go_ret2
     exact .inl ⟨by rw [← HE.out, if_pos HBD.out]; decide, by rw [← HE.out, if_pos HBD.out]; rfl, HB1.out⟩
    ·have d2 := decide_eq_false hb2
     have HB12 := Lib.hid (And.intro hb1 hb2)
     clear hb1 hb2
     go_wp2
     go_roundw
     case rel => exact ⟨x + 1, by go_num, by omega, by omega, fun z a b => by
      by_cases e : z = x
      ·rw [e, HY.out]; exact fun hh => hh.elim HB12.out.1 HB12.out.2
      ·exact HK.out z a (by omega), by first | rfl | trivial⟩
     case measure => simp [intOf]; omega
  ·have hbn : badCost costs = false := badCost_no fun y a b => hok y a (by omega)
   have HBN := Lib.hid hbn
   have HTT := Lib.hid (HT.out hbn)
   clear hok hbn
   have hE0 : E = 0 := by rw [← HE.out, HBN.out]; rfl
   subst hE0
   have hS2 : S0 < (w1.alloc (.cells #[.int .i64 p, .int .i64 h] 39)).heap.size := by rw [← HS.out]; simp
   have hwS : w.heap.size ≤ S0 := by rw [← HS.out]; exact HB.out.size
   have hbx : ∀ i u, (#[.int .i64 p, .int .i64 h] : Array Value)[i]? = some u → (w1.alloc (.cells #[.int .i64 p, .int .i64 h] 39)).cell? ⟨S0, i, none⟩ = some u := fun i u hu => by
    rw [← HS.out, cell_of_row _ _ _ _ _ _ (heap_alloc_new w1 _)]; exact hu
   have s0 := hbx 0 (.int .i64 p) rfl
   have s1 := hbx 1 (.int .i64 h) rfl
   clear hbx
   generalize w1.alloc (.cells #[.int .i64 p, .int .i64 h] 39) = W1 at HB1 hS2 s0 s1 ⊢
   go_wp2
   have HPM := PlanV.made HB1.out A0 c0 l p h A2 c2 costs
   have hSB : S0 ≠ W1.heap.size + 1 := by omega
   have hSm : S0 ≠ W1.heap.size := by omega
   have hS3 : S0 < ((W1.alloc (.map #[] 0)).alloc (.cells #[.slice A0 l.length c0, .int .i64 p, .int .i64 h, .slice A2 costs.length c2, .map (some W1.heap.size), .slice none 0 0] 100)).heap.size := by simp; omega
   have s0' : ((W1.alloc (.map #[] 0)).alloc (.cells #[.slice A0 l.length c0, .int .i64 p, .int .i64 h, .slice A2 costs.length c2, .map (some W1.heap.size), .slice none 0 0] 100)).cell? ⟨S0, 0, none⟩ = some (.int .i64 p) := (World.cell?_of_block (heap_alloc_old _ _ (by simp; omega))).trans ((World.cell?_of_block (heap_alloc_old W1 _ hS2)).trans s0)
   have s1' : ((W1.alloc (.map #[] 0)).alloc (.cells #[.slice A0 l.length c0, .int .i64 p, .int .i64 h, .slice A2 costs.length c2, .map (some W1.heap.size), .slice none 0 0] 100)).cell? ⟨S0, 1, none⟩ = some (.int .i64 h) := (World.cell?_of_block (heap_alloc_old _ _ (by simp; omega))).trans ((World.cell?_of_block (heap_alloc_old W1 _ hS2)).trans s1)
   clear s0 s1 hS2 HB1 HB HO hmm
   generalize (W1.alloc (.map #[] 0)).alloc (.cells #[.slice A0 l.length c0, .int .i64 p, .int .i64 h, .slice A2 costs.length c2, .map (some W1.heap.size), .slice none 0 0] 100) = W0 at HPM hS3 s0' s1' ⊢
   generalize W1.heap.size = bm at HPM hSB hSm ⊢
   generalize bm + 1 = B0 at HPM hSB ⊢
   have HP0 := Lib.hid HPM
   clear HPM
   go_loopw [56] (fun v56 W2 => ∃ (x : Int) (m1 : AL) (es1 : List Edge), v56 = .int .i64 x ∧ 0 ≤ x ∧ x ≤ l.length ∧ tasksOf l p h costs f x.toNat = some (m1, es1) ∧ NeedAt w ⟨B0, A0, c0, l, p, h, A2, c2, costs, bm⟩ m1 (.slice none 0 0) W0 es1 W2) (fun v56 _ => l.length - (intOf v56).toNat)
   case atStart => exact ⟨0, [], [], rfl, by omega, by omega, rfl, ⟨_, HP0.out, Mv.refl _ _⟩⟩
   case round =>
    clear HP0
    obtain ⟨x, m1, es1, rfl, x0, x1, htx, hN⟩ := hrel
    by_cases hlt2 : x < (l.length : Int)
    ·obtain ⟨v, hv, hmv⟩ := hN.pl
     obtain ⟨⟨m2, es2⟩, hs2⟩ := tasksOf_prefix HTT.out (x.toNat + 1) (by omega)
     have htk : taskOf l p h costs f (m1, es1) x = some (m2, es2) := by
      have hs3 : (tasksOf l p h costs f x.toNat).bind (fun s => taskOf l p h costs f s ((x.toNat : Nat) : Int)) = some (m2, es2) := hs2
      rw [htx] at hs3
      simp only [Option.bind_some] at hs3
      rw [show ((x.toNat : Nat) : Int) = x by omega] at hs3
      exact hs3
     obtain ⟨hd, n, e9, hct, hd0, hn0, hb9, hkl, hm2⟩ := taskOf_inv htk
     obtain ⟨ad, A5, c5, rfl, g0', g1', g2', g3', g4', g5', g6', -, -⟩ := zeb (Kd.zu H0.out hv.bel) x x0 hlt2
     have HS2 := Lib.hid (show tasksOf l p h costs f (x + 1).toNat = some (m2, es2) by rw [show (x + 1).toNat = x.toNat + 1 by omega]; exact hs2)
     have HCT := Lib.hid (fun W => countL_calls p h (zj l x).f0.f0 (zj l x).f0.f1 hd n e9 W hct)
     have HKL := Lib.hid hkl
     have HM2 := Lib.hid hm2
     have HV := Lib.hid hv
     have HMV := Lib.hid hmv
     have c := decide_eq_true hlt2
     have j0 := eq_true x0
     have j1 := eq_true hlt2
     have q0 := (hmv.cell hS3 hSB hSm (by simp [Value.ownBlock])).trans s0'
     have q1 := (hmv.cell hS3 hSB hSm (by simp [Value.ownBlock])).trans s1'
     have hSr : S0 < wr.heap.size := Nat.lt_of_lt_of_le hS3 hmv.size
     clear htx htk hs2 hct hkl hm2 hv hmv hN
     generalize hT : zj l x = T at g0' g1' g2' g3' g4' g5' g6' HCT HM2
     have HTX := Lib.hid hT
     clear hT
     have hB0 : B0 < wr.heap.size := World.block_lt_of_cell? wr _ HV.out.k0
     have hbm : bm < wr.heap.size := HV.out.map.lt
     have hvl : ∀ g, v.ownBlock = some g → g < wr.heap.size := fun g hg => (HV.out.own.lt g hg).2
     have HVL := Lib.hid hvl
     clear hvl
     go_wp2_with (first | (go_at_call 34; with_reducible refine (HCT.out _).mono ?_; rintro e' w3 ⟨rfl, hb3⟩; have HB3 := Lib.hid hb3; clear hb3))
     have d2w : (wr.alloc (.cells #[.int .i64 T.f0.f0, .int .i64 T.f0.f1, .int .i64 T.f1, .int .i64 T.f2, .int .i64 T.f3, .slice A5 T.f4.length c5, .int .i64 T.f5] 78)).cell? ⟨wr.heap.size, 2, none⟩ = some (.int .i64 T.f1) := by
      rw [cell_of_row _ _ _ _ _ _ (heap_alloc_new wr _)]; rfl
     have hb3 := ((Below.refl wr.heap.size wr).alloc (Nat.le_refl _) _).trans (HB3.out.mono (by simp))
     have d2 := keepc HB3.out d2w
     have q0' := keepc hb3 q0
     have q1' := keepc hb3 q1
     have hT3 : wr.heap.size < w3.heap.size := World.block_lt_of_cell? w3 _ d2
     have HV3 := Lib.hid (HV.out.grow hb3)
     have HMV3 := Lib.hid (HMV.out.trans (Mv.of_below (P := ⟨B0, some ad, c0, l, p, h, A2, c2, costs, bm⟩) v hb3))
     have hTv : v.ownBlock ≠ some wr.heap.size := fun e => by have := HVL.out _ e; omega
     have hTB : wr.heap.size ≠ B0 := by omega
     have hTm : wr.heap.size ≠ bm := by omega
     clear d2w q0 q1 g0' g1' g2' g3' g4' g5' g6' hb3 HB3 HV HMV HCT HVL j0 j1 c
     generalize wr.heap.size = T9 at d2 hTv hTB hTm hT3 hSr hB0 hbm ⊢
     have HTv := Lib.hid hTv
     clear hTv
     go_loopw [72] (fun v72 W4 => ∃ y : Int, v72 = .int .i64 y ∧ 0 ≤ y ∧ y ≤ hd + n ∧ PlanV w ⟨B0, some ad, c0, l, p, h, A2, c2, costs, bm⟩ (putsS x T.f1 m1 y.toNat) es1 v W4 ∧ Mv ⟨B0, some ad, c0, l, p, h, A2, c2, costs, bm⟩ v v w3 W4) (fun v72 _ => (hd + n - intOf v72).toNat)
     case atStart => exact ⟨0, rfl, by omega, by omega, HV3.out, Mv.refl _ _⟩
     case round =>
      obtain ⟨y, rfl, y0, y1, hv4, hm4⟩ := hrel
      by_cases hlt3 : y < hd + n
      ·have c := decide_eq_true hlt3
       have k4 := hv4.k4
       have d3 := (hm4.cell hT3 hTB hTm HTv.out).trans d2
       obtain ⟨W5, hup, hown5, htn⟩ := hv4.drew.map.update (x, y) T.f1
       have hup' : (Instr.mapUpdate 97 (.map (some bm)) (.agg #[.int .i64 x, .int .i64 y]) (.int .i64 T.f1)).run Tryz.prog wr.drew = .ok () W5 := hup
       have hpu : putsS x T.f1 m1 (y + 1).toNat = (putsS x T.f1 m1 y.toNat).put (x, y) T.f1 := by
        rw [show (y + 1).toNat = y.toNat + 1 by omega]
        show (putsS x T.f1 m1 y.toNat).put (x, ((y.toNat : Nat) : Int)) T.f1 = _
        rw [show ((y.toNat : Nat) : Int) = y by omega]
       have HPU := Lib.hid hpu
       have HV5 := Lib.hid (hv4.drew.turn htn hown5)
       have HM5 := Lib.hid ((hm4.trans (Mv.of_below v (Below.refl _ _).drew)).trans (Mv.of_turn v htn))
       clear hv4 hm4 hup hown5 htn hpu
       go_wp2
       apply wp_ex (I := fun W6 => W6 = W5)
       ·go_region
        all_goals exact ⟨rfl, rfl⟩
       rintro W6 rfl
       go_wp2
       go_roundw
       case rel => exact ⟨y + 1, by go_num, by omega, by omega, by rw [HPU.out]; exact HV5.out, HM5.out⟩
       case measure => simp [intOf]; omega
      ·have e : y = hd + n := by omega
       subst e
       rw [← HM2.out] at hv4
       have HV4 := Lib.hid hv4
       have HM4 := Lib.hid hm4
       have dd := decide_eq_false hlt3
       have z0 : 0 ≤ hd + n := y0
       have H0' := Lib.hid (show Kd.C k78 w (some ad) l.length l from H0.out)
       clear hv4 hm4 y1 HV3 d2 y0
       go_wp2
       go_loopw [88] (fun v88 W6 => ∃ (y : Int) (es3 : List Edge) (v3 : Value), v88 = .int .i64 y ∧ 0 ≤ y ∧ y ≤ hd + n ∧ kLoop l p h costs x hd n f es1 y.toNat = some es3 ∧ PlanV w ⟨B0, some ad, c0, l, p, h, A2, c2, costs, bm⟩ m2 es3 v3 W6 ∧ Mv ⟨B0, some ad, c0, l, p, h, A2, c2, costs, bm⟩ v v3 w3 W6) (fun v88 _ => (hd + n - intOf v88).toNat)
       case atStart => exact ⟨0, es1, v, rfl, by omega, z0, rfl, HV4.out, HM4.out⟩
       case round =>
        clear HV4 HM4
        obtain ⟨y, es3, v3, rfl, y0, y1, hk3, hv6, hm6⟩ := hrel
        by_cases hlt4 : y < hd + n
        ·obtain ⟨es4, hk4⟩ := kLoop_prefix HKL.out (y.toNat + 1) (by omega)
         have hml : mLoop l p h costs x y hd n f y es3 = some es4 := by
          have hs3 : (kLoop l p h costs x hd n f es1 y.toNat).bind (fun e => mLoop l p h costs x ((y.toNat : Nat) : Int) hd n f ((y.toNat : Nat) : Int) e) = some es4 := hk4
          rw [hk3] at hs3
          simp only [Option.bind_some] at hs3
          rw [show ((y.toNat : Nat) : Int) = y by omega] at hs3
          exact hs3
         have HK4 := Lib.hid (show kLoop l p h costs x hd n f es1 (y + 1).toNat = some es4 by rw [show (y + 1).toNat = y.toNat + 1 by omega]; exact hk4)
         have HML := Lib.hid hml
         have HV6 := Lib.hid hv6
         have HM6 := Lib.hid hm6
         have c := decide_eq_true hlt4
         clear hk4 hml hk3 hv6 hm6
         go_wp2
         go_loopg [20] f (fun fq v20 W7 => ∃ (t : Int) (es5 : List Edge) (v5 : Value), v20 = .int .i64 t ∧ mLoop l p h costs x y hd n fq t es5 = some es4 ∧ PlanV w ⟨B0, some ad, c0, l, p, h, A2, c2, costs, bm⟩ m2 es5 v5 W7 ∧ Mv ⟨B0, some ad, c0, l, p, h, A2, c2, costs, bm⟩ v v5 w3 W7)
         case atStart => exact ⟨y, es3, v3, rfl, HML.out, HV6.out, HM6.out⟩
         case round =>
          clear HV6 HM6 HML
          obtain ⟨t, es5, v5, rfl, hml, hv7, hm7⟩ := hrel
          obtain ⟨f', es6, early, rfl, hns, hor⟩ := mLoop_inv hml
          have HND := Lib.hid (needs_any w ⟨B0, some ad, c0, l, p, h, A2, c2, costs, bm⟩ m2 es5 v5 wr hv7 H0'.out H2.out x y t x0 hlt2 (by rw [HL.out]; exact hlt2) es6 early hns)
          have HM7 := Lib.hid hm7
          clear hml hns hv7 hm7
          cases early with
          | false =>
           have hes : es6 = es4 := by
            rcases hor with ⟨h1, _⟩ | ⟨_, h1⟩
            ·cases h1
            ·exact h1
           subst hes
           clear hor
           go_wp2_with (first | (go_at_call 72; with_reducible refine HND.out.mono ?_; rintro e' w8 ⟨rfl, v8, hv8, hm8⟩; have HV8 := Lib.hid hv8; have HM8 := Lib.hid hm8; clear hv8 hm8))
           go_roundw
           case rel => exact ⟨y + 1, _, v8, by go_num, by omega, by omega, HK4.out, HV8.out, HM7.out.trans HM8.out⟩
           case measure => simp [intOf]; omega
          | true =>
           by_cases hge : hd ≤ y
           ·have cg := decide_eq_true hge
            have hml : mLoop l p h costs x y hd n f' (wrap64 (t + n)) es6 = some es4 := by
             rcases hor with ⟨_, _, h1⟩ | ⟨h1, _⟩
             ·exact h1
             ·exact absurd ⟨rfl, hge⟩ h1
            have HML := Lib.hid hml
            clear hor hml hge
            go_wp2_with (first | (go_at_call 72; with_reducible refine HND.out.mono ?_; rintro e' w8 ⟨rfl, v8, hv8, hm8⟩; have HV8 := Lib.hid hv8; have HM8 := Lib.hid hm8; clear hv8 hm8))
            go_roundg f'
            case measure => omega
            case rel => exact ⟨_, es6, v8, rfl, HML.out, HV8.out, HM7.out.trans HM8.out⟩
           ·have cg := decide_eq_false hge
            have hes : es6 = es4 := by
             rcases hor with ⟨_, h1, _⟩ | ⟨_, h1⟩
             ·exact absurd h1 hge
             ·exact h1
            subst hes
            clear hor hge
            go_wp2_with (first | (go_at_call 72; with_reducible refine HND.out.mono ?_; rintro e' w8 ⟨rfl, v8, hv8, hm8⟩; have HV8 := Lib.hid hv8; have HM8 := Lib.hid hm8; clear hv8 hm8))
            go_roundw
            case rel => exact ⟨y + 1, _, v8, by go_num, by omega, by omega, HK4.out, HV8.out, HM7.out.trans HM8.out⟩
            case measure => simp [intOf]; omega
        ·have e : y = hd + n := by omega
         subst e
         rw [HKL.out] at hk3
         cases hk3
         have HV6 := Lib.hid hv6
         have HM6 := Lib.hid hm6
         have c := decide_eq_false hlt4
         clear hv6 hm6
         go_wp2
         go_roundw
         case rel => exact ⟨x + 1, m2, _, by go_num, by omega, by omega, HS2.out, ⟨_, HV6.out, HMV3.out.trans HM6.out⟩⟩
         case measure => simp [intOf]; omega
    ·have e : x.toNat = l.length := by omega
     rw [e, HTT.out] at htx
     cases htx
     have HN := Lib.hid hN
     clear hN
     go_wp2
     go_ret2
     obtain ⟨v, hv, _⟩ := HN.out
     exact .inr ⟨rfl, B0, bm, rfl, v, hv⟩
theorem due_of.calls (f : Nat) (A0 : Option Addr) (c0 : Nat) (l : List S78) (A1 : Option Addr) (c1 : Nat) (ins : List S68) (A2 : Option Addr) (c2 : Nat) (costs : List Int) (e : Int) (D : PlanD) (w : World) (h0 : Kd.C k78 w A0 l.length l) (hc0 : l.length ≤ c0) (h1 : Kd.C k68 w A1 ins.length ins) (hc1 : ins.length ≤ c1) (h2 : Kd.C (Kd.int .i64) w A2 costs.length costs) (h : due_of.f f l ins costs = some (e, D)) :
  Calls Tryz.prog 39 #[.slice A0 l.length c0, .slice A1 ins.length c1, .slice A2 costs.length c2] w (OfPost w A0 c0 l A2 c2 costs e D) := by
 unfold due_of.f at h
 obtain ⟨⟨p, hy, eo⟩, ho, h⟩ := Option.bind_eq_some_iff.mp h
 simp only at h
 by_cases he : eo = 0
 ·rw [if_pos he] at h
  subst he
  by_cases hl : costs.length = l.length
  ·rw [if_pos hl] at h
   by_cases hb : badCost costs = true
   ·rw [if_pos hb] at h
    injection h with h
    injection h with h3 h4
    subst h3
    refine (of_goes A0 A1 A2 c0 c1 c2 l ins costs w h0 hc0 h1 hc1 h2 p hy ho hl f [] [] (fun hf => by rw [hb] at hf; cases hf) 2 (by rw [if_pos hb])).mono ?_
    rintro e' w' (⟨q1, q2, q3⟩ | ⟨q1, _⟩)
    ·exact .inl ⟨q1, q2, q3⟩
    ·cases q1
   ·rw [if_neg hb] at h
    obtain ⟨⟨m, es⟩, ht, h⟩ := Option.bind_eq_some_iff.mp h
    injection h with h
    injection h with h3 h4
    subst h3 h4
    exact of_goes A0 A1 A2 c0 c1 c2 l ins costs w h0 hc0 h1 hc1 h2 p hy ho hl f m es (fun _ => ht) 0 (by rw [if_neg hb])
  ·rw [if_neg hl] at h
   injection h with h
   injection h with h3 h4
   subst h3
   refine (of_bad A0 A1 A2 c0 c1 c2 l ins costs w h0 hc0 h1 hc1 p hy 0 ho (.inr ⟨rfl, hl⟩)).mono ?_
   rintro e' w' ⟨q1, q2⟩
   exact .inl ⟨by decide, q1, q2⟩
 ·rw [if_neg he] at h
  injection h with h
  injection h with h3 h4
  subst h3
  refine (of_bad A0 A1 A2 c0 c1 c2 l ins costs w h0 hc0 h1 hc1 p hy eo ho (.inl he)).mono ?_
  rintro e' w' ⟨q1, q2⟩
  rw [if_neg he] at q1
  exact .inl ⟨he, q1, q2⟩
end Go.Proofs.YtfondhcppjkchaaGreat.Q
