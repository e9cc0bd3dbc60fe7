import Derived.Test.YtfondhcppjkchaaGreatC4
import Derived.Test.YtfondhcppjkchaaGreatC9
set_option maxHeartbeats 40000000
set_option maxRecDepth 100000
set_option linter.unusedVariables false
set_option linter.unusedSimpArgs false
namespace Go.Proofs.YtfondhcppjkchaaGreat.Q
open Go.RowKit Go.Proofs.YtfondhcppjkchaaGreatW.PrintWords Go.Proofs.YtfondhcppjkchaaGreatW.PrintLast
open Go.Proofs.YtfondhcppjkchaaGreatW.PrintMore
def badClock (c : S68) : Bool := !clockB c
def badTask (t : S78) : Bool := !clockB t.f0
def TClk (t : S78) : Prop := Clk t.f0
def badW (w : S61) : Bool := decide (w.f0 < 0) || decide (w.f0 > 1125899906842624) || decide (w.f1 ≤ w.f0) || decide (w.f1 > 2251799813685248) || decide (w.f2 < 1) || decide (w.f2 > 1048576)
theorem tasks_May_1_eq (c : S68) (h : Clk c) : tasks_May_1.f 1 c.f0 c.f1 = some (badClock c) := by
 unfold tasks_May_1.f; rw [mayClock_eq 0 c h.1 h.2]; rfl
theorem Jobs_1_eq (t : S78) (h : TClk t) : unfold_Jobs_1.f 1 t.f0.f0 t.f0.f1 t.f1 t.f2 t.f3 t.f4 t.f5 = some (badTask t) := by
 unfold unfold_Jobs_1.f; rw [unfold_mayClock_eq 0 t.f0 h.1 h.2]; rfl
theorem May_1_eq (x : S61) : demand_May_1.f x.f0 x.f1 x.f2 = some (badW x) := by
 unfold demand_May_1.f badW
 by_cases h1 : x.f0 < 0 <;> by_cases h2 : x.f0 > 1125899906842624 <;> by_cases h3 : x.f1 ≤ x.f0 <;> by_cases h4 : x.f1 > 2251799813685248 <;> by_cases h5 : x.f2 < 1 <;> simp [h1, h2, h3, h4, h5]
theorem containsClock_mem (l : List S68) (x : Int) (h0 : 0 ≤ x) (h1 : x < l.length) : zbb l x ∈ l := by
 have hl : x.toNat < l.length := by omega
 have : zbb l x = l[x.toNat] := by unfold zbb; rw [List.getD_eq_getElem?_getD, List.getElem?_eq_getElem hl]; rfl
 rw [this]; exact List.getElem_mem hl
theorem containsClock_take (l : List S68) (x : Int) (h0 : 0 ≤ x) (h1 : x < l.length) (hp : (l.take x.toNat).any badClock = false) (hb : badClock (zbb l x) = false) : (l.take (x + 1).toNat).any badClock = false := by
 have e : (x + 1).toNat = x.toNat + 1 := by omega
 have hl : x.toNat < l.length := by omega
 rw [e, List.take_succ_eq_append_getElem hl, List.any_append, hp]
 have : zbb l x = l[x.toNat] := by unfold zbb; rw [List.getD_eq_getElem?_getD, List.getElem?_eq_getElem hl]; rfl
 rw [this] at hb
 simp [hb]
theorem containsClock_hit (l : List S68) (x : Int) (h0 : 0 ≤ x) (h1 : x < l.length) (hb : badClock (zbb l x) = true) : l.any badClock = true :=
 List.any_eq_true.mpr ⟨_, containsClock_mem l x h0 h1, hb⟩
open Classical in
noncomputable def containsClock.f (l0 : List S68) : Option Bool := if ∀ x ∈ l0, Clk x then some (l0.any badClock) else none
theorem containsClock_index (A0 : Option Addr) (c0 : Nat) (l0 : List S68) (hok : ∀ x ∈ l0, Clk x) (w : World) (hr0 : Kd.C k68 w A0 l0.length l0) :
  Calls Tryz.prog 122 #[.slice A0 l0.length c0, .func (.func 87) #[] #[]] w fun e w' => (∃ i : Int, e = .returned (.int .i64 i) ∧ (0 ≤ i ↔ l0.any badClock = true)) ∧ Below w.heap.size w w' := by
 have hn : l0.length ≤ 9223372036854775807 := hr0.2.1
 have HR0 := zb.mk hr0
 have HN := zb.mk hn
 have HOK := zb.mk hok; clear hok
 clear hr0 hn
 go_enter Tryz.func122, Tryz.ntmps122
 go_wp2
 go_loopw [8] (fun v8 wr => ∃ x : Int, v8 = .int .i64 x ∧ 0 ≤ x ∧ x ≤ l0.length ∧ (l0.take x.toNat).any badClock = false ∧ Below w.heap.size w wr)
  (fun v8 _ => l0.length - (intOf v8).toNat)
 case atStart => exact ⟨0, rfl, by omega, by omega, by simp, Below.refl _ _⟩
 case round =>
  obtain ⟨x, rfl, h0, hx, hp, hB⟩ := hrel
  by_cases hlt : x < (l0.length : Int)
  ·obtain ⟨ad, rfl, hx0, hx1⟩ := at_T68 (Kd.zu HR0.out hB) x h0 hlt
   have HO := HOK.out _ (containsClock_mem l0 x h0 hlt)
   have HP := zb.mk hp
   have HB := zb.mk hB
   clear hp hB
   have c := decide_eq_true hlt
   have hn' := HN.out
   have h0' := eq_true h0
   have hlt' := eq_true hlt
   have hq : tasks_May_1.f 1 (zbb l0 x).f0 (zbb l0 x).f1 = some (badClock (zbb l0 x)) := tasks_May_1_eq _ HO
   cases hbad : badClock (zbb l0 x) with
   | true =>
    rw [hbad] at hq
    have H1 := zb.mk hq
    have HH := zb.mk (containsClock_hit l0 x h0 hlt hbad)
    clear hbad hq
    go_wp2_with (first | (go_at_call 87; refine (tasks_May_1.calls 1 _ _ _ _ H1.out).mono ?_; rintro e w1 ⟨rfl, hb⟩; have HB2 := zb.mk (HB.out.trans (hb.mono HB.out.size)); clear hb))
    go_ret
    exact ⟨⟨x, rfl, ⟨fun _ => HH.out, fun _ => h0⟩⟩, HB2.out⟩
   | false =>
    rw [hbad] at hq
    have H1 := zb.mk hq
    have HH := zb.mk (containsClock_take l0 x h0 hlt HP.out hbad)
    clear hbad hq
    go_wp2_with (first | (go_at_call 87; refine (tasks_May_1.calls 1 _ _ _ _ H1.out).mono ?_; rintro e w1 ⟨rfl, hb⟩; have HB2 := zb.mk (HB.out.trans (hb.mono HB.out.size)); clear hb))
    go_roundw
    case rel => exact ⟨x + 1, by go_num, by omega, by omega, HH.out, HB2.out⟩
    case measure => simp [intOf]; omega
  ·have e : x.toNat = l0.length := by omega
   have HP := zb.mk hp
   have HB := zb.mk hB
   clear hp hB
   go_wp2
   go_ret
   refine ⟨⟨-1, rfl, ⟨fun h => by omega, fun h => ?_⟩⟩, HB.out⟩
   have := HP.out
   rw [e, List.take_length, (by first | exact h | exact List.any_eq_true.mpr h : l0.any badClock = true)] at this
   cases this
theorem containsClock.calls (A0 : Option Addr) (c0 : Nat) (l0 : List S68) (r : Bool) (w : World) (hr0 : Kd.C k68 w A0 l0.length l0) (hc0 : l0.length ≤ c0) (h : containsClock.f l0 = some r) :
  Calls Tryz.prog 86 #[.slice A0 l0.length c0, .func (.func 87) #[] #[]] w fun e w' => e = .returned (.bool r) ∧ Below w.heap.size w w' := by
 classical
 unfold containsClock.f at h
 by_cases hok : ∀ x ∈ l0, Clk x
 ·rw [if_pos hok] at h
  injection h with h
  have hc := containsClock_index A0 c0 l0 hok w hr0
  have HC := zb.mk hc
  have HH := zb.mk h
  clear hc hr0 h hc0 hok
  go_enter Tryz.func86, Tryz.ntmps86
  go_wp2_with (first | (go_at_call 122; refine HC.out.mono ?_; rintro e w1 ⟨⟨i, rfl, hi⟩, hb⟩; have HB := zb.mk hb; have HI := zb.mk hi; clear hb hi))
  go_ret
  refine ⟨?_, HB.out⟩
  rw [← HH.out]
  congr 2
  have := HI.out
  cases hx : l0.any badClock with
  | true => simp [this, hx]
  | false => simp [hx] at this; simp; omega
 ·rw [if_neg hok] at h
  cases h
theorem containsTask_mem (l : List S78) (x : Int) (h0 : 0 ≤ x) (h1 : x < l.length) : zj l x ∈ l := by
 have hl : x.toNat < l.length := by omega
 have : zj l x = l[x.toNat] := by unfold zj; rw [List.getD_eq_getElem?_getD, List.getElem?_eq_getElem hl]; rfl
 rw [this]; exact List.getElem_mem hl
theorem containsTask_take (l : List S78) (x : Int) (h0 : 0 ≤ x) (h1 : x < l.length) (hp : (l.take x.toNat).any badTask = false) (hb : badTask (zj l x) = false) : (l.take (x + 1).toNat).any badTask = false := by
 have e : (x + 1).toNat = x.toNat + 1 := by omega
 have hl : x.toNat < l.length := by omega
 rw [e, List.take_succ_eq_append_getElem hl, List.any_append, hp]
 have : zj l x = l[x.toNat] := by unfold zj; rw [List.getD_eq_getElem?_getD, List.getElem?_eq_getElem hl]; rfl
 rw [this] at hb
 simp [hb]
theorem containsTask_hit (l : List S78) (x : Int) (h0 : 0 ≤ x) (h1 : x < l.length) (hb : badTask (zj l x) = true) : l.any badTask = true :=
 List.any_eq_true.mpr ⟨_, containsTask_mem l x h0 h1, hb⟩
open Classical in
noncomputable def containsTask.f (l0 : List S78) : Option Bool := if ∀ x ∈ l0, TClk x then some (l0.any badTask) else none
theorem containsTask_index (A0 : Option Addr) (c0 : Nat) (l0 : List S78) (hok : ∀ x ∈ l0, TClk x) (w : World) (hr0 : Kd.C k78 w A0 l0.length l0) :
  Calls Tryz.prog 97 #[.slice A0 l0.length c0, .func (.func 60) #[] #[]] w fun e w' => (∃ i : Int, e = .returned (.int .i64 i) ∧ (0 ≤ i ↔ l0.any badTask = true)) ∧ Below w.heap.size w w' := by
 have hn : l0.length ≤ 9223372036854775807 := hr0.2.1
 have HR0 := zb.mk hr0
 have HN := zb.mk hn
 have HOK := zb.mk hok; clear hok
 clear hr0 hn
 go_enter Tryz.func97, Tryz.ntmps97
 go_wp2
 go_loopw [8] (fun v8 wr => ∃ x : Int, v8 = .int .i64 x ∧ 0 ≤ x ∧ x ≤ l0.length ∧ (l0.take x.toNat).any badTask = false ∧ Below w.heap.size w wr)
  (fun v8 _ => l0.length - (intOf v8).toNat)
 case atStart => exact ⟨0, rfl, by omega, by omega, by simp, Below.refl _ _⟩
 case round =>
  obtain ⟨x, rfl, h0, hx, hp, hB⟩ := hrel
  by_cases hlt : x < (l0.length : Int)
  ·obtain ⟨ad, A5, c5, rfl, hx0, hx1, hx2, hx3, hx4, hx5, hx6, hl5, hg5⟩ := zeb (Kd.zu HR0.out hB) x h0 hlt
   have HL5 := zb.mk hl5; have HG5 := zb.mk hg5; clear hl5 hg5
   have HO := HOK.out _ (containsTask_mem l0 x h0 hlt)
   have HP := zb.mk hp
   have HB := zb.mk hB
   clear hp hB
   have c := decide_eq_true hlt
   have hn' := HN.out
   have h0' := eq_true h0
   have hlt' := eq_true hlt
   have hq : unfold_Jobs_1.f 1 (zj l0 x).f0.f0 (zj l0 x).f0.f1 (zj l0 x).f1 (zj l0 x).f2 (zj l0 x).f3 (zj l0 x).f4 (zj l0 x).f5 = some (badTask (zj l0 x)) := Jobs_1_eq _ HO
   cases hbad : badTask (zj l0 x) with
   | true =>
    rw [hbad] at hq
    have H1 := zb.mk hq
    have HH := zb.mk (containsTask_hit l0 x h0 hlt hbad)
    clear hbad hq
    go_wp2_with (first | (go_at_call 60; refine (unfold_Jobs_1.calls 1 _ _ _ _ _ _ _ _ _ _ _ HG5.out HL5.out H1.out).mono ?_; rintro e w1 ⟨rfl, hb⟩; have HB2 := zb.mk (HB.out.trans (hb.mono HB.out.size)); clear hb))
    go_ret
    exact ⟨⟨x, rfl, ⟨fun _ => HH.out, fun _ => h0⟩⟩, HB2.out⟩
   | false =>
    rw [hbad] at hq
    have H1 := zb.mk hq
    have HH := zb.mk (containsTask_take l0 x h0 hlt HP.out hbad)
    clear hbad hq
    go_wp2_with (first | (go_at_call 60; refine (unfold_Jobs_1.calls 1 _ _ _ _ _ _ _ _ _ _ _ HG5.out HL5.out H1.out).mono ?_; rintro e w1 ⟨rfl, hb⟩; have HB2 := zb.mk (HB.out.trans (hb.mono HB.out.size)); clear hb))
    go_roundw
    case rel => exact ⟨x + 1, by go_num, by omega, by omega, HH.out, HB2.out⟩
    case measure => simp [intOf]; omega
  ·have e : x.toNat = l0.length := by omega
   have HP := zb.mk hp
   have HB := zb.mk hB
   clear hp hB
   go_wp2
   go_ret
   refine ⟨⟨-1, rfl, ⟨fun h => by omega, fun h => ?_⟩⟩, HB.out⟩
   have := HP.out
   rw [e, List.take_length, (by first | exact h | exact List.any_eq_true.mpr h : l0.any badTask = true)] at this
   cases this
theorem containsTask.calls (A0 : Option Addr) (c0 : Nat) (l0 : List S78) (r : Bool) (w : World) (hr0 : Kd.C k78 w A0 l0.length l0) (hc0 : l0.length ≤ c0) (h : containsTask.f l0 = some r) :
  Calls Tryz.prog 59 #[.slice A0 l0.length c0, .func (.func 60) #[] #[]] w fun e w' => e = .returned (.bool r) ∧ Below w.heap.size w w' := by
 classical
 unfold containsTask.f at h
 by_cases hok : ∀ x ∈ l0, TClk x
 ·rw [if_pos hok] at h
  injection h with h
  have hc := containsTask_index A0 c0 l0 hok w hr0
  have HC := zb.mk hc
  have HH := zb.mk h
  clear hc hr0 h hc0 hok
  go_enter Tryz.func59, Tryz.ntmps59
  go_wp2_with (first | (go_at_call 97; refine HC.out.mono ?_; rintro e w1 ⟨⟨i, rfl, hi⟩, hb⟩; have HB := zb.mk hb; have HI := zb.mk hi; clear hb hi))
  go_ret
  refine ⟨?_, HB.out⟩
  rw [← HH.out]
  congr 2
  have := HI.out
  cases hx : l0.any badTask with
  | true => simp [this, hx]
  | false => simp [hx] at this; simp; omega
 ·rw [if_neg hok] at h
  cases h
theorem containsBad_mem (l : List S61) (x : Int) (h0 : 0 ≤ x) (h1 : x < l.length) : zy l x ∈ l := by
 have hl : x.toNat < l.length := by omega
 have : zy l x = l[x.toNat] := by unfold zy; rw [List.getD_eq_getElem?_getD, List.getElem?_eq_getElem hl]; rfl
 rw [this]; exact List.getElem_mem hl
theorem containsBad_take (l : List S61) (x : Int) (h0 : 0 ≤ x) (h1 : x < l.length) (hp : (l.take x.toNat).any badW = false) (hb : badW (zy l x) = false) : (l.take (x + 1).toNat).any badW = false := by
 have e : (x + 1).toNat = x.toNat + 1 := by omega
 have hl : x.toNat < l.length := by omega
 rw [e, List.take_succ_eq_append_getElem hl, List.any_append, hp]
 have : zy l x = l[x.toNat] := by unfold zy; rw [List.getD_eq_getElem?_getD, List.getElem?_eq_getElem hl]; rfl
 rw [this] at hb
 simp [hb]
theorem containsBad_hit (l : List S61) (x : Int) (h0 : 0 ≤ x) (h1 : x < l.length) (hb : badW (zy l x) = true) : l.any badW = true :=
 List.any_eq_true.mpr ⟨_, containsBad_mem l x h0 h1, hb⟩
open Classical in
noncomputable def containsBad.f (l0 : List S61) : Option Bool := if True then some (l0.any badW) else none
theorem containsBad_index (A0 : Option Addr) (c0 : Nat) (l0 : List S61) (w : World) (hr0 : Kd.C k61 w A0 l0.length l0) :
  Calls Tryz.prog 140 #[.slice A0 l0.length c0, .func (.func 104) #[] #[]] w fun e w' => (∃ i : Int, e = .returned (.int .i64 i) ∧ (0 ≤ i ↔ l0.any badW = true)) ∧ Below w.heap.size w w' := by
 have hn : l0.length ≤ 9223372036854775807 := hr0.2.1
 have HR0 := zb.mk hr0
 have HN := zb.mk hn
 skip
 clear hr0 hn
 go_enter Tryz.func140, Tryz.ntmps140
 go_wp2
 go_loopw [8] (fun v8 wr => ∃ x : Int, v8 = .int .i64 x ∧ 0 ≤ x ∧ x ≤ l0.length ∧ (l0.take x.toNat).any badW = false ∧ Below w.heap.size w wr)
  (fun v8 _ => l0.length - (intOf v8).toNat)
 case atStart => exact ⟨0, rfl, by omega, by omega, by simp, Below.refl _ _⟩
 case round =>
  obtain ⟨x, rfl, h0, hx, hp, hB⟩ := hrel
  by_cases hlt : x < (l0.length : Int)
  ·obtain ⟨ad, rfl, hx0, hx1, hx2⟩ := at_T61 (Kd.zu HR0.out hB) x h0 hlt
   have HO := True.intro
   have HP := zb.mk hp
   have HB := zb.mk hB
   clear hp hB
   have c := decide_eq_true hlt
   have hn' := HN.out
   have h0' := eq_true h0
   have hlt' := eq_true hlt
   have hq : demand_May_1.f (zy l0 x).f0 (zy l0 x).f1 (zy l0 x).f2 = some (badW (zy l0 x)) := May_1_eq _
   cases hbad : badW (zy l0 x) with
   | true =>
    rw [hbad] at hq
    have H1 := zb.mk hq
    have HH := zb.mk (containsBad_hit l0 x h0 hlt hbad)
    clear hbad hq
    go_wp2_with (first | (go_at_call 104; refine (demand_May_1.calls _ _ _ _ _ H1.out).mono ?_; rintro e w1 ⟨rfl, hb⟩; have HB2 := zb.mk (HB.out.trans (hb.mono HB.out.size)); clear hb))
    go_ret
    exact ⟨⟨x, rfl, ⟨fun _ => HH.out, fun _ => h0⟩⟩, HB2.out⟩
   | false =>
    rw [hbad] at hq
    have H1 := zb.mk hq
    have HH := zb.mk (containsBad_take l0 x h0 hlt HP.out hbad)
    clear hbad hq
    go_wp2_with (first | (go_at_call 104; refine (demand_May_1.calls _ _ _ _ _ H1.out).mono ?_; rintro e w1 ⟨rfl, hb⟩; have HB2 := zb.mk (HB.out.trans (hb.mono HB.out.size)); clear hb))
    go_roundw
    case rel => exact ⟨x + 1, by go_num, by omega, by omega, HH.out, HB2.out⟩
    case measure => simp [intOf]; omega
  ·have e : x.toNat = l0.length := by omega
   have HP := zb.mk hp
   have HB := zb.mk hB
   clear hp hB
   go_wp2
   go_ret
   refine ⟨⟨-1, rfl, ⟨fun h => by omega, fun h => ?_⟩⟩, HB.out⟩
   have := HP.out
   rw [e, List.take_length, (by first | exact h | exact List.any_eq_true.mpr h : l0.any badW = true)] at this
   cases this
theorem containsBad.calls (A0 : Option Addr) (c0 : Nat) (l0 : List S61) (r : Bool) (w : World) (hr0 : Kd.C k61 w A0 l0.length l0) (hc0 : l0.length ≤ c0) (h : containsBad.f l0 = some r) :
  Calls Tryz.prog 103 #[.slice A0 l0.length c0, .func (.func 104) #[] #[]] w fun e w' => e = .returned (.bool r) ∧ Below w.heap.size w w' := by
 classical
 unfold containsBad.f at h
 by_cases hok : True
 ·rw [if_pos hok] at h
  injection h with h
  have hc := containsBad_index A0 c0 l0 w hr0
  have HC := zb.mk hc
  have HH := zb.mk h
  clear hc hr0 h hc0 hok
  go_enter Tryz.func103, Tryz.ntmps103
  go_wp2_with (first | (go_at_call 140; refine HC.out.mono ?_; rintro e w1 ⟨⟨i, rfl, hi⟩, hb⟩; have HB := zb.mk hb; have HI := zb.mk hi; clear hb hi))
  go_ret
  refine ⟨?_, HB.out⟩
  rw [← HH.out]
  congr 2
  have := HI.out
  cases hx : l0.any badW with
  | true => simp [this, hx]
  | false => simp [hx] at this; simp; omega
 ·rw [if_neg hok] at h
  cases h
end Go.Proofs.YtfondhcppjkchaaGreat.Q
