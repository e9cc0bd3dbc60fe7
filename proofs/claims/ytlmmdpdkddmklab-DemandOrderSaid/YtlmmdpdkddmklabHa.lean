import Derived.Test.YtlmmdpdkddmklabQx0
import Derived.Test.YtlmmdpdkddmklabVx1
import Derived.Sort.AssemblyPlain
import Derived.Lib.SlicesCompact
import Derived.Lib.BitFns
namespace Go.Proofs.Ytlmmdpdkddmklab.Q
open Go.RowKit Go.Proofs.YtlmmdpdkddmklabW.PrintWords Go.Proofs.YtlmmdpdkddmklabW.PrintLast
open Go.Proofs.YtlmmdpdkddmklabW.PrintMore

/-- a work that may not be. -/
def badW (w : S38) : Bool := decide (w.f0 < 0) || decide (w.f0 > 1125899906842624) || decide (w.f1 ≤ w.f0) || decide (w.f1 > 2251799813685248) || decide (w.f2 < 1) || decide (w.f2 > 1048576)
def containsBad.f (l0 : List S38) : Option Bool := some (l0.any badW)

theorem may1_eq (x : S38) : V.demand_May_1.f x.f0 x.f1 x.f2 = some (badW x) := by
  unfold V.demand_May_1.f badW
  by_cases h1 : x.f0 < 0 <;> by_cases h2 : x.f0 > 1125899906842624 <;> by_cases h3 : x.f1 ≤ x.f0 <;> by_cases h4 : x.f1 > 2251799813685248 <;> by_cases h5 : x.f2 < 1 <;> simp [h1, h2, h3, h4, h5]

theorem any_take_succ (l : List S38) (x : Int) (h0 : 0 ≤ x) (h1 : x < l.length) (hp : (l.take x.toNat).any badW = false) (hb : badW (rd_T38 l x) = false) : (l.take (x + 1).toNat).any badW = false := by
  have e : (x + 1).toNat = x.toNat + 1 := by omega
  have hl : x.toNat < l.length := by omega
  rw [e, List.take_succ_eq_append_getElem hl, List.any_append, hp]
  have : rd_T38 l x = l[x.toNat] := by unfold rd_T38; rw [List.getD_eq_getElem?_getD, List.getElem?_eq_getElem hl]; rfl
  rw [this] at hb
  simp [hb]
theorem any_hit (l : List S38) (x : Int) (h0 : 0 ≤ x) (h1 : x < l.length) (hb : badW (rd_T38 l x) = true) : l.any badW = true := by
  have hl : x.toNat < l.length := by omega
  have : rd_T38 l x = l[x.toNat] := by unfold rd_T38; rw [List.getD_eq_getElem?_getD, List.getElem?_eq_getElem hl]; rfl
  rw [this] at hb
  exact List.any_eq_true.mpr ⟨_, List.getElem_mem hl, hb⟩

set_option maxHeartbeats 1000000 in
set_option maxRecDepth 100000 in
theorem indexBad.calls (A0 : Option Addr) (c0 : Nat) (l0 : List S38) (w : World) (hr0 : Kd.C k38 w A0 l0.length l0) :
    Calls Try.prog 31 #[.slice A0 l0.length c0, .func (.func 24) #[] #[]] w fun e w' => (∃ i : Int, e = .returned (.int .i64 i) ∧ (0 ≤ i ↔ l0.any badW = true)) ∧ Below w.heap.size w w' := by
  have hn : l0.length ≤ 9223372036854775807 := hr0.2.1
  have HR0 := Aside0.mk hr0
  have HN := Aside0.mk hn
  clear hr0 hn
  go_enter Try.func31, Try.ntmps31
  go_wp2
  go_loopw [8] (fun v8 wr => ∃ x : Int, v8 = .int .i64 x ∧ 0 ≤ x ∧ x ≤ l0.length ∧ (l0.take x.toNat).any badW = false ∧ Below w.heap.size w wr)
    (fun v8 _ => l0.length - (intOf v8).toNat)
  case atStart => exact ⟨0, rfl, by omega, by omega, by simp, Below.refl _ _⟩
  case round =>
    obtain ⟨x, rfl, h0, hx, hp, hB⟩ := hrel
    by_cases hlt : x < (l0.length : Int)
    · obtain ⟨ad, rfl, hx0, hx1, hx2⟩ := at_T38 (Kd.C_below HR0.out hB) x h0 hlt
      have HP := Aside0.mk hp
      have HB := Aside0.mk hB
      clear hp hB
      have c := decide_eq_true hlt
      have hn' := HN.out
      have h0' := eq_true h0
      have hlt' := eq_true hlt
      cases hbad : badW (rd_T38 l0 x) with
      | true =>
        have H1 := Aside0.mk (may1_eq (rd_T38 l0 x))
        rw [hbad] at H1
        have HH := Aside0.mk (any_hit l0 x h0 hlt hbad)
        clear hbad
        go_wp2_with (first | (go_at_call 24; refine (V.demand_May_1.calls _ _ _ true _ H1.out).mono ?_; rintro e w1 ⟨rfl, hb⟩; have HB2 := Aside0.mk (HB.out.trans (hb.mono HB.out.size)); clear hb))
        go_ret
        exact ⟨⟨x, rfl, ⟨fun _ => HH.out, fun _ => h0⟩⟩, HB2.out⟩
      | false =>
        have H1 := Aside0.mk (may1_eq (rd_T38 l0 x))
        rw [hbad] at H1
        have HH := Aside0.mk (any_take_succ l0 x h0 hlt HP.out hbad)
        clear hbad
        go_wp2_with (first | (go_at_call 24; refine (V.demand_May_1.calls _ _ _ false _ H1.out).mono ?_; rintro e w1 ⟨rfl, hb⟩; have HB2 := Aside0.mk (HB.out.trans (hb.mono HB.out.size)); clear hb))
        go_roundw
        case rel => exact ⟨x + 1, by go_num, by omega, by omega, HH.out, HB2.out⟩
        case measure => simp [intOf]; omega
    · have e : x.toNat = l0.length := by omega
      have HP := Aside0.mk hp
      have HB := Aside0.mk hB
      clear hp hB
      go_wp2
      go_ret
      refine ⟨⟨-1, rfl, ⟨fun h => by omega, fun h => ?_⟩⟩, HB.out⟩
      have := HP.out
      rw [e, List.take_length, List.any_eq_true.mpr h] at this
      cases this

set_option maxHeartbeats 1000000 in
theorem containsBad.calls (A0 : Option Addr) (c0 : Nat) (l0 : List S38) (r : Bool) (w : World) (hr0 : Kd.C k38 w A0 l0.length l0) (hc0 : l0.length ≤ c0) (h : containsBad.f l0 = some r) :
    Calls Try.prog 23 #[.slice A0 l0.length c0, .func (.func 24) #[] #[]] w fun e w' => e = .returned (.bool r) ∧ Below w.heap.size w w' := by
  have hc := indexBad.calls A0 c0 l0 w hr0
  have HC := Aside0.mk hc
  have HH := Aside0.mk h
  clear hc hr0 h hc0
  go_enter Try.func23, Try.ntmps23
  go_wp2_with (first | (go_at_call 31; refine HC.out.mono ?_; rintro e w1 ⟨⟨i, rfl, hi⟩, hb⟩; have HB := Aside0.mk hb; have HI := Aside0.mk hi; clear hb hi))
  go_ret
  refine ⟨?_, HB.out⟩
  have h1 := HH.out
  simp only [containsBad.f, Option.some.injEq] at h1
  rw [← h1]
  congr 2
  have := HI.out
  cases hx : l0.any badW with
  | true => simp [this, hx]
  | false => simp [hx] at this; simp; omega

/-- slices.Values(s): the slice value is boxed; the function value captures the box. -/
theorem slices_Values.calls (A0 : Option Addr) (n c0 : Nat) (w : World) :
    Calls Try.prog 19 #[.slice A0 n c0] w fun e w' => e = .returned (.func (.func 27) #[] #[.pointer (some ⟨w.heap.size, 0, none⟩)]) ∧ w' = w.alloc (.cells #[.slice A0 n c0] 22) := by
  go_enter Try.func19, Try.ntmps19
  go_wp2
  go_ret
  exact ⟨rfl, rfl⟩
end Go.Proofs.Ytlmmdpdkddmklab.Q
