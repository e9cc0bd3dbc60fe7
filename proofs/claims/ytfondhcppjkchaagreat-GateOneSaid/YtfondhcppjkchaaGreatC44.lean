import Derived.Test.YtfondhcppjkchaaGreatC41
import Derived.Test.YtfondhcppjkchaaGreatC17
import Derived.Test.YtfondhcppjkchaaGreatC43
import Derived.Test.YtfondhcppjkchaaGreatC16
import Derived.Test.YtfondhcppjkchaaGreatC5
set_option maxHeartbeats 40000000
set_option maxRecDepth 100000
set_option linter.unusedVariables false
set_option linter.unusedSimpArgs false
namespace Go.Proofs.YtfondhcppjkchaaGreat.Q
open Go.RowKit Go.Proofs.YtfondhcppjkchaaGreatW.PrintWords Go.Proofs.YtfondhcppjkchaaGreatW.PrintLast
open Go.Proofs.YtfondhcppjkchaaGreatW.PrintMore
noncomputable def passS (k : Nat) (l : List S78) (ins : List S68) (costs : List Int) (dues : List S27) : Option Int :=
 (gate_Works.f k l ins costs dues).bind fun w =>
  if w.2 = 0 then
   if l.length = 0 then some 0
   else (unfold_Of.f l ins).bind fun s => (gate_Load.f k l ins costs).bind fun ld =>
    if ld.2.1 ≤ ld.1 then some 240
    else (demand_Worst.f k w.1 7).bind fun d => if d.2.2.1 = true then if d.1 < wrap64 (s.1 + s.2.1) then some 241 else some d.2.2.2 else some d.2.2.2
  else some w.2
noncomputable def gate_Pass.f (l : List S78) (ins : List S68) (costs : List Int) (dues : List S27) : Option Int := lim fun k => passS k l ins costs dues
theorem closure36 (k : Nat) (b0 b1 b2 : Nat) (A0 A1 A2 : Option Addr) (c0 c1 c2 : Nat) (l : List S78) (ins : List S68) (costs : List Int) (a h e : Int) (w : World) (k0 : w.cell? ⟨b0, 0, none⟩ = some (.slice A0 l.length c0)) (k1 : w.cell? ⟨b1, 0, none⟩ = some (.slice A1 ins.length c1)) (k2 : w.cell? ⟨b2, 0, none⟩ = some (.slice A2 costs.length c2)) (h0 : Kd.C k78 w A0 l.length l) (hc0 : l.length ≤ c0) (h1 : Kd.C k68 w A1 ins.length ins) (hc1 : ins.length ≤ c1) (h2 : Kd.C (Kd.int .i64) w A2 costs.length costs) (hc2 : costs.length ≤ c2) (hf : gate_Load.f k l ins costs = some (a, h, e)) :
  Calls Tryz.prog 36 #[.pointer (some ⟨b0, 0, none⟩), .pointer (some ⟨b1, 0, none⟩), .pointer (some ⟨b2, 0, none⟩)] w fun e w' => e = .returned (.int .i64 (if h ≤ a then 240 else 0)) ∧ Below w.heap.size w w' := by
 have HL := Lib.hid (gate_Load.calls k A0 c0 l A1 c1 ins A2 c2 costs a h e w h0 hc0 h1 hc1 h2 hc2 hf)
 clear h0 hc0 h1 hc1 h2 hc2 hf
 by_cases hle : h ≤ a
 ·have d1 : decide (a ≥ h) = true := decide_eq_true hle
  have d2 : decide (h ≤ a) = true := decide_eq_true hle
  rw [if_pos hle]
  clear hle
  go_enter Tryz.func36, Tryz.ntmps36
  go_wp2_with (first | (go_at_call 10; refine HL.out.mono ?_; rintro e' w1 ⟨rfl, hb⟩; have HB := Lib.hid hb; clear hb))
  go_ret
  exact ⟨rfl, HB.out⟩
 ·have d1 : decide (a ≥ h) = false := decide_eq_false hle
  have d2 : decide (h ≤ a) = false := decide_eq_false hle
  rw [if_neg hle]
  clear hle
  go_enter Tryz.func36, Tryz.ntmps36
  go_wp2_with (first | (go_at_call 10; refine HL.out.mono ?_; rintro e' w1 ⟨rfl, hb⟩; have HB := Lib.hid hb; clear hb))
  go_ret
  exact ⟨rfl, HB.out⟩
theorem closure37 (k : Nat) (b0 b1 : Nat) (A0 : Option Addr) (c0 : Nat) (ws : List S61) (p h d1 d2 : Int) (d3 : Bool) (d4 : Int) (w : World) (k0 : w.cell? ⟨b0, 0, none⟩ = some (.slice A0 ws.length c0)) (k1 : w.cell? ⟨b1, 0, none⟩ = some (.int .i64 p)) (k2 : w.cell? ⟨b1, 1, none⟩ = some (.int .i64 h)) (h0 : Kd.C k61 w A0 ws.length ws) (hc0 : ws.length ≤ c0) (hf : demand_Worst.f k ws 7 = some (d1, d2, d3, d4)) (r : Int) (hr : (if d3 = true then if d1 < wrap64 (p + h) then 241 else d4 else d4) = r) :
  Calls Tryz.prog 37 #[.pointer (some ⟨b0, 0, none⟩), .pointer (some ⟨b1, 0, none⟩)] w fun e w' => e = .returned (.int .i64 r) ∧ Below w.heap.size w w' := by
 have HL := Lib.hid (demand_Worst.calls k A0 c0 ws 7 d1 d2 d3 d4 w h0 hc0 hf)
 clear h0 hc0 hf
 cases d3 with
 | false =>
  rw [if_neg (by decide)] at hr
  subst hr
  go_enter Tryz.func37, Tryz.ntmps37
  go_wp2_with (first | (go_at_call 38; refine HL.out.mono ?_; rintro e' w1 ⟨rfl, hb⟩; have k1 := keepc hb k1; have k2 := keepc hb k2; have HB := Lib.hid hb; clear hb))
  go_ret
  exact ⟨rfl, HB.out⟩
 | true =>
  rw [if_pos rfl] at hr
  have hw : IntKind.i64.wrap (p + h) = wrap64 (p + h) := i64_w _
  generalize wrap64 (p + h) = s at hw hr
  by_cases hlt : d1 < s
  ·rw [if_pos hlt] at hr
   subst hr
   have c := decide_eq_true hlt
   clear hlt
   go_enter Tryz.func37, Tryz.ntmps37
   go_wp2_with (first | (go_at_call 38; refine HL.out.mono ?_; rintro e' w1 ⟨rfl, hb⟩; have k1 := keepc hb k1; have k2 := keepc hb k2; have HB := Lib.hid hb; clear hb))
   go_ret
   exact ⟨rfl, HB.out⟩
  ·rw [if_neg hlt] at hr
   subst hr
   have c := decide_eq_false hlt
   clear hlt
   go_enter Tryz.func37, Tryz.ntmps37
   go_wp2_with (first | (go_at_call 38; refine HL.out.mono ?_; rintro e' w1 ⟨rfl, hb⟩; have k1 := keepc hb k1; have k2 := keepc hb k2; have HB := Lib.hid hb; clear hb))
   go_ret
   exact ⟨rfl, HB.out⟩
theorem boxes3 (w : World) (x0 x1 x2 : Value) (t0 t1 t2 : TypeId) : (((w.alloc (.cells #[x0] t0)).alloc (.cells #[x1] t1)).alloc (.cells #[x2] t2)).cell? ⟨w.heap.size, 0, none⟩ = some x0 ∧ (((w.alloc (.cells #[x0] t0)).alloc (.cells #[x1] t1)).alloc (.cells #[x2] t2)).cell? ⟨w.heap.size + 1, 0, none⟩ = some x1 ∧ (((w.alloc (.cells #[x0] t0)).alloc (.cells #[x1] t1)).alloc (.cells #[x2] t2)).cell? ⟨w.heap.size + 1 + 1, 0, none⟩ = some x2 := by
 have a0 : (w.alloc (.cells #[x0] t0)).cell? ⟨w.heap.size, 0, none⟩ = some x0 := (zg (zwa w (.cells #[x0] t0)) 0).trans rfl
 have a1 : ((w.alloc (.cells #[x0] t0)).alloc (.cells #[x1] t1)).cell? ⟨(w.alloc (.cells #[x0] t0)).heap.size, 0, none⟩ = some x1 := (zg (zwa (w.alloc (.cells #[x0] t0)) (.cells #[x1] t1)) 0).trans rfl
 have a2 : (((w.alloc (.cells #[x0] t0)).alloc (.cells #[x1] t1)).alloc (.cells #[x2] t2)).cell? ⟨((w.alloc (.cells #[x0] t0)).alloc (.cells #[x1] t1)).heap.size, 0, none⟩ = some x2 := (zg (zwa ((w.alloc (.cells #[x0] t0)).alloc (.cells #[x1] t1)) (.cells #[x2] t2)) 0).trans rfl
 have s1 : (w.alloc (.cells #[x0] t0)).heap.size = w.heap.size + 1 := by simp
 have s2 : ((w.alloc (.cells #[x0] t0)).alloc (.cells #[x1] t1)).heap.size = w.heap.size + 1 + 1 := by simp
 have hb1 := (Below.refl (w.alloc (.cells #[x0] t0)).heap.size (w.alloc (.cells #[x0] t0))).alloc (Nat.le_refl _) (.cells #[x1] t1)
 have hb2 := (Below.refl ((w.alloc (.cells #[x0] t0)).alloc (.cells #[x1] t1)).heap.size ((w.alloc (.cells #[x0] t0)).alloc (.cells #[x1] t1))).alloc (Nat.le_refl _) (.cells #[x2] t2)
 refine ⟨keepc hb2 (keepc hb1 a0), ?_, ?_⟩
 ·have := keepc hb2 a1
  rw [s1] at this
  exact this
 ·rw [s2] at a2
  exact a2
theorem pass_go (k : Nat) (A0 : Option Addr) (c0 : Nat) (l : List S78) (A1 : Option Addr) (c1 : Nat) (ins : List S68) (A2 : Option Addr) (c2 : Nat) (costs : List Int) (A3 : Option Addr) (c3 : Nat) (dues : List S27) (r : Int) (w : World) (h0 : Kd.C k78 w A0 l.length l) (hc0 : l.length ≤ c0) (h1 : Kd.C k68 w A1 ins.length ins) (hc1 : ins.length ≤ c1) (h2 : Kd.C (Kd.int .i64) w A2 costs.length costs) (hc2 : costs.length ≤ c2) (h3 : Kd.C k27 w A3 dues.length dues) (hc3 : dues.length ≤ c3) (h : passS k l ins costs dues = some r) :
  Calls Tryz.prog 13 #[.slice A0 l.length c0, .slice A1 ins.length c1, .slice A2 costs.length c2, .slice A3 dues.length c3] w fun e w' => e = .returned (.int .i64 r) ∧ Below w.heap.size w w' := by
 have hmf : ∀ (fn : Go.Fn) (first cap : Array Value) (w : World), (Instr.makeFunc fn first cap).run Tryz.prog w = .ok (.func fn first cap) w := fun _ _ _ _ => rfl
 unfold passS at h
 obtain ⟨⟨ws, we⟩, hwk, h'⟩ := Option.bind_eq_some_iff.mp h
 clear h
 have h := h'
 clear h'
 simp only at h
 have HWK := Lib.hid (fun W (hW : Below w.heap.size w W) => gate_Works.calls k A0 c0 l A1 c1 ins A2 c2 costs A3 c3 dues ws we W (Kd.zu h0 hW) hc0 (Kd.zu h1 hW) hc1 (Kd.zu h2 hW) hc2 (Kd.zu h3 hW) hc3 hwk)
 by_cases he : we = 0
 ·subst he
  rw [if_pos rfl] at h
  by_cases hl : l.length = 0
  ·rw [if_pos hl] at h
   injection h with h
   subst h
   have hl2 : ((l.length : Int) == 0) = true := by simpa using hl
   have hl3 : (l = []) = True := eq_true (List.eq_nil_of_length_eq_zero hl)
   clear h0 hc0 h1 hc1 h2 hc2 h3 hc3 hwk hl
   go_enter Tryz.func13, Tryz.ntmps13
   go_wp2_with fail
   refine (HWK.out _ ?_).mono ?_
   ·go_grown
   rintro e w1 ⟨v0, rfl, hR, hb⟩
   obtain ⟨AW, cW, rfl⟩ := Kd.zoa hR
   obtain ⟨q0, q1, q2⟩ := boxes3 w (.slice A0 l.length c0) (.slice A1 ins.length c1) (.slice A2 costs.length c2) 22 23 24
   have q0 := keepc hb q0
   have HB := Lib.hid (Below.trans (by go_grown) (hb.mono (by simp; omega)) : Below w.heap.size w w1)
   have z0 := World.block_lt_of_cell? w1 _ q0
   simp only at z0
   clear hb hR q1 q2
   dsimp only
   go_wp2_with fail
   go_ret
   exact ⟨rfl, HB.out.alloc HB.out.size _⟩
  ·rw [if_neg hl] at h
   obtain ⟨⟨p, hy, oe⟩, hof, h'⟩ := Option.bind_eq_some_iff.mp h
   obtain ⟨⟨la, lh, le⟩, hld, h''⟩ := Option.bind_eq_some_iff.mp h'
   clear h h'
   have h := h''
   clear h''
   simp only at h
   have hl2 : ((l.length : Int) == 0) = false := by simpa using hl
   have hl3 : (l = []) = False := by rw [eq_iff_iff, iff_false]; intro e; rw [e] at hl; exact hl rfl
   have HOF := Lib.hid (fun W (hW : Below w.heap.size w W) => unfold_Of.calls A0 c0 l A1 c1 ins p hy oe W (Kd.zu h0 hW) hc0 (Kd.zu h1 hW) hc1 hof)
   have H36 := Lib.hid (fun W (hW : Below w.heap.size w W) b0 b1 b2 k0 k1 k2 => closure36 k b0 b1 b2 A0 A1 A2 c0 c1 c2 l ins costs la lh le W k0 k1 k2 (Kd.zu h0 hW) hc0 (Kd.zu h1 hW) hc1 (Kd.zu h2 hW) hc2 hld)
   have HH := Lib.hid h
   clear h0 hc0 h1 hc1 h2 hc2 h3 hc3 hwk hof hld h hl
   go_enter Tryz.func13, Tryz.ntmps13
   go_wp2_with fail
   refine (HWK.out _ ?_).mono ?_
   ·go_grown
   rintro e w1 ⟨v0, rfl, hR, hb⟩
   obtain ⟨AW, cW, rfl⟩ := Kd.zoa hR
   obtain ⟨q0, q1, q2⟩ := boxes3 w (.slice A0 l.length c0) (.slice A1 ins.length c1) (.slice A2 costs.length c2) 22 23 24
   have q0 := keepc hb q0
   have q1 := keepc hb q1
   have q2 := keepc hb q2
   have HB1 := Lib.hid (Below.trans (by go_grown) (hb.mono (by simp; omega)) : Below w.heap.size w w1)
   have HR1 := Lib.hid hR
   have z0 := World.block_lt_of_cell? w1 _ q0
   have z1 := World.block_lt_of_cell? w1 _ q1
   have z2 := World.block_lt_of_cell? w1 _ q2
   simp only at z0 z1 z2
   clear hb hR
   dsimp only
   go_wp2_with fail
   have hbA := (Below.refl w1.heap.size w1).alloc (Nat.le_refl _) (.cells #[.slice AW ws.length cW] 34)
   have qw : (w1.alloc (.cells #[.slice AW ws.length cW] 34)).cell? ⟨w1.heap.size, 0, none⟩ = some (.slice AW ws.length cW) := (zg (zwa w1 _) 0).trans rfl
   have q0 := keepc hbA q0
   have q1 := keepc hbA q1
   have q2 := keepc hbA q2
   have HBA := Lib.hid (HB1.out.trans (hbA.mono HB1.out.size))
   have HRA := Lib.hid (Kd.zga HR1.out hbA)
   clear hbA HB1 HR1
   refine (HOF.out _ HBA.out).mono ?_
   generalize w1.alloc (.cells #[.slice AW ws.length cW] 34) = W3 at q0 q1 q2 qw HBA HRA ⊢
   generalize w1.heap.size = BW at qw z0 z1 z2 ⊢
   rintro e w4 ⟨rfl, hb4⟩
   have q0 := keepc hb4 q0
   have q1 := keepc hb4 q1
   have q2 := keepc hb4 q2
   have qw := keepc hb4 qw
   have HB4 := Lib.hid (HBA.out.trans (hb4.mono HBA.out.size))
   have HR4 := Lib.hid (Kd.zga HRA.out hb4)
   have zw := World.block_lt_of_cell? w4 _ qw
   simp only at zw
   clear hb4 HBA HRA HOF HWK
   dsimp only
   go_wp2_with fail
   have hbB := (Below.refl w4.heap.size w4).alloc (Nat.le_refl _) (.cells #[.int .i64 p, .int .i64 hy] 39)
   have hbC := (Below.refl (w4.alloc (.cells #[.int .i64 p, .int .i64 hy] 39)).heap.size (w4.alloc (.cells #[.int .i64 p, .int .i64 hy] 39))).alloc (Nat.le_refl _) (.cells #[.func (.func 36) #[] #[.pointer (some ⟨w.heap.size, 0, none⟩), .pointer (some ⟨w.heap.size + 1, 0, none⟩), .pointer (some ⟨w.heap.size + 1 + 1, 0, none⟩)], .func (.func 37) #[] #[.pointer (some ⟨BW, 0, none⟩), .pointer (some ⟨w4.heap.size, 0, none⟩)]] 89)
   have hbD : Below w4.heap.size w4 ((w4.alloc (.cells #[.int .i64 p, .int .i64 hy] 39)).alloc (.cells #[.func (.func 36) #[] #[.pointer (some ⟨w.heap.size, 0, none⟩), .pointer (some ⟨w.heap.size + 1, 0, none⟩), .pointer (some ⟨w.heap.size + 1 + 1, 0, none⟩)], .func (.func 37) #[] #[.pointer (some ⟨BW, 0, none⟩), .pointer (some ⟨w4.heap.size, 0, none⟩)]] 89)) := hbB.trans (hbC.mono (by simp))
   have es : (w4.alloc (.cells #[.int .i64 p, .int .i64 hy] 39)).heap.size = w4.heap.size + 1 := by simp
   have s0 : (w4.alloc (.cells #[.int .i64 p, .int .i64 hy] 39)).cell? ⟨w4.heap.size, 0, none⟩ = some (.int .i64 p) := (zg (zwa w4 _) 0).trans rfl
   have s1 : (w4.alloc (.cells #[.int .i64 p, .int .i64 hy] 39)).cell? ⟨w4.heap.size, 1, none⟩ = some (.int .i64 hy) := (zg (zwa w4 _) 1).trans rfl
   have s0 := keepc hbC s0
   have s1 := keepc hbC s1
   have f0 : ((w4.alloc (.cells #[.int .i64 p, .int .i64 hy] 39)).alloc (.cells #[.func (.func 36) #[] #[.pointer (some ⟨w.heap.size, 0, none⟩), .pointer (some ⟨w.heap.size + 1, 0, none⟩), .pointer (some ⟨w.heap.size + 1 + 1, 0, none⟩)], .func (.func 37) #[] #[.pointer (some ⟨BW, 0, none⟩), .pointer (some ⟨w4.heap.size, 0, none⟩)]] 89)).cell? ⟨(w4.alloc (.cells #[.int .i64 p, .int .i64 hy] 39)).heap.size, 0, none⟩ = some (.func (.func 36) #[] #[.pointer (some ⟨w.heap.size, 0, none⟩), .pointer (some ⟨w.heap.size + 1, 0, none⟩), .pointer (some ⟨w.heap.size + 1 + 1, 0, none⟩)]) := (zg (zwa (w4.alloc (.cells #[.int .i64 p, .int .i64 hy] 39)) _) 0).trans rfl
   have f1 : ((w4.alloc (.cells #[.int .i64 p, .int .i64 hy] 39)).alloc (.cells #[.func (.func 36) #[] #[.pointer (some ⟨w.heap.size, 0, none⟩), .pointer (some ⟨w.heap.size + 1, 0, none⟩), .pointer (some ⟨w.heap.size + 1 + 1, 0, none⟩)], .func (.func 37) #[] #[.pointer (some ⟨BW, 0, none⟩), .pointer (some ⟨w4.heap.size, 0, none⟩)]] 89)).cell? ⟨(w4.alloc (.cells #[.int .i64 p, .int .i64 hy] 39)).heap.size, 1, none⟩ = some (.func (.func 37) #[] #[.pointer (some ⟨BW, 0, none⟩), .pointer (some ⟨w4.heap.size, 0, none⟩)]) := (zg (zwa (w4.alloc (.cells #[.int .i64 p, .int .i64 hy] 39)) _) 1).trans rfl
   rw [es] at f0 f1
   have q0 := keepc hbD q0
   have q1 := keepc hbD q1
   have q2 := keepc hbD q2
   have qw := keepc hbD qw
   have HB5 := Lib.hid (HB4.out.trans (hbD.mono HB4.out.size))
   have HR5 := Lib.hid (Kd.zga HR4.out hbD)
   clear hbB hbC hbD es HB4 HR4
   generalize ((w4.alloc (.cells #[.int .i64 p, .int .i64 hy] 39)).alloc (.cells #[.func (.func 36) #[] #[.pointer (some ⟨w.heap.size, 0, none⟩), .pointer (some ⟨w.heap.size + 1, 0, none⟩), .pointer (some ⟨w.heap.size + 1 + 1, 0, none⟩)], .func (.func 37) #[] #[.pointer (some ⟨BW, 0, none⟩), .pointer (some ⟨w4.heap.size, 0, none⟩)]] 89)) = W5 at s0 s1 f0 f1 q0 q1 q2 qw HB5 HR5 ⊢
   generalize w4.heap.size = S9 at s0 s1 f0 f1 zw ⊢
   have h36 := H36.out W5 HB5.out _ _ _ q0 q1 q2
   have H36' := Lib.hid h36
   clear h36 H36 hmf
   have h := HH.out
   by_cases hle : lh ≤ la
   ·rw [if_pos hle] at h
    injection h with h
    subst h
    rw [if_pos hle] at H36'
    clear hle HH q0 q1 q2 s0 s1
    refine wp_loop_rounds 3 ?_
    rw [rounds_succ]
    go_wp2_with fail
    refine H36'.out.mono ?_
    rintro e w6 ⟨rfl, hb6⟩
    have HB6 := Lib.hid (HB5.out.trans (hb6.mono HB5.out.size))
    clear hb6
    dsimp only
    go_wp2_with fail
    go_ret
    exact ⟨rfl, HB6.out⟩
   ·rw [if_neg hle] at h
    rw [if_neg hle] at H36'
    clear hle HH q0 q1 q2
    obtain ⟨⟨d1, d2, d3, d4⟩, hdw, h'⟩ := Option.bind_eq_some_iff.mp h
    simp only at h'
    have hr : (if d3 = true then if d1 < wrap64 (p + hy) then (241 : Int) else d4 else d4) = r := by
     by_cases e3 : d3 = true
     ·rw [if_pos e3] at h' ⊢
      by_cases e4 : d1 < wrap64 (p + hy)
      ·rw [if_pos e4] at h' ⊢
       exact Option.some.inj h'
      ·rw [if_neg e4] at h' ⊢
       exact Option.some.inj h'
     ·rw [if_neg e3] at h' ⊢
      exact Option.some.inj h'
    have H37 := Lib.hid (fun W (hW : Below W5.heap.size W5 W) => closure37 k BW S9 AW cW ws p hy d1 d2 d3 d4 W (keepc hW qw) (keepc hW s0) (keepc hW s1) (Kd.zu (Kd.R_reads' HR5.out).2.2 hW) (Kd.R_reads' HR5.out).2.1 hdw r hr)
    clear h h' hr hdw s0 s1 qw
    refine wp_loop_rounds 3 ?_
    rw [rounds_succ]
    go_wp2_with fail
    refine H36'.out.mono ?_
    rintro e w6 ⟨rfl, hb6⟩
    have f1 := keepc hb6 f1
    have H37' := Lib.hid (H37.out w6 hb6)
    have HB6 := Lib.hid (HB5.out.trans (hb6.mono HB5.out.size))
    clear hb6 H37 f0
    dsimp only
    go_wp2_with fail
    rw [rounds_succ]
    go_wp2_with fail
    refine H37'.out.mono ?_
    rintro e w7 ⟨rfl, hb7⟩
    have HB7 := Lib.hid (HB6.out.trans (hb7.mono HB6.out.size))
    clear hb7 f1
    dsimp only
    by_cases hr0 : r = 0
    ·subst hr0
     go_wp2_with fail
     rw [rounds_succ]
     go_wp2_with fail
     go_ret
     exact ⟨rfl, HB7.out⟩
    ·have d0 : (r != 0) = true := bne_iff_ne.mpr hr0
     clear hr0
     go_wp2_with fail
     go_ret
     exact ⟨rfl, HB7.out⟩
 ·rw [if_neg he] at h
  injection h with h
  subst h
  have d0 : (we != 0) = true := bne_iff_ne.mpr he
  clear h0 hc0 h1 hc1 h2 hc2 h3 hc3 hwk
  go_enter Tryz.func13, Tryz.ntmps13
  go_wp2_with fail
  refine (HWK.out _ ?_).mono ?_
  ·go_grown
  rintro e w1 ⟨v0, rfl, hR, hb⟩
  obtain ⟨AW, cW, rfl⟩ := Kd.zoa hR
  have HB := Lib.hid (Below.trans (by go_grown) (hb.mono (by simp; omega)) : Below w.heap.size w w1)
  clear hb hR
  dsimp only
  go_wp2_with fail
  go_ret
  exact ⟨rfl, HB.out.alloc HB.out.size _⟩
theorem gate_Pass.calls (A0 : Option Addr) (c0 : Nat) (l : List S78) (A1 : Option Addr) (c1 : Nat) (ins : List S68) (A2 : Option Addr) (c2 : Nat) (costs : List Int) (A3 : Option Addr) (c3 : Nat) (dues : List S27) (r : Int) (w : World) (h0 : Kd.C k78 w A0 l.length l) (hc0 : l.length ≤ c0) (h1 : Kd.C k68 w A1 ins.length ins) (hc1 : ins.length ≤ c1) (h2 : Kd.C (Kd.int .i64) w A2 costs.length costs) (hc2 : costs.length ≤ c2) (h3 : Kd.C k27 w A3 dues.length dues) (hc3 : dues.length ≤ c3) (h : gate_Pass.f l ins costs dues = some r) :
  Calls Tryz.prog 13 #[.slice A0 l.length c0, .slice A1 ins.length c1, .slice A2 costs.length c2, .slice A3 dues.length c3] w fun e w' => e = .returned (.int .i64 r) ∧ Below w.heap.size w w' := by
 obtain ⟨k, hk⟩ := zob h
 exact pass_go k A0 c0 l A1 c1 ins A2 c2 costs A3 c3 dues r w h0 hc0 h1 hc1 h2 hc2 h3 hc3 hk
end Go.Proofs.YtfondhcppjkchaaGreat.Q
