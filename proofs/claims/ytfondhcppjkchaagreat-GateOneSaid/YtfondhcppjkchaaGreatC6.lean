import Derived.Test.YtfondhcppjkchaaGreatC5
import Derived.Handy
import Derived.Deep.RegionWith
set_option maxHeartbeats 40000000
set_option maxRecDepth 100000
set_option linter.unusedVariables false
set_option linter.unusedSimpArgs false
namespace Go.Proofs.YtfondhcppjkchaaGreat.Q
open Go.RowKit Go.Proofs.YtfondhcppjkchaaGreatW.PrintWords Go.Proofs.YtfondhcppjkchaaGreatW.PrintLast
open Go.Proofs.YtfondhcppjkchaaGreatW.PrintMore
attribute [local go_sem] max2_int min2_int max_two min_two
theorem cnt_bd {p h : Int} {c : S68} (hc : 1 ≤ c.f0 ∧ c.f0 ≤ 1099511627776 ∧ 0 ≤ c.f1 ∧ c.f1 ≤ 1099511627776) (p0 : 0 ≤ p) (p1 : p ≤ 17592186044416) (h0 : 0 ≤ h) (h1 : h ≤ 17592186044416) : 0 ≤ (cntS p h c).1 ∧ (cntS p h c).1 ≤ 35184372088832 ∧ 0 ≤ (cntS p h c).2 ∧ (cntS p h c).2 ≤ 17592186044416 := by
 unfold cntS
 simp only
 have hm : 0 ≤ mx 0 (p - c.f1) ∧ mx 0 (p - c.f1) ≤ 17592186044416 := by unfold mx; split <;> omega
 refine ⟨?_, ?_, Int.ediv_nonneg h0 (by omega), Int.le_trans (Int.ediv_le_self _ h0) h1⟩
 ·unfold ceilS; exact Int.ediv_nonneg (by omega) (by omega)
 ·unfold ceilS
  have h2 := Int.ediv_le_self c.f0 (show 0 ≤ mx 0 (p - c.f1) + (c.f0 - 1) by omega)
  have h3 := hc.2.1
  have h4 := hm.2
  omega
theorem count_eq {p h : Int} {c : S68} (hc : 1 ≤ c.f0 ∧ c.f0 ≤ 1099511627776 ∧ 0 ≤ c.f1 ∧ c.f1 ≤ 1099511627776) (p0 : 0 ≤ p) (p1 : p ≤ 4611686018427387904) (h0 : 0 ≤ h) (h1 : h ≤ 17592186044416) : unfold_count.f p h c.f0 c.f1 = some ((cntS p h c).1, (cntS p h c).2) := by
 unfold unfold_count.f unfold_below.f cntS
 have hm : 0 ≤ mx 0 (p - c.f1) ∧ mx 0 (p - c.f1) ≤ 4611686018427387904 := by unfold mx; split <;> omega
 rw [zsa (x := p - c.f1) (by unfold I64; omega)]
 unfold num_Ceil.f
 rw [if_pos ⟨hm.1, hm.2, hc.1, by omega⟩]
 simp only [Option.bind_some]
 rw [if_neg (by omega), Int.tdiv_eq_ediv_of_nonneg h0, zsa]
 have a1 := Int.ediv_nonneg h0 (show 0 ≤ c.f0 by omega)
 have a2 := Int.ediv_le_self c.f0 h0
 unfold I64; omega
structure Sp (w : World) (b : Nat) (s : Int × Int) (W : World) : Prop where
 r0 : W.cell? ⟨w.heap.size, 0, none⟩ = some (.int .i64 0)
 r1 : W.cell? ⟨w.heap.size, 1, none⟩ = some (.int .i64 0)
 z0 : W.frozen? ⟨w.heap.size, 0, none⟩ = false
 z1 : W.frozen? ⟨w.heap.size, 1, none⟩ = false
 b0 : W.cell? ⟨b, 0, none⟩ = some (.int .i64 s.1)
 b1 : W.cell? ⟨b, 1, none⟩ = some (.int .i64 s.2)
 y0 : W.frozen? ⟨b, 0, none⟩ = false
 y1 : W.frozen? ⟨b, 1, none⟩ = false
 lt : w.heap.size < b
 hb : b < W.heap.size
 bel : Below w.heap.size w W
theorem Sp.alloc {w W : World} {b : Nat} {s : Int × Int} (h : Sp w b s W) (o : Obj) : Sp w b s (W.alloc o) := by
 have hb := h.hb
 have hl := h.lt
 have hc : ∀ k i, k < W.heap.size → (W.alloc o).cell? ⟨k, i, none⟩ = W.cell? ⟨k, i, none⟩ := fun k i hk => World.cell?_of_block (heap_alloc_old W _ hk)
 have hf : ∀ k i, k < W.heap.size → (W.alloc o).frozen? ⟨k, i, none⟩ = W.frozen? ⟨k, i, none⟩ := fun k i hk => World.frozen?_of_block (heap_alloc_old W _ hk)
 exact ⟨(hc _ _ (by omega)).trans h.r0, (hc _ _ (by omega)).trans h.r1, (hf _ _ (by omega)).trans h.z0, (hf _ _ (by omega)).trans h.z1, (hc _ _ hb).trans h.b0, (hc _ _ hb).trans h.b1, (hf _ _ hb).trans h.y0, (hf _ _ hb).trans h.y1, hl, by simp; omega, h.bel.alloc h.bel.size _⟩
theorem Sp.put0 {w W : World} {b : Nat} {s : Int × Int} (h : Sp w b s W) (v : Int) : Sp w b (v, s.2) (W.setCell ⟨b, 0, none⟩ (.int .i64 v)) := by
 have hl := h.lt
 have ho : ∀ k i, (k ≠ b ∨ i ≠ 0) → (W.setCell ⟨b, 0, none⟩ (.int .i64 v)).cell? ⟨k, i, none⟩ = W.cell? ⟨k, i, none⟩ := fun k i hk => World.cell?_setCell_other _ _ _ _ (fun e => by injection e with e1 e2 _; rcases hk with hk | hk <;> omega)
 exact ⟨(ho _ _ (.inl (by omega))).trans h.r0, (ho _ _ (.inl (by omega))).trans h.r1, (World.frozen?_setCell _ _ _ _).trans h.z0, (World.frozen?_setCell _ _ _ _).trans h.z1, World.cell?_setCell_same _ _ _ h.b0, (ho _ _ (.inr (by omega))).trans h.b1, (World.frozen?_setCell _ _ _ _).trans h.y0, (World.frozen?_setCell _ _ _ _).trans h.y1, hl, by simp only [World.setCell, Array.size_modify]; exact h.hb, h.bel.setCell (by simp; omega) _⟩
theorem Sp.put1 {w W : World} {b : Nat} {s : Int × Int} (h : Sp w b s W) (v : Int) : Sp w b (s.1, v) (W.setCell ⟨b, 1, none⟩ (.int .i64 v)) := by
 have hl := h.lt
 have ho : ∀ k i, (k ≠ b ∨ i ≠ 1) → (W.setCell ⟨b, 1, none⟩ (.int .i64 v)).cell? ⟨k, i, none⟩ = W.cell? ⟨k, i, none⟩ := fun k i hk => World.cell?_setCell_other _ _ _ _ (fun e => by injection e with e1 e2 _; rcases hk with hk | hk <;> omega)
 exact ⟨(ho _ _ (.inl (by omega))).trans h.r0, (ho _ _ (.inl (by omega))).trans h.r1, (World.frozen?_setCell _ _ _ _).trans h.z0, (World.frozen?_setCell _ _ _ _).trans h.z1, (ho _ _ (.inr (by omega))).trans h.b0, World.cell?_setCell_same _ _ _ h.b1, (World.frozen?_setCell _ _ _ _).trans h.y0, (World.frozen?_setCell _ _ _ _).trans h.y1, hl, by simp only [World.setCell, Array.size_modify]; exact h.hb, h.bel.setCell (by simp; omega) _⟩
theorem Sp.drewN {w W : World} {b : Nat} {s : Int × Int} (h : Sp w b s W) (n : Nat) : Sp w b s (W.drewN n) := ⟨h.r0, h.r1, h.z0, h.z1, h.b0, h.b1, h.y0, h.y1, h.lt, h.hb, below_drewN h.bel n⟩
theorem Sp.drew {w W : World} {b : Nat} {s : Int × Int} (h : Sp w b s W) : Sp w b s W.drew := ⟨h.r0, h.r1, h.z0, h.z1, h.b0, h.b1, h.y0, h.y1, h.lt, h.hb, h.bel.drew⟩
theorem Sp.below {w W W' : World} {b : Nat} {s : Int × Int} (h : Sp w b s W) (hb : Below W.heap.size W W') : Sp w b s W' := by
 have hl := h.lt
 have hh := h.hb
 obtain ⟨hc, hf⟩ := bcell hb
 have hz := hb.size
 exact ⟨(hc _ _ (by omega)).trans h.r0, (hc _ _ (by omega)).trans h.r1, (hf _ _ (by omega)).trans h.z0, (hf _ _ (by omega)).trans h.z1, (hc _ _ hh).trans h.b0, (hc _ _ hh).trans h.b1, (hf _ _ hh).trans h.y0, (hf _ _ hh).trans h.y1, hl, by omega, h.bel.trans (hb.mono h.bel.size)⟩
def SpanAt (l : List S78) (x : Int) (s : Int × Int) : Prop := (l.take x.toNat).foldlM taskStep (0, 1) = some s ∧ SpanOk s
def ReadsAt (t : S78) (s0 : Int × Int) (y : Int) (s : Int × Int) : Prop := (t.f4.take y.toNat).foldlM (readStep t.f0) s0 = some s ∧ SpanOk s
theorem rd78_mem (l : List S78) (x : Int) (h0 : 0 ≤ x) (h1 : x < l.length) : zj l x ∈ l := by
 have hl : x.toNat < l.length := by omega
 have : zj l x = l[x.toNat] := by unfold zj; rw [List.getD_eq_getElem?_getD, List.getElem?_eq_getElem hl]; rfl
 rw [this]; exact List.getElem_mem hl
theorem rd75_mem (l : List S75) (x : Int) (h0 : 0 ≤ x) (h1 : x < l.length) : zm l x ∈ l := by
 have hl : x.toNat < l.length := by omega
 have : zm l x = l[x.toNat] := by unfold zm; rw [List.getD_eq_getElem?_getD, List.getElem?_eq_getElem hl]; rfl
 rw [this]; exact List.getElem_mem hl
theorem take_one78 (l : List S78) (x : Int) (h0 : 0 ≤ x) (h1 : x < l.length) : ∃ h : x.toNat < l.length, l[x.toNat] = zj l x ∧ (x + 1).toNat = x.toNat + 1 := by
 have hl : x.toNat < l.length := by omega
 refine ⟨hl, ?_, by omega⟩
 unfold zj; rw [List.getD_eq_getElem?_getD, List.getElem?_eq_getElem hl]; rfl
theorem take_one75 (l : List S75) (x : Int) (h0 : 0 ≤ x) (h1 : x < l.length) : ∃ h : x.toNat < l.length, l[x.toNat] = zm l x ∧ (x + 1).toNat = x.toNat + 1 := by
 have hl : x.toNat < l.length := by omega
 refine ⟨hl, ?_, by omega⟩
 unfold zm; rw [List.getD_eq_getElem?_getD, List.getElem?_eq_getElem hl]; rfl
theorem readsAt_next {t : S78} {s0 s : Int × Int} {y : Int} (h : ReadsAt t s0 y s) (h0 : 0 ≤ y) (h1 : y < t.f4.length) : (t.f4.take (y + 1).toNat).foldlM (readStep t.f0) s0 = readStep t.f0 s (zm t.f4 y) := by
 obtain ⟨hl, e1, e2⟩ := take_one75 t.f4 y h0 h1
 rw [e2, foldlM_take_succ _ _ _ _ hl, h.1, e1]
 rfl
theorem readsAt_none {t : S78} {s0 s : Int × Int} {y : Int} (h : ReadsAt t s0 y s) (h0 : 0 ≤ y) (h1 : y < t.f4.length) (hn : readStep t.f0 s (zm t.f4 y) = none) : t.f4.foldlM (readStep t.f0) s0 = none :=
 foldlM_none _ _ _ (y + 1).toNat ((readsAt_next h h0 h1).trans hn)
theorem readsAt_end {t : S78} {s0 s : Int × Int} {y : Int} (h : ReadsAt t s0 y s) (h0 : 0 ≤ y) (h1 : (t.f4.length : Int) ≤ y) : t.f4.foldlM (readStep t.f0) s0 = some s := by
 have := h.1
 rwa [List.take_of_length_le (by omega)] at this
theorem spanAt_next {l : List S78} {s : Int × Int} {x : Int} (h : SpanAt l x s) (h0 : 0 ≤ x) (h1 : x < l.length) : (l.take (x + 1).toNat).foldlM taskStep (0, 1) = taskStep s (zj l x) := by
 obtain ⟨hl, e1, e2⟩ := take_one78 l x h0 h1
 rw [e2, foldlM_take_succ _ _ _ _ hl, h.1, e1]
 rfl
theorem spanAt_none {l : List S78} {s : Int × Int} {x : Int} (h : SpanAt l x s) (h0 : 0 ≤ x) (h1 : x < l.length) (hn : taskStep s (zj l x) = none) : spanL l = none :=
 foldlM_none _ _ _ (x + 1).toNat ((spanAt_next h h0 h1).trans hn)
theorem spanAt_end {l : List S78} {s : Int × Int} {x : Int} (h : SpanAt l x s) (h0 : 0 ≤ x) (h1 : (l.length : Int) ≤ x) : spanL l = some s := by
 have := h.1
 rwa [List.take_of_length_le (by omega)] at this
theorem ofS_none {l : List S78} (h : spanL l = none) : ofS l = (0, 0, 4) := by unfold ofS; rw [h]
theorem ofS_far {l : List S78} {p h : Int} (e : spanL l = some (p, h)) (hf : p + h > 17592186044416) : ofS l = (0, 0, 4) := by unfold ofS; rw [e]; simp only; rw [if_pos hf]
theorem ofS_many {l : List S78} {p h : Int} (e : spanL l = some (p, h)) (hf : ¬ p + h > 17592186044416) (hn : l.foldlM (jobStep p h) 0 = none) : ofS l = (0, 0, 4) := by unfold ofS; rw [e]; simp only; rw [if_neg hf, hn]
theorem ofS_some {l : List S78} {p h n : Int} (e : spanL l = some (p, h)) (hf : ¬ p + h > 17592186044416) (hn : l.foldlM (jobStep p h) 0 = some n) : ofS l = (p, h, 0) := by unfold ofS; rw [e]; simp only; rw [if_neg hf, hn]
def JobsAt (l : List S78) (p h y n : Int) : Prop := (l.take y.toNat).foldlM (jobStep p h) 0 = some n ∧ 0 ≤ n ∧ n ≤ 1024
theorem jobsAt_next {l : List S78} {p h y n : Int} (hj : JobsAt l p h y n) (h0 : 0 ≤ y) (h1 : y < l.length) : (l.take (y + 1).toNat).foldlM (jobStep p h) 0 = jobStep p h n (zj l y) := by
 obtain ⟨hl, e1, e2⟩ := take_one78 l y h0 h1
 rw [e2, foldlM_take_succ _ _ _ _ hl, hj.1, e1]
 rfl
theorem jobsAt_none {l : List S78} {p h y n : Int} (hj : JobsAt l p h y n) (h0 : 0 ≤ y) (h1 : y < l.length) (hn : jobStep p h n (zj l y) = none) : l.foldlM (jobStep p h) 0 = none :=
 foldlM_none _ _ _ (y + 1).toNat ((jobsAt_next hj h0 h1).trans hn)
theorem jobsAt_end {l : List S78} {p h y n : Int} (hj : JobsAt l p h y n) (h0 : 0 ≤ y) (h1 : (l.length : Int) ≤ y) : l.foldlM (jobStep p h) 0 = some n := by
 have := hj.1
 rwa [List.take_of_length_le (by omega)] at this
theorem date_eq {c : S68} {n : Int} (hc : 1 ≤ c.f0 ∧ c.f0 ≤ 1099511627776 ∧ 0 ≤ c.f1 ∧ c.f1 ≤ 1099511627776) (h0 : 0 ≤ n) (h1 : n ≤ 4096) : unfold_date.f c.f0 c.f1 n = some (c.f1 + n * c.f0) := by
 unfold unfold_date.f
 have hp := Int.mul_le_mul h1 hc.2.1 (by omega) (by omega)
 have hp0 := Int.mul_nonneg h0 (show 0 ≤ c.f0 by omega)
 rw [zsa (x := n * c.f0) (by unfold I64; omega), zsa (by unfold I64; omega)]
theorem of_go (A0 A1 : Option Addr) (c0 c1 m : Nat) (l : List S78) (w : World) (h0 : Kd.C k78 w A0 l.length l) (hc0 : l.length ≤ c0) (hfit : ∀ t ∈ l, fitT t = true)
  (hm : ∀ W, Below w.heap.size w W → Calls Tryz.prog 53 #[.slice A0 l.length c0, .slice A1 m c1] W fun e w' => e = .returned (.int .i64 0) ∧ Below W.heap.size W w') :
  Calls Tryz.prog 29 #[.slice A0 l.length c0, .slice A1 m c1] w fun e w' => e = .returned (.tuple #[.agg #[.int .i64 (ofS l).1, .int .i64 (ofS l).2.1], .int .i64 (ofS l).2.2]) ∧ Below w.heap.size w w' := by
 have hn : l.length ≤ 9223372036854775807 := h0.2.1
 have H0 := Lib.hid h0
 have C0 := Lib.hid hc0
 have HM := Lib.hid hm
 have HF := Lib.hid hfit
 have HN := Lib.hid hn
 clear h0 hc0 hm hfit hn
 go_enter Tryz.func29, Tryz.ntmps29
 go_wp2_with (first | (go_at_call 53; refine (HM.out _ ?_).mono ?_; (focus exact (Below.refl _ _).alloc (Nat.le_refl _) _); rintro e w1 ⟨rfl, hb⟩; obtain ⟨hcl, hfl⟩ := bcell hb; have hz := hb.size; simp at hz; have HB := Lib.hid (Below.trans (by go_grown) (hb.mono (by simp <;> omega)) : Below w.heap.size w w1); clear hb))
 have hz' : w.heap.size < w1.heap.size := by omega
 have HS : ∀ W, W = w1.alloc (.cells #[.int .i64 0, .int .i64 1] 39) → Sp w w1.heap.size (0, 1) W := by
  intro W hW
  subst hW
  exact ⟨by simp [go_sem, hcl, hz'], by simp [go_sem, hcl, hz'], by simp [go_sem, hfl, hz'], by simp [go_sem, hfl, hz'], by simp [go_sem], by simp [go_sem], by simp [go_sem], by simp [go_sem], hz', by simp, Below.trans HB.out ((Below.refl _ _).alloc (by omega) _)⟩
 obtain ⟨b, hbeq⟩ : ∃ b, w1.heap.size = b := ⟨_, rfl⟩
 have HS0 := HS _ rfl
 rw [hbeq] at HS0 hz' ⊢
 generalize w1.alloc (.cells #[.int .i64 0, .int .i64 1] 39) = Wz at HS0 ⊢
 clear HS hcl hfl hz HB hbeq
 go_loopw [26] (fun i W => ∃ (x : Int) (s : Int × Int), i = .int .i64 x ∧ 0 ≤ x ∧ x ≤ l.length ∧ SpanAt l x s ∧ Sp w b s W) (fun i _ => l.length - (intOf i).toNat)
 case atStart => exact ⟨0, (0, 1), rfl, by omega, by omega, ⟨rfl, by unfold SpanOk; simp⟩, HS0⟩
 case round =>
  clear HS0
  obtain ⟨x, s, rfl, hx0, hxl, hat, hS⟩ := hrel
  by_cases hlt : x < (l.length : Int)
  ·obtain ⟨ad, A5, c5, rfl, hx0', hx1', hx2', hx3', hx4', hx5', hx6', hl5, hg5⟩ := zeb H0.out x hx0 hlt
   have e0 := keepc hS.bel hx0'
   have e1 := keepc hS.bel hx1'
   have e2 := keepc hS.bel hx2'
   have e3 := keepc hS.bel hx3'
   have e4 := keepc hS.bel hx4'
   have e5 := keepc hS.bel hx5'
   have e6 := keepc hS.bel hx6'
   have hn := HN.out
   have b0 := hS.b0
   have y0 := hS.y0
   have hbW := hS.hb
   have HAT := Lib.hid hat
   have HSP := Lib.hid hS
   have HL5 := Lib.hid hl5
   have HG5 := Lib.hid hg5
   clear hat hS hl5 hg5 hx0' hx1' hx2' hx3' hx4' hx5' hx6'
   have c := decide_eq_true hlt
   have h0' := eq_true hx0
   have h1' := eq_true hlt
   have hmx : (if s.1 < (zj l x).f0.f1 then (zj l x).f0.f1 else s.1) = mx s.1 (zj l x).f0.f1 := rfl
   go_wp2
   have hfx := HF.out _ (rd78_mem l x hx0 hlt)
   have hck := fitT_clock hfx
   have hS1 : Sp w b (mx s.1 (zj l x).f0.f1, s.2) ((wr.setCell ⟨b, 0, none⟩ (.int .i64 (mx s.1 (zj l x).f0.f1))).alloc (.cells #[.int .i64 (zj l x).f0.f0, .int .i64 (zj l x).f0.f1, .int .i64 (zj l x).f1, .int .i64 (zj l x).f2, .int .i64 (zj l x).f3, .slice A5 (zj l x).f4.length c5, .int .i64 (zj l x).f5] 78)) :=
    (HSP.out.put0 _).alloc _
   have t0 : ((wr.setCell ⟨b, 0, none⟩ (.int .i64 (mx s.1 (zj l x).f0.f1))).alloc (.cells #[.int .i64 (zj l x).f0.f0, .int .i64 (zj l x).f0.f1, .int .i64 (zj l x).f1, .int .i64 (zj l x).f2, .int .i64 (zj l x).f3, .slice A5 (zj l x).f4.length c5, .int .i64 (zj l x).f5] 78)).cell? ⟨wr.heap.size, 0, none⟩ = some (.int .i64 (zj l x).f0.f0) := by simp [go_sem]
   have t1 : ((wr.setCell ⟨b, 0, none⟩ (.int .i64 (mx s.1 (zj l x).f0.f1))).alloc (.cells #[.int .i64 (zj l x).f0.f0, .int .i64 (zj l x).f0.f1, .int .i64 (zj l x).f1, .int .i64 (zj l x).f2, .int .i64 (zj l x).f3, .slice A5 (zj l x).f4.length c5, .int .i64 (zj l x).f5] 78)).cell? ⟨wr.heap.size, 1, none⟩ = some (.int .i64 (zj l x).f0.f1) := by simp [go_sem]
   have hbs : wr.heap.size < ((wr.setCell ⟨b, 0, none⟩ (.int .i64 (mx s.1 (zj l x).f0.f1))).alloc (.cells #[.int .i64 (zj l x).f0.f0, .int .i64 (zj l x).f0.f1, .int .i64 (zj l x).f1, .int .i64 (zj l x).f2, .int .i64 (zj l x).f3, .slice A5 (zj l x).f4.length c5, .int .i64 (zj l x).f5] 78)).heap.size := by simp
   have hso : SpanOk (mx s.1 (zj l x).f0.f1, s.2) := by
    obtain ⟨-, s1, s2, s3, s4⟩ := HAT.out
    unfold mx
    split <;> refine ⟨?_, ?_, s3, s4⟩ <;> simp only <;> omega
   generalize ((wr.setCell ⟨b, 0, none⟩ (.int .i64 (mx s.1 (zj l x).f0.f1))).alloc (.cells #[.int .i64 (zj l x).f0.f0, .int .i64 (zj l x).f0.f1, .int .i64 (zj l x).f1, .int .i64 (zj l x).f2, .int .i64 (zj l x).f3, .slice A5 (zj l x).f4.length c5, .int .i64 (zj l x).f5] 78)) = W1 at hS1 t0 t1 hbs ⊢
   have HSO := Lib.hid hso
   have HCK := Lib.hid hck
   have HFX := Lib.hid hfx
   clear e0 e1 e2 e3 e4 e5 e6 b0 y0 hmx hso hck hfx
   generalize wr.heap.size = B9 at hbW t0 t1 hbs ⊢
   go_loopw [40] (fun j W => ∃ (y : Int) (s' : Int × Int), j = .int .i64 y ∧ 0 ≤ y ∧ y ≤ (zj l x).f4.length ∧ ReadsAt (zj l x) (mx s.1 (zj l x).f0.f1, s.2) y s' ∧ Sp w b s' W ∧ W.cell? ⟨B9, 0, none⟩ = some (.int .i64 (zj l x).f0.f0) ∧ W.cell? ⟨B9, 1, none⟩ = some (.int .i64 (zj l x).f0.f1)) (fun j _ => (zj l x).f4.length - (intOf j).toNat)
   case atStart => exact ⟨0, _, rfl, by omega, by omega, ⟨rfl, HSO.out⟩, hS1, t0, t1⟩
   case round =>
    clear hS1 t0 t1 hbs HSP
    obtain ⟨y, s', rfl, hy0, hyl, hrt, hS, t0, t1⟩ := hrel
    by_cases hlt2 : y < ((zj l x).f4.length : Int)
    ·obtain ⟨ad2, A3, c3, A4, c4, rfl, g0', g1', g2', g3', g4', g5', -, -, -, -⟩ := at_T75 HG5.out y hy0 hlt2
     have g0 := keepc hS.bel g0'
     have g1 := keepc hS.bel g1'
     have g2 := keepc hS.bel g2'
     have g3 := keepc hS.bel g3'
     have g4 := keepc hS.bel g4'
     have g5 := keepc hS.bel g5'
     have hrd := fitT_read HFX.out (rd75_mem _ y hy0 hlt2)
     have hD := date_eq (n := ((zm (zj l x).f4 y).f3.f0.length : Int)) HCK.out (by omega) (by omega)
     have hlen2 : (zj l x).f4.length ≤ 9223372036854775807 := HG5.out.2.1
     have b0 := hS.b0
     have y0 := hS.y0
     have hbW := hS.hb
     have HSP := Lib.hid hS
     have HRT := Lib.hid hrt
     have HD := Lib.hid hD
     have HRD := Lib.hid hrd
     clear hS hrt hD hrd g0' g1' g2' g3' g4' g5'
     have c2 := decide_eq_true hlt2
     have j0' := eq_true hy0
     have j1' := eq_true hlt2
     have hmx2 : (if s'.1 < ((zj l x).f0.f1 + ((zm (zj l x).f4 y).f3.f0.length : Int) * (zj l x).f0.f0) then ((zj l x).f0.f1 + ((zm (zj l x).f4 y).f3.f0.length : Int) * (zj l x).f0.f0) else s'.1) = mx s'.1 ((zj l x).f0.f1 + ((zm (zj l x).f4 y).f3.f0.length : Int) * (zj l x).f0.f0) := rfl
     go_wp2
     have hB9 : B9 < wr.heap.size := World.block_lt_of_cell? wr _ t0
     have hS2 : Sp w b s' (wr.alloc (.cells #[.int .u8 (zm (zj l x).f4 y).f0, .int .i64 (zm (zj l x).f4 y).f1, .int .i64 (zm (zj l x).f4 y).f2, .slice A3 (zm (zj l x).f4 y).f3.f0.length c3, .slice A4 (zm (zj l x).f4 y).f3.f1.length c4, .int .i64 (zm (zj l x).f4 y).f3.f2] 75)) := HSP.out.alloc _
     have r3 : (wr.alloc (.cells #[.int .u8 (zm (zj l x).f4 y).f0, .int .i64 (zm (zj l x).f4 y).f1, .int .i64 (zm (zj l x).f4 y).f2, .slice A3 (zm (zj l x).f4 y).f3.f0.length c3, .slice A4 (zm (zj l x).f4 y).f3.f1.length c4, .int .i64 (zm (zj l x).f4 y).f3.f2] 75)).cell? ⟨wr.heap.size, 3, none⟩ = some (.slice A3 (zm (zj l x).f4 y).f3.f0.length c3) := by simp [go_sem]
     have r4 : (wr.alloc (.cells #[.int .u8 (zm (zj l x).f4 y).f0, .int .i64 (zm (zj l x).f4 y).f1, .int .i64 (zm (zj l x).f4 y).f2, .slice A3 (zm (zj l x).f4 y).f3.f0.length c3, .slice A4 (zm (zj l x).f4 y).f3.f1.length c4, .int .i64 (zm (zj l x).f4 y).f3.f2] 75)).cell? ⟨wr.heap.size, 4, none⟩ = some (.slice A4 (zm (zj l x).f4 y).f3.f1.length c4) := by simp [go_sem]
     have u0 : (wr.alloc (.cells #[.int .u8 (zm (zj l x).f4 y).f0, .int .i64 (zm (zj l x).f4 y).f1, .int .i64 (zm (zj l x).f4 y).f2, .slice A3 (zm (zj l x).f4 y).f3.f0.length c3, .slice A4 (zm (zj l x).f4 y).f3.f1.length c4, .int .i64 (zm (zj l x).f4 y).f3.f2] 75)).cell? ⟨B9, 0, none⟩ = some (.int .i64 (zj l x).f0.f0) := (World.cell?_of_block (heap_alloc_old wr _ hB9)).trans t0
     have u1 : (wr.alloc (.cells #[.int .u8 (zm (zj l x).f4 y).f0, .int .i64 (zm (zj l x).f4 y).f1, .int .i64 (zm (zj l x).f4 y).f2, .slice A3 (zm (zj l x).f4 y).f3.f0.length c3, .slice A4 (zm (zj l x).f4 y).f3.f1.length c4, .int .i64 (zm (zj l x).f4 y).f3.f2] 75)).cell? ⟨B9, 1, none⟩ = some (.int .i64 (zj l x).f0.f1) := (World.cell?_of_block (heap_alloc_old wr _ hB9)).trans t1
     have hbs2 : wr.heap.size < (wr.alloc (.cells #[.int .u8 (zm (zj l x).f4 y).f0, .int .i64 (zm (zj l x).f4 y).f1, .int .i64 (zm (zj l x).f4 y).f2, .slice A3 (zm (zj l x).f4 y).f3.f0.length c3, .slice A4 (zm (zj l x).f4 y).f3.f1.length c4, .int .i64 (zm (zj l x).f4 y).f3.f2] 75)).heap.size := by simp
     generalize wr.alloc (.cells #[.int .u8 (zm (zj l x).f4 y).f0, .int .i64 (zm (zj l x).f4 y).f1, .int .i64 (zm (zj l x).f4 y).f2, .slice A3 (zm (zj l x).f4 y).f3.f0.length c3, .slice A4 (zm (zj l x).f4 y).f3.f1.length c4, .int .i64 (zm (zj l x).f4 y).f3.f2] 75) = W2 at hS2 r3 r4 u0 u1 hbs2 ⊢
     clear g0 g1 g2 g3 g4 g5 b0 y0 HSP t0 t1
     generalize wr.heap.size = R9 at hbW r3 r4 hbs2 hB9 ⊢
     have b0 := hS2.b0
     have y0 := hS2.y0
     have HSP := Lib.hid hS2
     clear hS2
     apply wp_ex (I := fun W3 => Sp w b (mx s'.1 ((zj l x).f0.f1 + ((zm (zj l x).f4 y).f3.f0.length : Int) * (zj l x).f0.f0), s'.2) W3 ∧ W3.cell? ⟨B9, 0, none⟩ = some (.int .i64 (zj l x).f0.f0) ∧ W3.cell? ⟨B9, 1, none⟩ = some (.int .i64 (zj l x).f0.f1) ∧ W3.cell? ⟨R9, 4, none⟩ = some (.slice A4 (zm (zj l x).f4 y).f3.f1.length c4))
     ·go_region_with (go_at_call 56; refine (unfold_date.calls _ _ _ _ _ HD.out).mono ?_; rintro e w3 ⟨rfl, hb3⟩; have hS3 := Sp.below (HSP.out.drew) hb3; have b0' := hS3.b0; have y0' := hS3.y0; have HI := Lib.hid (And.intro hS3 (And.intro ((bcell hb3).1 B9 0 (by simp <;> omega)) (And.intro ((bcell hb3).1 B9 1 (by simp <;> omega)) ((bcell hb3).1 R9 4 (by simp <;> omega))))); clear hS3 hb3)
      all_goals exact ⟨rfl, HI.out.1.put0 _, (World.cell?_setCell_other _ _ _ _ (fun e => by injection e with e1 _ _; omega)).trans (HI.out.2.1.trans u0), (World.cell?_setCell_other _ _ _ _ (fun e => by injection e with e1 _ _; omega)).trans (HI.out.2.2.1.trans u1), (World.cell?_setCell_other _ _ _ _ (fun e => by injection e with e1 _ _; omega)).trans (HI.out.2.2.2.trans r4)⟩
     clear HSP b0 y0 u0 u1 r3 r4 hbs2 hmx2
     rintro W3 ⟨hS3, v0, v1, v4⟩
     have hN1 : 1 ≤ ((zj l x).f0.f0 * ((zm (zj l x).f4 y).f3.f1.length : Int)) := by
      have := Int.mul_le_mul HCK.out.1 (show (1 : Int) ≤ (zm (zj l x).f4 y).f3.f1.length by have := HRD.out.1; omega) (by omega) (by have := HCK.out.1; omega)
      omega
     have hN2 : ((zj l x).f0.f0 * ((zm (zj l x).f4 y).f3.f1.length : Int)) ≤ 4503599627370496 := by
      have := Int.mul_le_mul HCK.out.2.1 (show ((zm (zj l x).f4 y).f3.f1.length : Int) ≤ 4096 by have := HRD.out.2.1; omega) (by omega) (by omega)
      omega
     have hwn : wrap64 ((zj l x).f0.f0 * ((zm (zj l x).f4 y).f3.f1.length : Int)) = ((zj l x).f0.f0 * ((zm (zj l x).f4 y).f3.f1.length : Int)) := zsa (by unfold I64; omega)
     have b1 := hS3.b1
     have y1 := hS3.y1
     have HM1 := Lib.hid (more_calls b s'.2 ((zj l x).f0.f0 * ((zm (zj l x).f4 y).f3.f1.length : Int)) W3 b1 y1 HRT.out.2.2.2.1 (by have := HRT.out.2.2.2.2; omega) hN1 (by omega))
     have q0 := hS3.r0
     have q1 := hS3.r1
     have z0 := hS3.z0
     have z1 := hS3.z1
     have hlt3 := hS3.lt
     have HS3 := Lib.hid hS3
     clear hS3 b1 y1
     cases hok : (more2 s'.2 ((zj l x).f0.f0 * ((zm (zj l x).f4 y).f3.f1.length : Int))).2 with
     | false =>
      rw [hok] at HM1
      have hspan : spanL l = none := spanAt_none HAT.out hx0 hlt (readsAt_none HRT.out hy0 hlt2 (by unfold readStep; rw [if_neg (by rw [hok]; simp)]))
      have HSN := Lib.hid hspan
      clear hspan hok
      go_wp2_with (first | (go_at_call 54; refine HM1.out.mono ?_; rintro e w4 ⟨rfl, q, rfl⟩))
      exact bodyPost_ret (v := .tuple #[.agg #[.int .i64 0, .int .i64 0], .int .i64 4]) (by simp [results, Tryz.results29, go_sem, q0, q1]) rfl ⟨by rw [ofS_none HSN.out], ((((below_drewN HS3.out.bel q).setCell (by simp <;> omega) _).setCell (by simp) _).setCell (by simp) _)⟩
     | true =>
      rw [hok] at HM1
      have hst : readStep (zj l x).f0 s' (zm (zj l x).f4 y) = some (mx s'.1 ((zj l x).f0.f1 + ((zm (zj l x).f4 y).f3.f0.length : Int) * (zj l x).f0.f0), (more2 s'.2 ((zj l x).f0.f0 * ((zm (zj l x).f4 y).f3.f1.length : Int))).1) := by unfold readStep; rw [if_pos hok]
      have HST := Lib.hid hst
      clear hst hok
      go_wp2_with (first | (go_at_call 54; refine HM1.out.mono ?_; rintro e w4 ⟨rfl, q, rfl⟩))
      go_roundw
      case rel => exact ⟨y + 1, _, by go_num, by omega, by omega, ⟨(readsAt_next HRT.out hy0 hlt2).trans HST.out, readStep_ok HCK.out HRD.out HRT.out.2 HST.out⟩, (HS3.out.drewN q).put1 _, (World.cell?_setCell_other _ _ _ _ (fun e => by injection e with e1 _ _; omega)).trans v0, (World.cell?_setCell_other _ _ _ _ (fun e => by injection e with e1 _ _; omega)).trans v1⟩
      case measure => simp [intOf]; omega
    ·have hts : taskStep s (zj l x) = some s' := readsAt_end hrt hy0 (by omega)
     have HTS := Lib.hid ((spanAt_next HAT.out hx0 hlt).trans hts)
     have HSP := Lib.hid hS
     have HOK := Lib.hid hrt.2
     clear hS hrt hts
     go_wp2
     go_roundw
     case rel => exact ⟨x + 1, s', by go_num, by omega, by omega, ⟨HTS.out, HOK.out⟩, HSP.out⟩
     case measure => simp [intOf]; omega
  ·have hsp := spanAt_end hat hx0 (by omega)
   obtain ⟨p, h⟩ := s
   have hok := hat.2
   have b0 := hS.b0
   have b1 := hS.b1
   have q0 := hS.r0
   have q1 := hS.r1
   have z0 := hS.z0
   have z1 := hS.z1
   have hlt3 := hS.lt
   have HSP := Lib.hid hS
   have HSN := Lib.hid hsp
   obtain ⟨o1, o2, o3, o4⟩ := hok
   simp only at o1 o2 o3 o4 b0 b1
   clear hS hsp hat
   by_cases hfar : p + h > 17592186044416
   ·have HFAR := Lib.hid hfar
    have hd : decide (17592186044416 < p + h) = true := decide_eq_true hfar
    go_wp2
    exact bodyPost_ret (v := .tuple #[.agg #[.int .i64 0, .int .i64 0], .int .i64 4]) (by simp [results, Tryz.results29, go_sem, q0, q1]) rfl ⟨by rw [ofS_far HSN.out HFAR.out], ((HSP.out.bel.setCell (by simp) _).setCell (by simp) _)⟩
   ·have HFAR := Lib.hid hfar
    have hd : decide (17592186044416 < p + h) = false := decide_eq_false hfar
    go_wp2
    have p1 : p ≤ 17592186044416 := by omega
    have HO := Lib.hid (And.intro o1 (And.intro p1 (And.intro o3 o4)))
    clear b0 b1 q0 q1 z0 z1 o1 o2 o3 o4 p1 hfar hd
    go_loopw [12, 78] (fun v12 v78 W => ∃ (y n : Int), v78 = .int .i64 y ∧ v12 = .int .i64 n ∧ 0 ≤ y ∧ y ≤ l.length ∧ JobsAt l p h y n ∧ Sp w b (p, h) W) (fun _ v _ => l.length - (intOf v).toNat)
    case atStart => exact ⟨0, 0, rfl, rfl, by omega, by omega, ⟨rfl, by omega, by omega⟩, HSP.out⟩
    case round =>
     clear HSP hlt3
     obtain ⟨y, n, rfl, rfl, hy0, hyl, hja, hS⟩ := hrel
     by_cases hlt2 : y < (l.length : Int)
     ·obtain ⟨ad, A5, c5, rfl, hx0', hx1', hx2', hx3', hx4', hx5', hx6', -, -⟩ := zeb H0.out y hy0 hlt2
      have e0 := keepc hS.bel hx0'
      have e1 := keepc hS.bel hx1'
      have e2 := keepc hS.bel hx2'
      have e3 := keepc hS.bel hx3'
      have e4 := keepc hS.bel hx4'
      have e5 := keepc hS.bel hx5'
      have e6 := keepc hS.bel hx6'
      have hn := HN.out
      have b0 := hS.b0
      have b1 := hS.b1
      have hbW := hS.hb
      have hck := fitT_clock (HF.out _ (rd78_mem l y hy0 hlt2))
      have hcb := cnt_bd hck HO.out.1 HO.out.2.1 (show 0 ≤ h by have := HO.out.2.2.1; omega) HO.out.2.2.2
      have hce := count_eq hck HO.out.1 (by have := HO.out.2.1; omega) (show 0 ≤ h by have := HO.out.2.2.1; omega) HO.out.2.2.2
      obtain ⟨k1, k2, hk⟩ : ∃ k1 k2, cntS p h (zj l y).f0 = (k1, k2) := ⟨_, _, rfl⟩
      have hjn : jobStep p h n (zj l y) = if n + (k1 + k2) > 1024 then none else some (n + (k1 + k2)) := by unfold jobStep; rw [hk]
      rw [hk] at hcb hce
      simp only at hcb hce
      obtain ⟨m1, m2, m3, m4⟩ := hcb
      obtain ⟨n0, n1⟩ := hja.2
      have HJN := Lib.hid hjn
      have HJA := Lib.hid hja
      have HCE := Lib.hid hce
      have HSY := Lib.hid hS
      clear hjn hk hja hce hck hS hx0' hx1' hx2' hx3' hx4' hx5' hx6'
      have c := decide_eq_true hlt2
      have h0' := eq_true hy0
      have h1' := eq_true hlt2
      by_cases hgt : n + (k1 + k2) > 1024
      ·have hd : decide (1024 < n + (k1 + k2)) = true := decide_eq_true hgt
       have HNO := Lib.hid (jobsAt_none HJA.out hy0 hlt2 (by rw [HJN.out, if_pos hgt]))
       clear hgt
       go_wp2_with (first | (go_at_call 57; refine (unfold_count.calls _ _ _ _ _ _ _ HCE.out).mono ?_; rintro e w4 ⟨rfl, hb4⟩; have hS4 := Sp.below (HSY.out.alloc _) hb4; have q0 := hS4.r0; have q1 := hS4.r1; have z0 := hS4.z0; have z1 := hS4.z1; have HS4 := Lib.hid hS4; clear hS4 hb4))
       exact bodyPost_ret (v := .tuple #[.agg #[.int .i64 0, .int .i64 0], .int .i64 4]) (by simp [results, Tryz.results29, go_sem, q0, q1]) rfl ⟨by rw [ofS_many HSN.out (by have := HFAR.out; omega) HNO.out], ((HS4.out.bel.setCell (by simp) _).setCell (by simp) _)⟩
      ·have hd : decide (1024 < n + (k1 + k2)) = false := decide_eq_false hgt
       have HNX := Lib.hid ((jobsAt_next HJA.out hy0 hlt2).trans (by rw [HJN.out, if_neg hgt]))
       go_wp2_with (first | (go_at_call 57; refine (unfold_count.calls _ _ _ _ _ _ _ HCE.out).mono ?_; rintro e w4 ⟨rfl, hb4⟩; have hS4 := Sp.below (HSY.out.alloc _) hb4; have HS4 := Lib.hid hS4; clear hS4 hb4))
       go_roundw
       case rel => exact ⟨y + 1, n + (k1 + k2), by go_num, by go_num, by omega, by omega, ⟨HNX.out, by omega, by omega⟩, HS4.out⟩
       case measure => simp [intOf]; omega
     ·have HE := Lib.hid (jobsAt_end hja hy0 (by omega))
      have b0 := hS.b0
      have b1 := hS.b1
      have q0 := hS.r0
      have q1 := hS.r1
      have z0 := hS.z0
      have z1 := hS.z1
      have hlt3 := hS.lt
      have HSY := Lib.hid hS
      clear hS hja
      go_wp2
      exact bodyPost_ret (v := .tuple #[.agg #[.int .i64 p, .int .i64 h], .int .i64 0]) (by simp [results, Tryz.results29, go_sem, q0, q1]) rfl ⟨by rw [ofS_some HSN.out (by have := HFAR.out; omega) HE.out], ((HSY.out.bel.setCell (by simp) _).setCell (by simp) _)⟩
end Go.Proofs.YtfondhcppjkchaaGreat.Q
