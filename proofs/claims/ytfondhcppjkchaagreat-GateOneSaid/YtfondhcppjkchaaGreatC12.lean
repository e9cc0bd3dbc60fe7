import Derived.Test.YtfondhcppjkchaaGreatC11
import Derived.RangeFuncFrom
set_option maxHeartbeats 40000000
set_option maxRecDepth 100000
set_option linter.unusedVariables false
set_option linter.unusedSimpArgs false
namespace Go.Proofs.YtfondhcppjkchaaGreat.Q
open Go.RowKit Go.Shelf Go.Proofs.YtfondhcppjkchaaGreatW.PrintWords Go.Proofs.YtfondhcppjkchaaGreatW.PrintLast
attribute [local go_sem] Oper.semAt_some
theorem blk_own (B : Nat) (cs : Array Value) (t : TypeId) : Own (fun (_ : Unit) W => W.heap[B]? = some (.cells cs t (0, 0))) := fun s X Y row hs hg hrow =>
 (hg.block B (Array.getElem?_eq_some_iff.1 hs).1 (fun e' => by obtain ⟨o, ho, hc⟩ := hrow B e'.symm; rw [show X.heap[B]? = _ from hs] at ho; cases ho; cases hc)).trans hs
theorem blk70_lt {w : World} {A : Option Addr} {xs : List S70} (h : Kd.C k70 w A xs.length xs) : ∀ ad, A = some ad → 0 < xs.length → ad.block < w.heap.size := by
 intro ad e hp
 obtain ⟨ad', e', hx, _⟩ := at_T70 h 0 (by omega) (by omega)
 rw [e] at e'
 injection e' with e'
 subst e'
 have := World.block_lt_of_cell? w _ hx
 rwa [blk_add] at this
theorem values_stops (F : Fence) (n : Nat) (h173 : F.fn 173) (hro : F.round = none) (hn : 1 ≤ n) (Bd n₀ : Nat) (A0 A1 : Option Addr) (c0 c1 : Nat) (l0 l1 : List S70) (st : Int) (w : World) (hBd : Bd < n₀) (hn₀ : n₀ ≤ w.heap.size)
  (hA0 : ∀ ad, A0 = some ad → 0 < l0.length → ad.block < n₀) (hA1 : ∀ ad, A1 = some ad → 0 < l1.length → ad.block < n₀)
  (hb0 : w.cell? ⟨Bd, 0, none⟩ = some (.slice A0 l0.length c0)) (hb1 : w.cell? ⟨Bd, 1, none⟩ = some (.slice A1 l1.length c1)) (hl0 : l0.length ≤ 4096) (hl1 : l1.length ≤ 4096)
  (hc0 : Kd.C k70 w A0 l0.length l0) (hc1 : Kd.C k70 w A1 l1.length l1) :
  SeqStopsK F n Tryz.prog 173 #[.pointer (some ⟨Bd, 0, none⟩)] encV (Below n₀) (fun ys => ys = numbered 0 l0 ++ numbered l0.length l1) (fun pre => pre <+: numbered 0 l0 ++ numbered l0.length l1) (l0.length + l1.length) w := fun l J Jx W hW hJ _ hY h0 =>
 values1_in F n h173 hro hn l Bd n₀ A0 A1 c0 c1 l0 l1 st J Jx hY W hJ (Nat.le_trans hn₀ hW.size) hBd hA0 hA1 ((hW.cell (p := ⟨Bd, 0, none⟩) (Nat.lt_of_lt_of_le hBd hn₀)).trans hb0) ((hW.cell (p := ⟨Bd, 1, none⟩) (Nat.lt_of_lt_of_le hBd hn₀)).trans hb1) hl0 hl1 (Kd.zu hc0 hW) (Kd.zu hc1 hW) h0
theorem values_calls (F : Fence) (n : Nat) (h149 : F.fn 149) (hro : F.round = none) (v0 v1 v2 : Value) (h0 : v0.oneCell' = true) (h1 : v1.oneCell' = true) (h2 : v2.oneCell' = true) (w : World) :
  CallsIn F n Tryz.prog 149 #[.agg #[v0, v1, v2]] w fun e w' => e = .returned (.func (.func 173) #[] #[.pointer (some ⟨w.heap.size, 0, none⟩)]) ∧ w' = w.alloc (.cells #[v0, v1, v2] 73) := by
 refine callsIn_of_wp Tryz.func149 rfl h149 ?_ hro
 simp only [Tryz.ntmps149, List.size_toArray, List.length_cons, List.length_nil, Nat.reduceAdd, Nat.reduceSub, Array.replicate_succ, Array.replicate_zero, List.push_toArray, List.append_toArray, List.nil_append, List.cons_append]
 gi_wp2
 go_ret
 exact ⟨rfl, rfl⟩
def srcB (h : Int) (p : Int × S70) : Bool := decide (0 ≤ p.2.f2 ∧ p.2.f2 ≤ 1125899906842624) && (if p.2.f0 = true then decide (p.2.f2 = 0 ∧ p.1 < h) else decide (p.2.f1 = 0))
def depPre (d : S73) : Bool := decide (1 ≤ d.f1.length ∧ d.f1.length ≤ 4096 ∧ d.f0.length ≤ 4096 ∧ 0 ≤ d.f2 ∧ d.f2 ≤ 1099511627776)
def depMay (d : S73) : Bool := depPre d && (vals d).all (srcB d.f0.length)
def AllOk (h : Int) (pre : List (Int × S70)) : Prop := pre.all (srcB h) = true
def NotOk (h : Int) (pre : List (Int × S70)) : Prop := pre.all (srcB h) = false
theorem AllOk.snoc {h : Int} {pre : List (Int × S70)} {x : Int × S70} (a : AllOk h pre) (b : srcB h x = true) : AllOk h (pre ++ [x]) := by
 unfold AllOk at *; rw [List.all_append, a]; simp [b]
theorem NotOk.snoc {h : Int} {pre : List (Int × S70)} {x : Int × S70} (b : srcB h x = false) : NotOk h (pre ++ [x]) := by
 unfold NotOk; rw [List.all_append]; simp [b]
theorem zva {W : World} {a : Addr} {v : Value} (o : Obj) (h : W.cell? a = some v) : (W.alloc o).cell? a = some v := cell_kept h (World.grownBy_alloc W o none) (fun r e => by cases e)
theorem frozen_alloc_l {W : World} {a : Addr} {v : Value} (o : Obj) (h : W.cell? a = some v) (hf : W.frozen? a = false) : (W.alloc o).frozen? a = false := (frozen_kept h (World.grownBy_alloc W o none) (fun r e => by cases e)).trans hf
theorem may_no (A0 A1 : Option Addr) (c0 c1 : Nat) (d : S73) (w : World) (hp : depPre d = false) :
  Calls Tryz.prog 123 #[.agg #[.slice A0 d.f0.length c0, .slice A1 d.f1.length c1, .int .i64 d.f2]] w fun e W' => e = .returned (.bool false) ∧ Below w.heap.size w W' := by
 have hp' : ¬ (1 ≤ d.f1.length ∧ d.f1.length ≤ 4096 ∧ d.f0.length ≤ 4096 ∧ 0 ≤ d.f2 ∧ d.f2 ≤ 1099511627776) := by simpa [depPre] using hp
 have HP := Lib.hid hp'
 clear hp hp'
 go_enter Tryz.func123, Tryz.ntmps123
 go_wp2
 all_goals first
  | (exfalso; apply HP.out; refine ⟨?_, ?_, ?_, ?_, ?_⟩ <;> first | omega | (simp_all; omega))
  | exact bodyPost_ret (v := .bool false) (by simp [results, Tryz.results123, go_sem]) rfl ⟨rfl, by go_grown⟩
  | trace_state
theorem may_go (F : Fence) (n : Nat) (h123 : F.fn 123) (h149 : F.fn 149) (h173 : F.fn 173) (hro : F.round = none) (hn : 6 ≤ n) (A0 A1 : Option Addr) (c0 c1 : Nat) (d : S73) (w : World) (hp : depPre d = true)
  (hc0 : Kd.C k70 w A0 d.f0.length d.f0) (hc1 : Kd.C k70 w A1 d.f1.length d.f1) :
  CallsIn F n Tryz.prog 123 #[.agg #[.slice A0 d.f0.length c0, .slice A1 d.f1.length c1, .int .i64 d.f2]] w fun e W' => e = .returned (.bool ((vals d).all (srcB d.f0.length))) ∧ Below w.heap.size w W' := by
 obtain ⟨p1, p2, p3, p4, p5⟩ : 1 ≤ d.f1.length ∧ d.f1.length ≤ 4096 ∧ d.f0.length ≤ 4096 ∧ 0 ≤ d.f2 ∧ d.f2 ≤ 1099511627776 := by simpa [depPre] using hp
 clear hp
 have h1 : 1 ≤ n := by omega
 have q1 : decide ((d.f1.length : Int) < 1) = false := decide_eq_false (by omega)
 have q2 : decide (4096 < (d.f1.length : Int)) = false := decide_eq_false (by omega)
 have q3 : decide (4096 < (d.f0.length : Int)) = false := decide_eq_false (by omega)
 have q4 : decide (d.f2 < 0) = false := decide_eq_false (by omega)
 have q5 : decide (1099511627776 < d.f2) = false := decide_eq_false (by omega)
 refine callsIn_of_wp_marks Tryz.func123 rfl h123 ?_ hro
 simp only [Tryz.ntmps123, List.size_toArray, List.length_cons, List.length_nil, Nat.reduceAdd, Nat.reduceSub, Array.replicate_succ, Array.replicate_zero, List.push_toArray, List.append_toArray, List.nil_append, List.cons_append]
 gi_wp2_with (gi_at_call 149; refine (values_calls F (n - 1) h149 hro _ _ _ rfl rfl rfl _).mono ?_; rintro e w' ⟨rfl, rfl⟩)
 have hB0 : Below w.heap.size w (((w.alloc (.cells #[.slice A0 d.f0.length c0, .slice A1 d.f1.length c1, .int .i64 d.f2] 73)).alloc (.cells #[.bool false] 4)).alloc (.cells #[.slice A0 d.f0.length c0, .slice A1 d.f1.length c1, .int .i64 d.f2] 73)) := (((Below.refl _ w).alloc (Nat.le_refl _) _).alloc (by simp) _).alloc (by simp; omega) _
 have d0 : (((w.alloc (.cells #[.slice A0 d.f0.length c0, .slice A1 d.f1.length c1, .int .i64 d.f2] 73)).alloc (.cells #[.bool false] 4)).alloc (.cells #[.slice A0 d.f0.length c0, .slice A1 d.f1.length c1, .int .i64 d.f2] 73)).cell? ⟨w.heap.size, 0, none⟩ = some (.slice A0 d.f0.length c0) := by simp [go_sem]
 have d1 : (((w.alloc (.cells #[.slice A0 d.f0.length c0, .slice A1 d.f1.length c1, .int .i64 d.f2] 73)).alloc (.cells #[.bool false] 4)).alloc (.cells #[.slice A0 d.f0.length c0, .slice A1 d.f1.length c1, .int .i64 d.f2] 73)).cell? ⟨w.heap.size + 1, 0, none⟩ = some (.bool false) := by simp [go_sem]
 have d1z : (((w.alloc (.cells #[.slice A0 d.f0.length c0, .slice A1 d.f1.length c1, .int .i64 d.f2] 73)).alloc (.cells #[.bool false] 4)).alloc (.cells #[.slice A0 d.f0.length c0, .slice A1 d.f1.length c1, .int .i64 d.f2] 73)).frozen? ⟨w.heap.size + 1, 0, none⟩ = false := by simp [go_sem]
 have e0 : (((w.alloc (.cells #[.slice A0 d.f0.length c0, .slice A1 d.f1.length c1, .int .i64 d.f2] 73)).alloc (.cells #[.bool false] 4)).alloc (.cells #[.slice A0 d.f0.length c0, .slice A1 d.f1.length c1, .int .i64 d.f2] 73)).cell? ⟨w.heap.size + 1 + 1, 0, none⟩ = some (.slice A0 d.f0.length c0) := by simp [go_sem]
 have e1 : (((w.alloc (.cells #[.slice A0 d.f0.length c0, .slice A1 d.f1.length c1, .int .i64 d.f2] 73)).alloc (.cells #[.bool false] 4)).alloc (.cells #[.slice A0 d.f0.length c0, .slice A1 d.f1.length c1, .int .i64 d.f2] 73)).cell? ⟨w.heap.size + 1 + 1, 1, none⟩ = some (.slice A1 d.f1.length c1) := by simp [go_sem]
 have hsz : (((w.alloc (.cells #[.slice A0 d.f0.length c0, .slice A1 d.f1.length c1, .int .i64 d.f2] 73)).alloc (.cells #[.bool false] 4)).alloc (.cells #[.slice A0 d.f0.length c0, .slice A1 d.f1.length c1, .int .i64 d.f2] 73)).heap.size = w.heap.size + 3 := by simp
 have b0 := blk70_lt hc0
 have b1 := blk70_lt hc1
 have hc0' := Kd.zu hc0 hB0
 have hc1' := Kd.zu hc1 hB0
 obtain ⟨W0, hW0⟩ : ∃ W0, ((w.alloc (.cells #[.slice A0 d.f0.length c0, .slice A1 d.f1.length c1, .int .i64 d.f2] 73)).alloc (.cells #[.bool false] 4)).alloc (.cells #[.slice A0 d.f0.length c0, .slice A1 d.f1.length c1, .int .i64 d.f2] 73) = W0 := ⟨_, rfl⟩
 rw [hW0] at hB0 d0 d1 d1z e0 e1 hsz hc0' hc1' ⊢
 clear hW0
 have HS := values_stops F (n - 1) h173 hro (by omega) (w.heap.size + 1 + 1) (w.heap.size + 3) A0 A1 c0 c1 d.f0 d.f1 d.f2 W0 (by omega) (by omega) (fun ad e h => by have := b0 ad e h; omega) (fun ad e h => by have := b1 ad e h; omega) e0 e1 p3 p2 hc0' hc1'
 clear hc0 hc1 hc0' hc1' b0 b1 e1
 refine wpIn_rangeFunc_ownH hro h1 (gf := 173) (lb := #[.pointer (some ⟨w.heap.size + 1 + 1, 0, none⟩)]) rfl h173 (enters_of Tryz.func173 (by kernel_rfl) rfl)
  HS belowK_t (belowK_b (by omega)) (Below.refl _ _) (fun _ => rfl)
  (fun pre W => (AllOk d.f0.length pre ∧ W.cell? ⟨w.heap.size + 1 + 1, 0, none⟩ = some (.slice A0 d.f0.length c0) ∧ W.cell? ⟨w.heap.size, 0, none⟩ = some (.slice A0 d.f0.length c0) ∧ W.cell? ⟨w.heap.size + 1, 0, none⟩ = some (.bool false) ∧ W.frozen? ⟨w.heap.size + 1, 0, none⟩ = false) ∧ Below w.heap.size w W)
  (fun c pre W => (c = .ret ∧ NotOk d.f0.length pre ∧ W.cell? ⟨w.heap.size + 1, 0, none⟩ = some (.bool false)) ∧ Below w.heap.size w W)
  (OwnFrom.and (Own.from (fun s A B row hs hg hr => ⟨hs.1, cell_kept hs.2.1 hg hr, cell_kept hs.2.2.1 hg hr, cell_kept hs.2.2.2.1 hg hr, (frozen_kept hs.2.2.2.1 hg hr).trans hs.2.2.2.2⟩) _) (ownFrom_below (Nat.le_refl _) (by omega)))
  (fun c => OwnFrom.and (Own.from (fun s A B row hs hg hr => ⟨hs.1, hs.2.1, cell_kept hs.2.2 hg hr⟩) _) (ownFrom_below (Nat.le_refl _) (by omega)))
  ⟨⟨rfl, e0, d0, d1, d1z⟩, hB0⟩
  (fun x a' W => ∃ Bx, w.heap.size + 2 < Bx ∧ W.heap[Bx]? = some (.cells #[.bool x.2.f0, .int .i64 x.2.f1, .int .i64 x.2.f2] 70 (0, 0)) ∧ a' = { tmps := #[.agg #[.slice A0 d.f0.length c0, .slice A1 d.f1.length c1, .int .i64 d.f2], .pointer (some ⟨w.heap.size, 0, none⟩), .pointer (some ⟨w.heap.size + 1, 0, none⟩), .int .i64 x.1, .pointer (some ⟨Bx, 0, none⟩), .pointer (some ⟨w.heap.size, 1, none⟩), .slice A1 d.f1.length c1, .int .i64 d.f1.length, .bool false, .bool false, .pointer (some ⟨w.heap.size, 1, none⟩), .slice A1 d.f1.length c1, .int .i64 d.f1.length, .bool false, .bool false, .bool false, .pointer (some ⟨w.heap.size, 0, none⟩), .slice A0 d.f0.length c0, .int .i64 d.f0.length, .bool false, .bool false, .bool false, .pointer (some ⟨w.heap.size, 2, none⟩), .int .i64 d.f2, .bool false, .bool false, .bool false, .pointer (some ⟨w.heap.size, 2, none⟩), .int .i64 d.f2, .bool false, .bool false, .agg #[.slice A0 d.f0.length c0, .slice A1 d.f1.length c1, .int .i64 d.f2], .func (.func 173) #[] #[.pointer (some ⟨w.heap.size + 1 + 1, 0, none⟩)], .int .i64 x.1, .agg #[.bool x.2.f0, .int .i64 x.2.f1, .int .i64 x.2.f2], undef, undef, undef, undef, undef, undef, undef, undef, undef, undef, undef, undef, undef, undef, undef, undef, undef, undef, undef, undef, undef, undef, undef, undef, undef, undef, undef, undef, undef], defers := [] })
  (fun x a' _ X Y row hs hg hr => by obtain ⟨Bx, h1, h2, h3⟩ := hs; exact ⟨Bx, h1, blk_own Bx _ 70 () X Y row h2 hg (fun r e => (hr r e).2), h3⟩)
  ?assign ?body ?done ?stop
 case assign =>
  rintro l pre x W K ⟨⟨g1, g5, g2, g3, g4⟩, hB1⟩ hK
  have hsW : w.heap.size + 3 ≤ W.heap.size := by
   have := World.block_lt_of_cell? W _ g5
   simp at this
   omega
  gi_wp2
  exact hK _ _ ((KeepsOthers.alloc _ _).from _) ((Below.refl _ W).alloc (by omega) _) ⟨⟨g1, zva _ g5, zva _ g2, zva _ g3, frozen_alloc_l _ g3 g4⟩, hB1.alloc hB1.size _⟩ ⟨W.heap.size, by omega, World.alloc_heap_new W _, rfl⟩
 case body =>
  rintro l pre ⟨i, told, val, at_⟩ a' W hl _ ⟨⟨g1, g5, g2, g3, g4⟩, hB1⟩ ⟨Bx, hBx, bX, rfl⟩ hlt
  have cx0 : W.cell? ⟨Bx, 0, none⟩ = some (.bool told) := (zg bX 0).trans rfl
  have cx1 : W.cell? ⟨Bx, 1, none⟩ = some (.int .i64 val) := (zg bX 1).trans rfl
  have cx2 : W.cell? ⟨Bx, 2, none⟩ = some (.int .i64 at_) := (zg bX 2).trans rfl
  have HB := Lib.hid hB1
  have HG := Lib.hid g1
  clear hB1 g1
  have hu : undef = Value.tuple #[] := rfl
  cases told
  all_goals gi_wp2
  all_goals first
   | exact ⟨(KeepsOthers.setCell _ _ _).from _, ⟨rfl, NotOk.snoc (by first | (simp [srcB]; omega) | (simp_all [srcB]; done) | (simp_all [srcB]; omega)), World.cell?_setCell_same' _ _ _ (by rw [g3]; rfl)⟩, HB.out.setCell (p := ⟨w.heap.size + 1, 0, none⟩) (by simp) _⟩
   | exact ⟨(KeepsOthers.refl _).from _, Below.refl _ _, ⟨HG.out.snoc (by first | (simp [srcB]; omega) | (simp_all [srcB]; done) | (simp_all [srcB]; omega)), g5, g2, g3, g4⟩, HB.out⟩
   | trace_state
 case done =>
  rintro D zs W hD rfl ⟨⟨g1, g5, g2, g3, g4⟩, hB⟩ hK
  gi_wp2
  have hK' := (KeepsOthers.setCell W ⟨w.heap.size + 1, 0, none⟩ (.bool true)).same D _ hK rfl
  refine ⟨by simp, .inl ⟨_, _, rfl, run_takeDeferred hK', ?_⟩⟩
  have hc5 := cell_kept (World.cell?_setCell_same' W ⟨w.heap.size + 1, 0, none⟩ (.bool true) (by rw [g3]; rfl)) (grownBy_putObj' _ D (.deferred none)) (fun r e => by cases e; exact ⟨_, hK', rfl⟩)
  refine ⟨.bool true, ?_, by rw [show vals d = numbered 0 d.f0 ++ numbered d.f0.length d.f1 from rfl, show (numbered 0 d.f0 ++ numbered d.f0.length d.f1).all (srcB d.f0.length) = true from g1], (hB.setCell (p := ⟨w.heap.size + 1, 0, none⟩) (by simp) _).trans (belowK_b (w := w) (Nat.le_refl _) _ D _ _ (by omega) hK' rfl rfl)⟩
  simp [results, Tryz.f123, go_sem, hc5]
 case stop =>
  rintro D c pre W hD hpre ⟨⟨rfl, g1, g2⟩, hB⟩ hK
  gi_wp2
  refine ⟨by simp, .inl ⟨_, _, rfl, run_takeDeferred hK, ?_⟩⟩
  have hc5 := cell_kept g2 (grownBy_putObj' _ D (.deferred none)) (fun r e => by cases e; exact ⟨_, hK, rfl⟩)
  have hall : (vals d).all (srcB d.f0.length) = false := by
   cases h : (vals d).all (srcB d.f0.length) with
   | false => rfl
   | true =>
    have : pre.all (srcB d.f0.length) = true := by
     rw [List.all_eq_true] at h ⊢
     exact fun x hx => h x (hpre.subset hx)
    unfold NotOk at g1
    rw [this] at g1
    cases g1
  refine ⟨.bool false, ?_, by rw [hall], hB.trans (belowK_b (w := w) (Nat.le_refl _) W D _ _ (by omega) hK rfl rfl)⟩
  simp [results, Tryz.f123, go_sem, hc5]
def deps_May.f (l0 l1 : List S70) (a : Int) : Option Bool := some (depMay ⟨l0, l1, a⟩)
theorem deps_May.calls (A0 : Option Addr) (c0 : Nat) (l0 : List S70) (A1 : Option Addr) (c1 : Nat) (l1 : List S70) (a : Int) (r : Bool) (w : World) (hr0 : Kd.C k70 w A0 l0.length l0) (hc0 : l0.length ≤ c0) (hr1 : Kd.C k70 w A1 l1.length l1) (hc1 : l1.length ≤ c1) (h : deps_May.f l0 l1 a = some r) :
  Calls Tryz.prog 123 #[.agg #[.slice A0 l0.length c0, .slice A1 l1.length c1, .int .i64 a]] w fun e w' => e = .returned (.bool r) ∧ Below w.heap.size w w' := by
 unfold deps_May.f at h
 injection h with h
 subst h
 cases hp : depPre ⟨l0, l1, a⟩ with
 | false =>
  have e : depMay ⟨l0, l1, a⟩ = false := by unfold depMay; rw [hp]; rfl
  rw [e]
  exact may_no A0 A1 c0 c1 ⟨l0, l1, a⟩ w hp
 | true =>
  have e : depMay ⟨l0, l1, a⟩ = (vals ⟨l0, l1, a⟩).all (srcB (l0.length : Int)) := by unfold depMay; rw [hp]; rfl
  rw [e]
  exact calls_of_every_depth (L := [123, 149, 173]) (n := 8) fun D => may_go _ 8 (show (123 : Nat) ∈ [123, 149, 173] by decide) (show (149 : Nat) ∈ [123, 149, 173] by decide) (show (173 : Nat) ∈ [123, 149, 173] by decide) rfl (by omega) A0 A1 c0 c1 ⟨l0, l1, a⟩ w hp hr0 hr1
end Go.Proofs.YtfondhcppjkchaaGreat.Q
