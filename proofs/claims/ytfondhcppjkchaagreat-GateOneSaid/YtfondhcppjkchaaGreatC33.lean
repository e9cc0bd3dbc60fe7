import Derived.Test.YtfondhcppjkchaaGreatC32
import Derived.Test.YtfondhcppjkchaaGreatC12
import Derived.IntWalk
import Derived.RegionIn
set_option maxHeartbeats 40000000
set_option maxRecDepth 100000
set_option linter.unusedVariables false
set_option linter.unusedSimpArgs false
namespace Go.Proofs.YtfondhcppjkchaaGreat.Q
open Go.RowKit Go.Shelf Go.Proofs.YtfondhcppjkchaaGreatW.PrintWords Go.Proofs.YtfondhcppjkchaaGreatW.PrintLast
attribute [local go_sem] Oper.semAt_some
def wordB (l0 l1 : List Int) : Bool := decide (1 ≤ l1.length ∧ l1.length ≤ 4096 ∧ l0.length ≤ 4096)
theorem may51_in (F : Fence) (n : Nat) (h51 : F.fn 51) (hro : F.round = none) (A0 A1 : Option Addr) (c0 c1 : Nat) (l0 l1 : List Int) (w : World) :
  CallsIn F n Tryz.prog 51 #[.agg #[.slice A0 l0.length c0, .slice A1 l1.length c1]] w fun e w' => e = .returned (.bool (wordB l0 l1)) ∧ w' = w.alloc (.cells #[.slice A0 l0.length c0, .slice A1 l1.length c1] 27) := by
 have hu : undef = Value.tuple #[] := rfl
 have hb : wordB l0 l1 = (decide (1 ≤ l1.length) && decide (l1.length ≤ 4096) && decide (l0.length ≤ 4096)) := by unfold wordB; simp [Bool.decide_and, Bool.and_assoc]
 rw [hb]
 clear hb
 refine callsIn_of_wp Tryz.func51 rfl h51 ?_ hro
 simp only [Tryz.ntmps51, List.size_toArray, List.length_cons, List.length_nil, Nat.reduceAdd, Nat.reduceSub, Array.replicate_succ, Array.replicate_zero, List.push_toArray, List.append_toArray, List.nil_append, List.cons_append]
 gi_wp2
 all_goals (go_ret; refine ⟨?_, rfl⟩; congr 2)
 all_goals (show Value.bool _ = Value.bool _; congr 1; rw [Bool.eq_iff_iff]; simp; omega)
theorem all113_in (F : Fence) (n : Nat) (h113 : F.fn 113) (hro : F.round = none) (v0 v1 : Value) (h0 : v0.oneCell' = true) (h1 : v1.oneCell' = true) (w : World) :
  CallsIn F n Tryz.prog 113 #[.agg #[v0, v1]] w fun e w' => e = .returned (.func (.func 146) #[] #[.pointer (some ⟨w.heap.size, 0, none⟩)]) ∧ w' = w.alloc (.cells #[v0, v1] 27) := by
 refine callsIn_of_wp Tryz.func113 rfl h113 ?_ hro
 simp only [Tryz.ntmps113, List.size_toArray, List.length_cons, List.length_nil, Nat.reduceAdd, Nat.reduceSub, Array.replicate_succ, Array.replicate_zero, List.push_toArray, List.append_toArray, List.nil_append, List.cons_append]
 gi_wp2
 go_ret
 exact ⟨rfl, rfl⟩
theorem wpIn_ex {F : Fence} {n : Nat} {P : Program} {c : Code} {Q : Exit → Act → World → Prop} {a : Act} {w : World} (A : Act) (I : World → Prop) (h : c.wpIn F n P (fun e a w => match e with | .normal => a = A ∧ I w | _ => False) a w) (hq : ∀ W, I W → Q .normal A W) : c.wpIn F n P Q a w :=
 wpIn_mono h (fun e a w q => by
  cases e with
  | normal => obtain ⟨rfl, q⟩ := q; exact hq _ q
  | _ => exact q.elim)
structure BndAt (w : World) (A0 A1 : Option Addr) (c0 c1 : Nat) (l0 l1 : List Int) (s : Int × Int) (W : World) : Prop where
 z0 : W.cell? ⟨w.heap.size, 0, none⟩ = some (.slice A0 l0.length c0)
 z1 : W.cell? ⟨w.heap.size, 1, none⟩ = some (.slice A1 l1.length c1)
 r2 : W.cell? ⟨w.heap.size + 1, 0, none⟩ = some (.int .i64 s.1)
 r3 : W.cell? ⟨w.heap.size + 2, 0, none⟩ = some (.int .i64 s.2)
 f2 : W.frozen? ⟨w.heap.size + 1, 0, none⟩ = false
 f3 : W.frozen? ⟨w.heap.size + 2, 0, none⟩ = false
 sz : w.heap.size + 3 ≤ W.heap.size
 bel : Below w.heap.size w W
def mn (x y : Int) : Int := if y < x then y else x
def bndStep (s : Int × Int) (x : Int) : Int × Int := (mn s.1 x, mx s.2 x)
def bndL (v : Int) (pre : List Int) : Int × Int := pre.foldl bndStep (v, v)
theorem bndL_snoc (v : Int) (pre : List Int) (x : Int) : bndL v (pre ++ [x]) = (mn (bndL v pre).1 x, mx (bndL v pre).2 x) := by
 unfold bndL; rw [List.foldl_append]; rfl
def bndS (l0 l1 : List Int) : Int × Int := bndL (rd l1 0) (l0 ++ l1)
structure RngMid (w : World) (S : Nat) (A0 A1 : Option Addr) (c0 c1 : Nat) (l0 l1 : List Int) (s : Int × Int) (v : Int) (W : World) : Prop where
 r2 : W.cell? ⟨w.heap.size + 1, 0, none⟩ = some (.int .i64 s.1)
 r3 : W.cell? ⟨w.heap.size + 2, 0, none⟩ = some (.int .i64 s.2)
 f2 : W.frozen? ⟨w.heap.size + 1, 0, none⟩ = false
 f3 : W.frozen? ⟨w.heap.size + 2, 0, none⟩ = false
 lf : W.cell? ⟨S, 0, none⟩ = some (.int .i64 v)
 ff : W.frozen? ⟨S, 0, none⟩ = false
 b0 : W.cell? ⟨S + 1, 0, none⟩ = some (.slice A0 l0.length c0)
 b1 : W.cell? ⟨S + 1, 1, none⟩ = some (.slice A1 l1.length c1)
 hS : w.heap.size + 3 ≤ S
 bel : Below w.heap.size w W
def RngAt (w : World) (S : Nat) (A0 A1 : Option Addr) (c0 c1 : Nat) (l0 l1 : List Int) (pre : List Int) (W : World) : Prop :=
 RngMid w S A0 A1 c0 c1 l0 l1 (bndL (rd l1 0) pre) ((l0.length : Int) + l1.length - pre.length) W ∧ pre.length ≤ l0.length + l1.length
structure RngEnd (w : World) (l1 : List Int) (pre : List Int) (W : World) : Prop where
 r2 : W.cell? ⟨w.heap.size + 1, 0, none⟩ = some (.int .i64 (bndL (rd l1 0) pre).1)
 r3 : W.cell? ⟨w.heap.size + 2, 0, none⟩ = some (.int .i64 (bndL (rd l1 0) pre).2)
 f2 : W.frozen? ⟨w.heap.size + 1, 0, none⟩ = false
 f3 : W.frozen? ⟨w.heap.size + 2, 0, none⟩ = false
 bel : Below w.heap.size w W
theorem RngMid.far {w : World} {S : Nat} {A0 A1 : Option Addr} {c0 c1 : Nat} {l0 l1 : List Int} {s : Int × Int} {v : Int} {W : World} (h : RngMid w S A0 A1 c0 c1 l0 l1 s v W) (a : Addr) (x : Value) (ha : a.block = w.heap.size + 1 ∨ a.block = w.heap.size + 2) :
  (W.setCell a x).cell? ⟨S, 0, none⟩ = some (.int .i64 v) ∧ (W.setCell a x).frozen? ⟨S, 0, none⟩ = false ∧ (W.setCell a x).cell? ⟨S + 1, 0, none⟩ = some (.slice A0 l0.length c0) ∧ (W.setCell a x).cell? ⟨S + 1, 1, none⟩ = some (.slice A1 l1.length c1) ∧ Below w.heap.size w (W.setCell a x) := by
 have hS := h.hS
 exact ⟨(World.cell?_setCell_far _ _ _ _ (by simp; omega)).trans h.lf, (World.frozen?_setCell _ _ _ _).trans h.ff, (World.cell?_setCell_far _ _ _ _ (by simp; omega)).trans h.b0, (World.cell?_setCell_far _ _ _ _ (by simp; omega)).trans h.b1, h.bel.setCell (by omega) _⟩
theorem RngMid.put2 {w : World} {S : Nat} {A0 A1 : Option Addr} {c0 c1 : Nat} {l0 l1 : List Int} {s : Int × Int} {v : Int} {W : World} (h : RngMid w S A0 A1 c0 c1 l0 l1 s v W) (a : Int) :
  RngMid w S A0 A1 c0 c1 l0 l1 (a, s.2) v (W.setCell ⟨w.heap.size + 1, 0, none⟩ (.int .i64 a)) := by
 obtain ⟨q1, q2, q3, q4, q5⟩ := h.far ⟨w.heap.size + 1, 0, none⟩ (.int .i64 a) (.inl rfl)
 exact ⟨World.cell?_setCell_same _ _ _ h.r2, (World.cell?_setCell_far _ _ _ _ (by simp)).trans h.r3, (World.frozen?_setCell _ _ _ _).trans h.f2, (World.frozen?_setCell _ _ _ _).trans h.f3, q1, q2, q3, q4, h.hS, q5⟩
theorem RngMid.put3 {w : World} {S : Nat} {A0 A1 : Option Addr} {c0 c1 : Nat} {l0 l1 : List Int} {s : Int × Int} {v : Int} {W : World} (h : RngMid w S A0 A1 c0 c1 l0 l1 s v W) (a : Int) :
  RngMid w S A0 A1 c0 c1 l0 l1 (s.1, a) v (W.setCell ⟨w.heap.size + 1 + 1, 0, none⟩ (.int .i64 a)) := by
 obtain ⟨q1, q2, q3, q4, q5⟩ := h.far ⟨w.heap.size + 1 + 1, 0, none⟩ (.int .i64 a) (.inr rfl)
 exact ⟨(World.cell?_setCell_far _ _ _ _ (by simp)).trans h.r2, World.cell?_setCell_same _ _ _ h.r3, (World.frozen?_setCell _ _ _ _).trans h.f2, (World.frozen?_setCell _ _ _ _).trans h.f3, q1, q2, q3, q4, h.hS, q5⟩
theorem RngMid.putS {w : World} {S : Nat} {A0 A1 : Option Addr} {c0 c1 : Nat} {l0 l1 : List Int} {s : Int × Int} {v : Int} {W : World} (h : RngMid w S A0 A1 c0 c1 l0 l1 s v W) (a : Int) :
  RngMid w S A0 A1 c0 c1 l0 l1 s a (W.setCell ⟨S, 0, none⟩ (.int .i64 a)) := by
 have hS := h.hS
 exact ⟨(World.cell?_setCell_far _ _ _ _ (by simp; omega)).trans h.r2, (World.cell?_setCell_far _ _ _ _ (by simp; omega)).trans h.r3, (World.frozen?_setCell _ _ _ _).trans h.f2, (World.frozen?_setCell _ _ _ _).trans h.f3, World.cell?_setCell_same _ _ _ h.lf, (World.frozen?_setCell _ _ _ _).trans h.ff, (World.cell?_setCell_far _ _ _ _ (by simp)).trans h.b0, (World.cell?_setCell_far _ _ _ _ (by simp)).trans h.b1, h.hS, h.bel.setCell (by simp; omega) _⟩
theorem RngMid.drew {w : World} {S : Nat} {A0 A1 : Option Addr} {c0 c1 : Nat} {l0 l1 : List Int} {s : Int × Int} {v : Int} {W : World} (h : RngMid w S A0 A1 c0 c1 l0 l1 s v W) :
  RngMid w S A0 A1 c0 c1 l0 l1 s v W.drew := ⟨h.r2, h.r3, h.f2, h.f3, h.lf, h.ff, h.b0, h.b1, h.hS, h.bel.drew⟩
theorem keepsFrom_drew (B : Nat) (W : World) : KeepsFrom B W W.drew := ⟨Nat.le_refl _, fun _ _ _ h _ => h⟩
theorem RngEnd.again {w : World} {l1 pre : List Int} {W : World} (h : RngEnd w l1 pre W) : RngEnd w l1 pre (((W.setCell ⟨w.heap.size + 1, 0, none⟩ (.int .i64 (bndL (rd l1 0) pre).1)).setCell ⟨w.heap.size + 1 + 1, 0, none⟩ (.int .i64 (bndL (rd l1 0) pre).2)).drew) := by
 have r3 := (World.cell?_setCell_far W ⟨w.heap.size + 1, 0, none⟩ ⟨w.heap.size + 2, 0, none⟩ (.int .i64 (bndL (rd l1 0) pre).1) (by simp)).trans h.r3
 exact ⟨(World.cell?_setCell_far _ _ _ _ (by simp)).trans (World.cell?_setCell_same _ _ _ h.r2), World.cell?_setCell_same _ _ _ r3, ((World.frozen?_setCell _ _ _ _).trans (World.frozen?_setCell _ _ _ _)).trans h.f2, ((World.frozen?_setCell _ _ _ _).trans (World.frozen?_setCell _ _ _ _)).trans h.f3, ((h.bel.setCell (by simp) _).setCell (by simp; omega) _).drew⟩
theorem bounds_go (F : Fence) (n : Nat) (h73 : F.fn 73) (h51 : F.fn 51) (h113 : F.fn 113) (h146 : F.fn 146) (hro : F.round = none) (hn : 6 ≤ n) (A0 A1 : Option Addr) (c0 c1 : Nat) (l0 l1 : List Int) (w : World) (hp : wordB l0 l1 = true)
  (hc0 : Kd.C (Kd.int .i64) w A0 l0.length l0) (hc1 : Kd.C (Kd.int .i64) w A1 l1.length l1) :
  CallsIn F n Tryz.prog 73 #[.agg #[.slice A0 l0.length c0, .slice A1 l1.length c1]] w fun e W' => e = .returned (.tuple #[.int .i64 (bndS l0 l1).1, .int .i64 (bndS l0 l1).2, .int .i64 0]) ∧ Below w.heap.size w W' := by
 have hM := fun W => may51_in F (n - 1) h51 hro A0 A1 c0 c1 l0 l1 W
 rw [hp] at hM
 obtain ⟨p1, p2, p3⟩ : 1 ≤ l1.length ∧ l1.length ≤ 4096 ∧ l0.length ≤ 4096 := by simpa [wordB] using hp
 clear hp
 have h1 : 1 ≤ n := by omega
 have hp0 : (0 : Int) < l1.length := by omega
 obtain ⟨ad, rfl, hx0⟩ := Kd.zya hc1 0 (by omega) hp0
 rw [show (0 : Int).toNat = 0 from rfl, addr_add0] at hx0
 have h0' := eq_true hp0
 have hw : IntKind.i64.wrap ((l0.length : Int) + l1.length) = (l0.length : Int) + l1.length := IntWalk.i64_in _ ⟨by omega, by omega⟩
 have hadl := World.block_lt_of_cell? w _ hx0
 refine callsIn_of_wp_marks Tryz.func73 rfl h73 ?_ hro
 simp only [Tryz.ntmps73, List.size_toArray, List.length_cons, List.length_nil, Nat.reduceAdd, Nat.reduceSub, Array.replicate_succ, Array.replicate_zero, List.push_toArray, List.append_toArray, List.nil_append, List.cons_append]
 gi_wp2_with (first | (gi_at_call 51; refine (hM _).mono ?_; rintro e w' ⟨rfl, rfl⟩) | (gi_at_call 113; refine (all113_in F (n - 1) h113 hro _ _ rfl rfl _).mono ?_; rintro e w' ⟨rfl, rfl⟩))
 have hAA : ∀ W, W = ((((w.alloc (.cells #[.slice A0 l0.length c0, .slice (some ad) l1.length c1] 27)).alloc (.cells #[.int .i64 0] 2)).alloc (.cells #[.int .i64 0] 2)).alloc (.cells #[.slice A0 l0.length c0, .slice (some ad) l1.length c1] 27)) → BndAt w A0 (some ad) c0 c1 l0 l1 (0, 0) W ∧ W.cell? ad = some (.int .i64 (rd l1 0)) := by
  rintro W rfl
  have hb : Below w.heap.size w ((((w.alloc (.cells #[.slice A0 l0.length c0, .slice (some ad) l1.length c1] 27)).alloc (.cells #[.int .i64 0] 2)).alloc (.cells #[.int .i64 0] 2)).alloc (.cells #[.slice A0 l0.length c0, .slice (some ad) l1.length c1] 27)) := ((((Below.refl _ w).alloc (Nat.le_refl _) _).alloc (by simp) _).alloc (by simp; omega) _).alloc (by simp; omega) _
  exact ⟨⟨by simp [go_sem], by simp [go_sem], by simp [go_sem], by simp [go_sem], by simp [go_sem], by simp [go_sem], by simp, hb⟩, (hb.cell (p := ad) hadl).trans hx0⟩
 obtain ⟨hA, hxa⟩ := hAA _ rfl
 clear hAA
 generalize ((((w.alloc (.cells #[.slice A0 l0.length c0, .slice (some ad) l1.length c1] 27)).alloc (.cells #[.int .i64 0] 2)).alloc (.cells #[.int .i64 0] 2)).alloc (.cells #[.slice A0 l0.length c0, .slice (some ad) l1.length c1] 27)) = W0 at hA hxa ⊢
 have z0 := hA.z0
 have z1 := hA.z1
 have r2 := hA.r2
 have r3 := hA.r3
 have f2 := hA.f2
 have f3 := hA.f3
 have hn1 : (⟨w.heap.size + 1, 0, none⟩ : Addr) ≠ ad := fun e => by rw [← e] at hadl; simp at hadl; omega
 have hn2 : (⟨w.heap.size + 2, 0, none⟩ : Addr) ≠ ad := fun e => by rw [← e] at hadl; simp at hadl; omega
 have HA := Lib.hid hA
 have HC0 := Lib.hid hc0
 have HC1 := Lib.hid hc1
 clear hA hc0 hc1 hx0
 apply wpIn_ex (A := { tmps := #[.agg #[.slice A0 l0.length c0, .slice (some ad) l1.length c1], .pointer (some ⟨w.heap.size, 0, none⟩), .pointer (some ⟨w.heap.size + 1, 0, none⟩), .pointer (some ⟨w.heap.size + 1 + 1, 0, none⟩), .int .i64 0, undef, undef, .agg #[.slice A0 l0.length c0, .slice (some ad) l1.length c1], .bool true, .bool false, .pointer (some ⟨w.heap.size, 1, none⟩), .slice (some ad) l1.length c1, .pointer (some ad), .int .i64 (rd l1 0), .pointer (some ⟨w.heap.size, 1, none⟩), .slice (some ad) l1.length c1, .pointer (some ad), .int .i64 (rd l1 0), undef, undef, undef, undef, undef, undef, undef, undef, undef, undef, undef, undef, undef, undef, undef, undef, undef, undef, undef, undef, undef, undef], defers := [] }) (I := BndAt w A0 (some ad) c0 c1 l0 l1 (rd l1 0, rd l1 0))
 ·gi_region
  all_goals exact ⟨rfl, by simp [go_sem, *], by simp [go_sem, *], by simp [go_sem, *], by simp [go_sem, *], by simp [go_sem, *], by simp [go_sem, *], by simp; exact HA.out.sz, ((HA.out.bel.setCell (by simp) _).setCell (by simp; omega) _).drew⟩
 ·intro W hA
  clear z0 z1 r2 r3 f2 f3 hxa hn1 hn2 HA
  have z0 := hA.z0
  have z1 := hA.z1
  have hsz := hA.sz
  have hlt0 : w.heap.size < W.heap.size := by omega
  have HA := Lib.hid hA
  clear hA
  gi_wp2_with (gi_at_call 113; refine (all113_in F (n - 1) h113 hro _ _ rfl rfl _).mono ?_; rintro e w' ⟨rfl, rfl⟩)
  have hR0 : RngAt w W.heap.size A0 (some ad) c0 c1 l0 l1 [] ((W.alloc (.cells #[.int .i64 ((l0.length : Int) + l1.length)] 3)).alloc (.cells #[.slice A0 l0.length c0, .slice (some ad) l1.length c1] 27)) := by
   have hb : Below w.heap.size w ((W.alloc (.cells #[.int .i64 ((l0.length : Int) + l1.length)] 3)).alloc (.cells #[.slice A0 l0.length c0, .slice (some ad) l1.length c1] 27)) := (HA.out.bel.alloc (by omega) _).alloc (by simp; omega) _
   have q2 := zva (.cells #[.slice A0 l0.length c0, .slice (some ad) l1.length c1] 27) (zva (.cells #[.int .i64 ((l0.length : Int) + l1.length)] 3) HA.out.r2)
   have q3 := zva (.cells #[.slice A0 l0.length c0, .slice (some ad) l1.length c1] 27) (zva (.cells #[.int .i64 ((l0.length : Int) + l1.length)] 3) HA.out.r3)
   have g2 := frozen_alloc_l (.cells #[.slice A0 l0.length c0, .slice (some ad) l1.length c1] 27) (zva (.cells #[.int .i64 ((l0.length : Int) + l1.length)] 3) HA.out.r2) (frozen_alloc_l (.cells #[.int .i64 ((l0.length : Int) + l1.length)] 3) HA.out.r2 HA.out.f2)
   have g3 := frozen_alloc_l (.cells #[.slice A0 l0.length c0, .slice (some ad) l1.length c1] 27) (zva (.cells #[.int .i64 ((l0.length : Int) + l1.length)] 3) HA.out.r3) (frozen_alloc_l (.cells #[.int .i64 ((l0.length : Int) + l1.length)] 3) HA.out.r3 HA.out.f3)
   exact ⟨⟨q2, q3, g2, g3, by simp [go_sem], by simp [go_sem], by simp [go_sem], by simp [go_sem], hsz, hb⟩, by simp⟩
  generalize hS : W.heap.size = S at hR0 hsz ⊢
  generalize ((W.alloc (.cells #[.int .i64 ((l0.length : Int) + l1.length)] 3)).alloc (.cells #[.slice A0 l0.length c0, .slice (some ad) l1.length c1] 27)) = W1 at hR0 ⊢
  clear hS z0 z1 hlt0 HA
  refine wp_range_upto hro h1 (gf := 146) (lb := #[.pointer (some ⟨S + 1, 0, none⟩)]) rfl h146 (enters_of Tryz.func146 (by kernel_rfl) rfl) (fun x => #[.int .i64 x]) (fun _ => rfl) (l0.length + l1.length) 0 (l0 ++ l1)
   (RngAt w S A0 (some ad) c0 c1 l0 l1) (RngEnd w l1) ?hI ?hIx hR0 ?hseq (fun x => { tmps := #[.agg #[.slice A0 l0.length c0, .slice (some ad) l1.length c1], .pointer (some ⟨w.heap.size, 0, none⟩), .pointer (some ⟨w.heap.size + 1, 0, none⟩), .pointer (some ⟨w.heap.size + 1 + 1, 0, none⟩), .int .i64 0, .pointer (some ⟨S, 0, none⟩), .int .i64 x, .agg #[.slice A0 l0.length c0, .slice (some ad) l1.length c1], .bool true, .bool false, .pointer (some ⟨w.heap.size, 1, none⟩), .slice (some ad) l1.length c1, .pointer (some ad), .int .i64 (rd l1 0), .pointer (some ⟨w.heap.size, 1, none⟩), .slice (some ad) l1.length c1, .pointer (some ad), .int .i64 (rd l1 0), .pointer (some ⟨w.heap.size, 0, none⟩), .slice A0 l0.length c0, .int .i64 l0.length, .pointer (some ⟨w.heap.size, 1, none⟩), .slice (some ad) l1.length c1, .int .i64 l1.length, .int .i64 ((l0.length : Int) + l1.length), .agg #[.slice A0 l0.length c0, .slice (some ad) l1.length c1], .func (.func 146) #[] #[.pointer (some ⟨S + 1, 0, none⟩)], .int .i64 x, undef, undef, undef, undef, undef, undef, undef, undef, undef, undef, undef, undef], defers := [] }) ?assign ?body ?stop
  case hI =>
   intro pre X Y row hs hg hr
   have hr' := fun r e => (hr r e).2
   obtain ⟨hs, hlen⟩ := hs
   exact ⟨⟨cell_kept hs.r2 hg hr', cell_kept hs.r3 hg hr', (frozen_kept hs.r2 hg hr').trans hs.f2, (frozen_kept hs.r3 hg hr').trans hs.f3, cell_kept hs.lf hg hr', (frozen_kept hs.lf hg hr').trans hs.ff, cell_kept hs.b0 hg hr', cell_kept hs.b1 hg hr', hs.hS, ownFrom_below (β := Unit) (Nat.le_refl _) hR0.1.bel.size () X Y row hs.bel hg hr⟩, hlen⟩
  case hIx =>
   intro pre X Y row hs hg hr
   have hr' := fun r e => (hr r e).2
   exact ⟨cell_kept hs.r2 hg hr', cell_kept hs.r3 hg hr', (frozen_kept hs.r2 hg hr').trans hs.f2, (frozen_kept hs.r3 hg hr').trans hs.f3, ownFrom_below (β := Unit) (Nat.le_refl _) hR0.1.bel.size () X Y row hs.bel hg hr⟩
  case hseq =>
   intro l J Jx W' hJ hY hJ0
   exact all1_in F (n - 1) h146 hro (by omega) l (S + 1) A0 (some ad) c0 c1 l0 l1 J Jx (fun pre W2 hj => ⟨(hJ pre W2 hj).2, (hJ pre W2 hj).1.b0, (hJ pre W2 hj).1.b1, Kd.zu HC0.out (hJ pre W2 hj).1.bel, Kd.zu HC1.out (hJ pre W2 hj).1.bel⟩) hY W' p1 p3 p2 hJ0
  case assign =>
   intro l x W' K hK
   gi_wp2
   exact hK
  case body =>
   intro l pre x W' hR
   have hbs := bndL_snoc (rd l1 0) pre x
   obtain ⟨hm, hlen⟩ := hR
   have lf := hm.lf
   by_cases hv : pre.length = l0.length + l1.length
   ·rw [show (l0.length : Int) + l1.length - pre.length = 0 by omega] at lf
    gi_wp2
    exact ⟨rfl, KeepsFrom.refl _ _, hv, hm.r2, hm.r3, hm.f2, hm.f3, hm.bel⟩
   ·obtain ⟨v, hvv⟩ : ∃ v, (l0.length : Int) + l1.length - pre.length = v := ⟨_, rfl⟩
    have hwv : IntKind.i64.wrap (v - 1) = v - 1 := IntWalk.i64_in _ ⟨by omega, by omega⟩
    have hne : (v == 0) = false := by simp; omega
    have hv1 : (l0.length : Int) + l1.length - ((pre ++ [x]).length : Int) = v - 1 := by simp; omega
    have hlen1 : (pre ++ [x]).length ≤ l0.length + l1.length := by simp; omega
    rw [hvv] at lf hm
    have r2 := hm.r2
    have r3 := hm.r3
    have f2 := hm.f2
    have f3 := hm.f3
    have hmn : (if x < (bndL (rd l1 0) pre).1 then x else (bndL (rd l1 0) pre).1) = mn (bndL (rd l1 0) pre).1 x := rfl
    have hmx : (if (bndL (rd l1 0) pre).2 < x then x else (bndL (rd l1 0) pre).2) = mx (bndL (rd l1 0) pre).2 x := rfl
    have HM := Lib.hid hm
    have HBS := Lib.hid hbs
    have hkS := hm.hS
    clear hm hbs hvv hlen
    generalize bndL (rd l1 0) pre = s at HM HBS r2 r3 hmn hmx
    gi_wp2
    apply wpIn_ex (I := fun W2 => RngMid w S A0 (some ad) c0 c1 l0 l1 (mn s.1 x, mx s.2 x) v W2 ∧ KeepsFrom W1.heap.size W' W2)
    ·gi_region
     all_goals exact ⟨rfl, ((HM.out.put2 _).put3 _).drew, (KeepsFrom.trans ((KeepsOthers.setCell _ _ _).from _) ((KeepsOthers.setCell _ _ _).from _)).trans (keepsFrom_drew _ _)⟩
    ·rintro W2 ⟨hm2, hk2⟩
     clear r2 r3 f2 f3 hmn hmx lf HM
     have lf := hm2.lf
     have ff := hm2.ff
     gi_wp2
     exact ⟨hk2.trans ((KeepsOthers.setCell _ _ _).from _), by rw [HBS.out, hv1]; exact hm2.putS _, hlen1⟩
  case stop =>
   intro D W' hD hE hK
   have r2 := hE.r2
   have r3 := hE.r3
   have f2 := hE.f2
   have f3 := hE.f3
   gi_wp2
   apply wpIn_ex (I := fun W2 => RngEnd w l1 (l0 ++ l1) W2 ∧ W2.heap[D]? = some (.deferred (some [])))
   ·gi_region
    all_goals exact ⟨rfl, hE.again, ((KeepsFrom.trans ((KeepsOthers.setCell _ _ _).from _) ((KeepsOthers.setCell _ _ _).from _)).trans (keepsFrom_drew _ _)).same D _ hD hK rfl⟩
   ·rintro W2 ⟨hE2, hK2⟩
    gi_wp2
    refine ⟨by simp, .inl ⟨_, _, rfl, run_takeDeferred hK2, ?_⟩⟩
    have hc2 := cell_kept hE2.r2 (grownBy_putObj' _ D (.deferred none)) (fun r e => by cases e; exact ⟨_, hK2, rfl⟩)
    have hc3 := cell_kept hE2.r3 (grownBy_putObj' _ D (.deferred none)) (fun r e => by cases e; exact ⟨_, hK2, rfl⟩)
    refine ⟨.tuple #[.int .i64 (bndS l0 l1).1, .int .i64 (bndS l0 l1).2, .int .i64 0], ?_, ⟨rfl, hE2.bel.trans (belowK_b (w := w) (Nat.le_refl _) W2 D _ _ (by have := hR0.1.bel.size; omega) hK2 rfl rfl)⟩⟩
    simp [results, Tryz.f73, go_sem, hc2, hc3, bndS]
end Go.Proofs.YtfondhcppjkchaaGreat.Q
