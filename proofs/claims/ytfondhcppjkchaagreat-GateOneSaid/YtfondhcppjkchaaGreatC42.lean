import Derived.Test.YtfondhcppjkchaaGreatC3
import Derived.Test.YtfondhcppjkchaaGreatC10
import Derived.RangeFuncNested
import Derived.RangeFuncLeaves
import Derived.RangeFuncBox
import Derived.Shelf.Abstract
import Derived.WalkKit
import Derived.OwnWalkIn
import Derived.TacticsInMore
import Derived.LoopNIn
import Derived.LoopIn
import Derived.Sort.EveryDepth
import Derived.Lib.Hide
import Derived.Test.YtfondhcppjkchaaGreatC22
import Derived.Lib.SlicesCompact
import Derived.Lib.BitFns
import Derived.Sort.AssemblyPlain
set_option maxHeartbeats 40000000
set_option maxRecDepth 100000
set_option linter.unusedVariables false
set_option linter.unusedSimpArgs false
namespace Go.Proofs.YtfondhcppjkchaaGreat.Q
noncomputable section
open Go.RowKit Go.Proofs.YtfondhcppjkchaaGreatW.PrintWords Go.Proofs.YtfondhcppjkchaaGreatW.PrintLast Go.Proofs.YtfondhcppjkchaaGreatW.PrintMore
attribute [local go_sem] max2_int min2_int max_two min_two max_three min_three max_four min_four
def demand_May.f (l0 : List (S61)) : Option (Bool) := if (l0.length : Int) ≤ 4096 then ((containsBad.f l0).bind fun t658 => (some (!t658))) else (some false)
theorem demand_May.calls (A0 : Option Addr) (c0 : Nat) (l0 : List (S61)) (r : Bool) (w : World) (hr0 : Kd.C k61 w A0 l0.length l0) (hc0 : l0.length ≤ c0) (h : demand_May.f l0 = some r) :
  Calls Tryz.prog 67 #[.slice A0 l0.length c0] w fun e w' => e = .returned (.bool r) ∧ Below w.heap.size w w' := by
 have HR0 := zb.mk hr0
 have HC0 := zb.mk hc0
 clear hr0 hc0
 have HB := zb.mk (Below.refl w.heap.size w)
 have H : (if (l0.length : Int) ≤ 4096 then ((containsBad.f l0).bind fun t658 => (some (!t658))) else (some false)) = some r := h
 clear h
 by_cases c2 : (l0.length : Int) ≤ 4096
 ·rw [if_pos c2] at H
  have c2b0 : decide ((l0.length : Int) ≤ 4096) = true := decide_eq_true c2
  have c2b1 : decide (l0.length ≤ 4096) = true := decide_eq_true (by omega)
  clear c2
  replace H := Option.bind_eq_some_iff.mp H
  obtain ⟨t658, A30, H⟩ := H
  replace H : (some (!t658)) = some r := H
  have A3 := zb.mk A30
  clear A30
  obtain rfl := Option.some.inj H
  go_enter Tryz.func67, Tryz.ntmps67
  go_wp2_with (first | (go_at_call 103; (with_reducible refine (containsBad.calls _ _ l0 t658 _ ?side1 ?side2 A3.out).mono ?_); (case side1 => repeat (first | exact HR0.out | (with_reducible refine Kd.zea ?_ _) | (with_reducible refine Kd.zfa ?_ _) | (with_reducible refine Kd.zia ?_))); (case side2 => exact HC0.out); rintro e w4 ⟨rfl, hb⟩; have n0_ := zb.mk (zo (by repeat with_reducible first | exact HB.out | apply zd | apply za | apply ze) hb); clear HB; have HB := n0_; clear n0_; (try clear hb)))
  go_ret
  exact ⟨by first | rfl | (simp [zp, zq] <;> rfl) | (simp [*, zp, zq] <;> rfl), by repeat with_reducible first | exact HB.out | apply zd | apply za | apply ze⟩
 ·rw [if_neg c2] at H
  have c2b0 : decide ((l0.length : Int) ≤ 4096) = false := decide_eq_false c2
  have c2b1 : decide (l0.length ≤ 4096) = false := decide_eq_false (by omega)
  clear c2
  obtain rfl := Option.some.inj H
  go_enter Tryz.func67, Tryz.ntmps67
  go_wp2
  go_ret
  exact ⟨by first | rfl | (simp [zp, zq] <;> rfl) | (simp [*, zp, zq] <;> rfl), by repeat with_reducible first | exact HB.out | apply zd | apply za | apply ze⟩
end
end Go.Proofs.YtfondhcppjkchaaGreat.Q
namespace Go.Proofs.YtfondhcppjkchaaGreat.Q.Mw
open Go.RowKit Go.Shelf Go.Proofs.YtfondhcppjkchaaGreatW.PrintWords Go.Proofs.YtfondhcppjkchaaGreatW.PrintLast
attribute [local go_sem] Oper.semAt_some
abbrev encW (x : S61) : Array Value := #[.agg #[.int .i64 x.f0, .int .i64 x.f1, .int .i64 x.f2]]
theorem take_one (l : List S61) (x : Int) (h0 : 0 ≤ x) (h : x < l.length) : l.take (x + 1).toNat = l.take x.toNat ++ [zy l x] := by
 have e : (x + 1).toNat = x.toNat + 1 := by omega
 have hl : x.toNat < l.length := by omega
 rw [e, List.take_succ_eq_append_getElem hl]
 unfold zy
 rw [List.getD_eq_getElem?_getD, List.getElem?_eq_getElem hl]
 rfl
theorem blk_add (a : Addr) (n : Nat) : (a.add n).block = a.block := by unfold Addr.add; split <;> rfl
theorem at_T61b {w w1 : World} {B : Nat} {A : Option Addr} {xs : List S61} (h : Kd.C k61 w A xs.length xs) (hb : Below B w w1) (hA : ∀ ad, A = some ad → 0 < xs.length → ad.block < B) (i : Int) (h0 : 0 ≤ i) (h1 : i < xs.length) :
  ∃ ad , A = some ad ∧ w1.cell? (ad.add (i.toNat * 3)) = some (.int .i64 (zy xs i).f0) ∧ w1.cell? ⟨(ad.add (i.toNat * 3)).block, (ad.add (i.toNat * 3)).off + 1, none⟩ = some (.int .i64 (zy xs i).f1) ∧ w1.cell? ⟨(ad.add (i.toNat * 3)).block, (ad.add (i.toNat * 3)).off + 2, none⟩ = some (.int .i64 (zy xs i).f2) := by
 obtain ⟨ad, rfl, hx0, hx1, hx2⟩ := at_T61 h i h0 h1
 have hab : (ad.add (i.toNat * 3)).block < B := by rw [blk_add]; exact hA ad rfl (by omega)
 exact ⟨ad, rfl, (hb.cell (p := ad.add (i.toNat * 3)) hab).trans hx0, (hb.cell (p := ⟨(ad.add (i.toNat * 3)).block, (ad.add (i.toNat * 3)).off + 1, none⟩) hab).trans hx1, (hb.cell (p := ⟨(ad.add (i.toNat * 3)).block, (ad.add (i.toNat * 3)).off + 2, none⟩) hab).trans hx2⟩
theorem values1_in (F : Fence) (n : Nat) (h107 : F.fn 107) (hro : F.round = none) (hn : 1 ≤ n) (l Bs n₀ : Nat) (A0 : Option Addr) (c0 : Nat) (l0 : List S61) (J Jx : List S61 → World → Prop)
  (hY : ∀ pre x W, J pre W → pre.length < l0.length → YieldAt F (n - 1) Tryz.prog l (encW x) W fun e W' =>
   (e = .returned (.bool true) ∧ J (pre ++ [x]) W' ∧ Below n₀ W W') ∨ (e = .returned (.bool false) ∧ Jx (pre ++ [x]) W'))
  (W : World) (hJ : AbidesFrom W.heap.size J) (hn₀ : n₀ ≤ W.heap.size) (hA : ∀ ad, A0 = some ad → 0 < l0.length → ad.block < n₀)
  (hBs : W.cell? ⟨Bs, 0, none⟩ = some (.slice A0 l0.length c0)) (hc : Kd.C k61 W A0 l0.length l0) (h0 : J [] W) :
  CallsIn F n Tryz.prog 107 #[.func (.yield l) #[] #[], .pointer (some ⟨Bs, 0, none⟩)] W fun e W' => (∃ v, e = .returned v) ∧
   ((∃ ys, ys = l0 ∧ J ys W') ∨ (∃ pre, pre <+: l0 ∧ Jx pre W')) := by
 have hmax : l0.length ≤ 9223372036854775807 := hc.2.1
 refine callsIn_of_wp Tryz.func107 rfl h107 ?_ hro
 simp only [Tryz.ntmps107, List.size_toArray, List.length_cons, List.length_nil, Nat.reduceAdd, Nat.reduceSub, Array.replicate_succ, Array.replicate_zero, List.push_toArray, List.append_toArray, List.nil_append, List.cons_append]
 gi_wp2
 gi_loopw [7] (fun i wr => ∃ x : Int, i = .int .i64 x ∧ 0 ≤ x ∧ x ≤ l0.length ∧ J (l0.take x.toNat) wr ∧ Below n₀ W wr)
  (fun i _ => l0.length - (intOf i).toNat)
 case atStart => exact ⟨0, rfl, by omega, by omega, h0, Below.refl _ _⟩
 case round =>
  obtain ⟨x, rfl, hx, hk, hJs, hnx⟩ := hrel
  by_cases hlt : x < (l0.length : Int)
  ·obtain ⟨ad, rfl, hx0, hx1, hx2⟩ := at_T61b hc hnx hA x hx hlt
   have hsz := hnx.size
   have c := decide_eq_true hlt
   have hJa : J (l0.take x.toNat) (wr.alloc (.cells #[.int .i64 (zy l0 x).f0, .int .i64 (zy l0 x).f1, .int .i64 (zy l0 x).f2] 61)) := hJ _ wr _ none hJs (World.grownBy_alloc wr _ none) (fun r e => by cases e)
   have HJ := Lib.hid hJa
   have HX := Lib.hid (take_one l0 x hx hlt)
   have HB := Lib.hid hnx
   clear hJs hJ hJa hnx
   obtain ⟨fn, tmps, assign, body, hy, hR⟩ := hY _ (zy l0 x) _ HJ.out (by simp; omega)
   have h0' := eq_true hx
   have h1' := eq_true hlt
   gi_wp2
   refine hR.mono ?_
   rintro e W3 (⟨rfl, hJ3, hk3⟩ | ⟨rfl, hJx3⟩)
   ·have HJ3 := Lib.hid hJ3
    have HK3 := Lib.hid hk3
    clear hJ3 hk3
    gi_wp2
    go_roundw
    case rel => exact ⟨x + 1, by go_num, by omega, by omega, by rw [HX.out]; exact HJ3.out, (HB.out.alloc (Nat.le_trans hn₀ hsz) _).trans HK3.out⟩
    case measure => simp [intOf]; omega
   ·have HJ3 := Lib.hid hJx3
    clear hJx3
    gi_wp2
    refine bodyPost_ret (results_none rfl _ _ _) rfl ?_
    exact ⟨⟨_, rfl⟩, .inr ⟨_, by rw [← HX.out]; exact List.take_prefix _ _, HJ3.out⟩⟩
  ·have e : x.toNat = l0.length := by omega
   rw [e, List.take_length] at hJs
   have HJ := Lib.hid hJs
   clear hJs hJ
   gi_wp2
   go_end0
   exact ⟨⟨_, rfl⟩, .inl HJ.out⟩
theorem values_stops (F : Fence) (n : Nat) (h107 : F.fn 107) (hro : F.round = none) (hn : 1 ≤ n) (Bs n₀ : Nat) (A0 : Option Addr) (c0 : Nat) (l0 : List S61) (w : World) (hBs : Bs < w.heap.size) (hn₀ : n₀ ≤ w.heap.size)
  (hA : ∀ ad, A0 = some ad → 0 < l0.length → ad.block < n₀) (hcs : w.cell? ⟨Bs, 0, none⟩ = some (.slice A0 l0.length c0)) (hc : Kd.C k61 w A0 l0.length l0) :
  SeqStopsK F n Tryz.prog 107 #[.pointer (some ⟨Bs, 0, none⟩)] encW (Below n₀) (fun ys => ys = l0) (fun pre => pre <+: l0) l0.length w := fun l J Jx W hW hJ _ hY h0 =>
 values1_in F n h107 hro hn l Bs n₀ A0 c0 l0 J Jx hY W hJ (Nat.le_trans hn₀ hW.size) hA ((hW.cell (p := ⟨Bs, 0, none⟩) hBs).trans hcs) (Kd.zu hc hW) h0
abbrev cellsW (l : List S61) : List Value := l.flatMap fun x => [.int .i64 x.f0, .int .i64 x.f1, .int .i64 x.f2]
theorem cellsW_snoc (l : List S61) (x : S61) : cellsW (l ++ [x]) = cellsW l ++ [.int .i64 x.f0, .int .i64 x.f1, .int .i64 x.f2] := by simp [cellsW]
def HoldsW (n₀ B : Nat) (pre : List S61) (W : World) : Prop := ∃ v, Boxed W B 34 v ∧ W.ownsRow n₀ 61 3 v pre.length (cellsW pre) ∧ True
theorem holdsW_own (n₀ B : Nat) : Own (HoldsW n₀ B) := holdsRow_own n₀ B 34 61 3 (fun pre : List S61 => pre.length) (fun pre => cellsW pre) (fun _ _ => True)
theorem blk_own (B : Nat) (cs : Array Value) (t : TypeId) : Own (fun (_ : Unit) W => W.heap[B]? = some (.cells cs t (0, 0))) := fun s X Y row hs hg hrow =>
 (hg.block B (Array.getElem?_eq_some_iff.1 hs).1 (fun e' => by obtain ⟨o, ho, hc⟩ := hrow B e'.symm; rw [show X.heap[B]? = _ from hs] at ho; cases ho; cases hc)).trans hs
theorem cells3_new (W : World) (a b c : Value) (t : TypeId) : ∀ j u, [a, b, c][j]? = some u → (W.alloc (.cells #[a, b, c] t)).cell? ((⟨W.heap.size, 0, none⟩ : Addr).add j) = some u := by
 intro j u hu
 match j, hu with
 | 0, hu => simp at hu; subst hu; simp [Addr.add]
 | 1, hu => simp at hu; subst hu; simp [Addr.add]
 | 2, hu => simp at hu; subst hu; simp [Addr.add]
 | j + 3, hu => simp at hu
theorem appendSeq_in (F : Fence) (n : Nat) (h141 : F.fn 141) (h107 : F.fn 107) (hro : F.round = none) (hn : 6 ≤ n) (Bs : Nat) (A0 : Option Addr) (c0 : Nat) (l0 : List S61) (w : World) (hBs : Bs < w.heap.size) (hlen : l0.length ≤ 4096)
  (hcs : w.cell? ⟨Bs, 0, none⟩ = some (.slice A0 l0.length c0)) (hc : Kd.C k61 w A0 l0.length l0) (hA : ∀ ad, A0 = some ad → 0 < l0.length → ad.block < w.heap.size) :
  CallsIn F n Tryz.prog 141 #[.slice none 0 0, .func (.func 107) #[] #[.pointer (some ⟨Bs, 0, none⟩)]] w fun e W' => (∃ v, e = .returned v ∧ W'.ownsRow w.heap.size 61 3 v l0.length (cellsW l0)) ∧ Below w.heap.size w W' := by
 have h1 : 1 ≤ n := by omega
 obtain ⟨i0, hi, hz0, hz1, hz2⟩ := info_parts info61
 refine callsIn_of_wp_marks Tryz.func141 rfl h141 ?_ hro
 simp only [Tryz.ntmps141, List.size_toArray, List.length_cons, List.length_nil, Nat.reduceAdd, Nat.reduceSub, Array.replicate_succ, Array.replicate_zero, List.push_toArray, List.append_toArray, List.nil_append, List.cons_append]
 gi_wp2
 have bS := Boxed.new w 34 (.slice none 0 0)
 have hB0 : Below w.heap.size w (w.alloc (.cells #[.slice none 0 0] 34)) := (Below.refl _ w).alloc (Nat.le_refl _) _
 have hsz : (w.alloc (.cells #[.slice none 0 0] 34)).heap.size = w.heap.size + 1 := by simp
 have HS := values_stops F (n - 1) h107 hro (by omega) Bs w.heap.size A0 c0 l0 (w.alloc (.cells #[.slice none 0 0] 34)) (by omega) (by omega) hA ((hB0.cell (p := ⟨Bs, 0, none⟩) hBs).trans hcs) (Kd.zu hc (hB0.mono (Nat.le_refl _)))
 clear hcs hc
 obtain ⟨W0, hW0⟩ : ∃ W0, w.alloc (.cells #[.slice none 0 0] 34) = W0 := ⟨_, rfl⟩
 rw [hW0] at bS hB0 hsz HS ⊢
 clear hW0
 refine wpIn_rangeFunc_ownH hro h1 (gf := 107) (lb := #[.pointer (some ⟨Bs, 0, none⟩)]) rfl h107 (enters_of Tryz.func107 (by kernel_rfl) rfl)
  HS belowK_t (belowK_b (by omega)) (Below.refl _ _) (fun _ => rfl)
  (fun pre W => HoldsW w.heap.size w.heap.size pre W ∧ Below w.heap.size w W)
  (fun _ _ _ => False)
  (OwnFrom.and (Own.from (holdsW_own _ _) _) (ownFrom_below (Nat.le_refl _) (by omega)))
  (fun _ _ _ _ _ hs _ _ => hs)
  ⟨⟨_, bS, World.ownsRow_nil _ _ _ _, trivial⟩, hB0⟩
  (fun x a' W => ∃ Bx, w.heap.size < Bx ∧ W.heap[Bx]? = some (.cells #[.int .i64 x.f0, .int .i64 x.f1, .int .i64 x.f2] 61 (0, 0)) ∧ a' = { tmps := #[.slice none 0 0, .func (.func 107) #[] #[.pointer (some ⟨Bs, 0, none⟩)], .pointer (some ⟨w.heap.size, 0, none⟩), undef, .slice none 0 0, .pointer (some ⟨Bx, 0, none⟩), .func (.func 107) #[] #[.pointer (some ⟨Bs, 0, none⟩)], .agg #[.int .i64 x.f0, .int .i64 x.f1, .int .i64 x.f2], undef, undef, undef, undef, undef], defers := [] })
  (fun x a' _ X Y row hs hg hr => by obtain ⟨Bx, h1, h2, h3⟩ := hs; exact ⟨Bx, h1, blk_own Bx _ 61 () X Y row h2 hg (fun r e => (hr r e).2), h3⟩)
  ?assign ?body ?done ?stop
 case assign =>
  rintro l pre x W K ⟨⟨v, bS1, ho, _⟩, hB1⟩ hK
  gi_wp2
  exact hK _ _ ((KeepsOthers.alloc _ _).from _) ((Below.refl _ W).alloc hB1.size _) ⟨⟨v, bS1.alloc _, ho.alloc _, trivial⟩, hB1.alloc hB1.size _⟩ ⟨W.heap.size, bS1.lt, World.alloc_heap_new W _, rfl⟩
 case body =>
  rintro l pre x a' W hl _ ⟨⟨v, bS1, ho, _⟩, hB1⟩ ⟨Bx, hBx, bX, rfl⟩ hlt
  have cS := bS1.cell
  have cx0 : W.cell? ⟨Bx, 0, none⟩ = some (.int .i64 x.f0) := (zg bX 0).trans rfl
  have cx1 : W.cell? ⟨Bx, 1, none⟩ = some (.int .i64 x.f1) := (zg bX 1).trans rfl
  have cx2 : W.cell? ⟨Bx, 2, none⟩ = some (.int .i64 x.f2) := (zg bX 2).trans rfl
  have hsW := hB1.size
  gi_wp2_with (gi_at_builtin; refine wpListIn_append_own _ rfl _ _ 34 rfl w.heap.size 61 i0 (.agg #[.int .i64 0, .int .i64 0, .int .i64 0]) 3 24 Tryz.underlying34 hi hz0 hz1 hz2 rfl (by decide) v pre.length (cellsW pre) rfl (ho.alloc _) ⟨W.heap.size, 0, none⟩ 1 1 [.int .i64 x.f0, .int .i64 x.f1, .int .i64 x.f2] rfl rfl (cells3_new _ _ _ _ _) (by simp [Value.oneCell']) (by unfold maxLen; omega) (by omega) (by simp; omega) ?_; intro v' w1 hown' hgrow _; obtain ⟨g', cap', rfl⟩ := ownsRow_succ hown'; obtain ⟨hv1, hv2, hr2, hk2, hb2⟩ := bS1.appended (by decide) ho hB1.size (Nat.le_refl _) hown' hgrow; have hc1 := hv1.cell; have hf1 := hv1.frozen)
  exact ⟨hk2.from _, hb2, ⟨_, hv2, by rw [cellsW_snoc, List.length_append]; exact hr2, trivial⟩, hB1.trans hb2⟩
 case done =>
  rintro D zs W hD rfl ⟨⟨v, bS1, ho, _⟩, hB1⟩ hK
  have cS := bS1.cell
  gi_wp2
  refine ⟨by simp, .inl ⟨_, _, rfl, run_takeDeferred hK, ?_⟩⟩
  exact ⟨_, results_tmp rfl _ _ _, ⟨v, rfl, ownsRow_putObj ho _ hK rfl⟩, hB1.trans (belowK_b (w := w) (Nat.le_refl _) W D _ _ (by omega) hK rfl rfl)⟩
 case stop =>
  rintro D c pre W _ _ h _
  exact h.elim
end Go.Proofs.YtfondhcppjkchaaGreat.Q.Mw
namespace Go.Proofs.YtfondhcppjkchaaGreat.Q.Mw
open Go.Sort hiding Below
open Go.RowKit Go.Proofs.YtfondhcppjkchaaGreatW.PrintWords Go.Proofs.YtfondhcppjkchaaGreatW.PrintLast
open Go.Proofs.YtfondhcppjkchaaGreatW.PrintMore
instance : Inhabited S61 := ⟨⟨0, 0, 0⟩⟩
abbrev enc3 (x : S61) : List Value := [.int .i64 x.f0, .int .i64 x.f1, .int .i64 x.f2]
theorem cellsW_len (l : List S61) : (cellsW l).length = l.length * 3 := by
 induction l with
 | nil => rfl
 | cons x l ih => simp [cellsW] at ih ⊢; omega
theorem cellsW_at : ∀ (l : List S61) (t : Nat), t < l.length * 3 → (cellsW l)[t]? = some ((enc3 (l[t / 3]!))[t % 3]!)
 | [], t, h => by simp at h
 | x :: l, t, h => by
  match t, h with
  | 0, _ => rfl
  | 1, _ => rfl
  | 2, _ => rfl
  | t + 3, h =>
   have ih := cellsW_at l t (by simp at h; omega)
   have e1 : (t + 3) / 3 = t / 3 + 1 := by omega
   have e2 : (t + 3) % 3 = t % 3 := by omega
   rw [e1, e2]
   simpa [cellsW] using ih
theorem flat_eq (l : List S61) : flatK enc3 3 l.toArray = (cellsW l).toArray := by
 apply Array.ext'
 apply List.ext_getElem?
 intro t
 unfold flatK
 by_cases h : t < l.length * 3
 ·rw [List.toList_toArray, cellsW_at l t h]
  simp [h]
 ·rw [List.toList_toArray]
  have h1 := cellsW_len l
  rw [List.getElem?_eq_none (l := cellsW l) (by omega), List.getElem?_eq_none (by simp; omega)]
theorem repsW (W : World) (base : Nat) (ok : Nat → Prop) : ∀ l : List S61, Reps (Kd.M k61 W base ok) 3 l (cellsW l)
 | [] => Reps.none _ _
 | x :: l => Reps.c3 (k61_mkM W base ok x) (repsW W base ok l)
theorem R61_of {W : World} {base : Nat} {v : Value} {l : List S61} (h : W.ownsRow base 61 3 v l.length (cellsW l)) : Kd.R k61 61 W base (fun _ => True) v l :=
 ⟨fun _ _ => trivial, _, h, repsW _ _ _ _⟩
theorem cmp_eq (a b : Int) : cmp_Compare_int64.f a b = some (Lib.compareInt a b) := by
 unfold cmp_Compare_int64.f cmp_isNaN_int64.f Lib.compareInt
 simp only [bne_self_eq_false, Option.bind_some, Bool.false_eq_true, if_false]
 by_cases h1 : a < b
 ·simp [h1]
 ·by_cases h2 : a > b
  ·simp [h1, h2]
  ·simp [h1, h2]
theorem closure70 (x y : S61) (W : World) : Calls Tryz.prog 70 #[.agg #[.int .i64 x.f0, .int .i64 x.f1, .int .i64 x.f2], .agg #[.int .i64 y.f0, .int .i64 y.f1, .int .i64 y.f2]] W fun e w' => e = .returned (.int .i64 (Lib.compareInt x.f1 y.f1)) ∧ ∃ q os', w' = grow (W.drewN q) os' := by
 have hcon := fun W' => cmp_Compare_int64.calls x.f1 y.f1 _ W' (cmp_eq _ _)
 generalize Lib.compareInt x.f1 y.f1 = r at hcon ⊢
 go_enter Tryz.func70, Tryz.ntmps70
 go_wp2_with (go_at_call 65; refine (hcon _).mono ?_; rintro e w' ⟨rfl, ⟨q, rfl⟩⟩)
 go_ret
 exact ⟨rfl, q, _, by rw [alloc_eq_grow, alloc_eq_grow, grow_grow]; rfl⟩
theorem cmpLays70 (blk off size : Nat) (w : World) : CmpLays Tryz.prog 70 #[] enc3 3 (fun x y : S61 => Lib.compareInt x.f1 y.f1) blk off size w :=
 fun _ _ _ _ x y => closure70 x y _
theorem ltOf_eq : ltOf (fun x y : S61 => Lib.compareInt x.f1 y.f1) = fun x y => decide (x.f1 < y.f1) := by
 funext x y
 unfold ltOf Lib.compareInt
 by_cases h1 : x.f1 < y.f1
 ·simp [h1]
 ·by_cases h2 : y.f1 < x.f1 <;> simp [h1, h2]
theorem swoDue : SWO (fun x y : S61 => decide (x.f1 < y.f1)) where
 irrefl x := by simp
 trans x y z h1 h2 := by simp at *; omega
 ntrans x y z h1 h2 := by simp at *; omega
theorem isAgg61 : ∀ w, (isAgg 61).run Tryz.prog w = .ok true w := fun _ => by kernel_rfl
theorem sizeOf61 : ∀ w, (Go.sizeOf 61).run Tryz.prog w = .ok 3 w := fun _ => by kernel_rfl
def ltDue (x y : S61) : Bool := decide (x.f1 < y.f1)
def sortR (l : List S61) : List S61 := (Sort.pdq ltDue l.toArray 0 l.length (Lib.bitLen l.length) true true).toList
theorem get_list (d : Array S61) (i : Nat) (h : i < d.size) : d[i]! = d.toList[i]'(by simpa using h) := by simp [h]
theorem sortR_spec (l : List S61) : (sortR l).Perm l ∧ (sortR l).Pairwise (fun x y => x.f1 ≤ y.f1) := by
 obtain ⟨⟨hs, _, hp⟩, ho⟩ := pdq_sorts ltDue swoDue l.toArray 0 l.length (Lib.bitLen l.length) true true (Nat.zero_le _) (by simp) (Or.inl rfl)
 unfold sortR
 generalize pdq ltDue l.toArray 0 l.length (Lib.bitLen l.length) true true = d at hs hp ho ⊢
 have hs' : d.size = l.length := by simpa using hs
 refine ⟨?_, ?_⟩
 ·have e : d.extract 0 l.length = d := by rw [← hs']; simp
  rw [e] at hp
  simpa using hp
 ·rw [List.pairwise_iff_getElem]
  intro i j hi hj hij
  have hj' : j < d.size := by simpa using hj
  have h := ho i j (Nat.zero_le _) hij (by omega)
  rw [get_list d j hj', get_list d i (by omega)] at h
  unfold ltDue at h
  simpa using h
theorem sortR_len (l : List S61) : (sortR l).length = l.length := (sortR_spec l).1.length_eq
theorem sortR_nil : sortR [] = [] := List.eq_nil_of_length_eq_zero (by simpa using sortR_len [])
def sortedByDue.f (l0 : List S61) : Option (List S61) := if l0.length ≤ 4096 then some (sortR l0) else none
theorem collect.calls (Bs : Nat) (A0 : Option Addr) (c0 : Nat) (l0 : List S61) (w : World) (hBs : Bs < w.heap.size) (hlen : l0.length ≤ 4096)
  (hcs : w.cell? ⟨Bs, 0, none⟩ = some (.slice A0 l0.length c0)) (hc : Kd.C k61 w A0 l0.length l0) (hA : ∀ ad, A0 = some ad → 0 < l0.length → ad.block < w.heap.size) :
  Calls Tryz.prog 105 #[.func (.func 107) #[] #[.pointer (some ⟨Bs, 0, none⟩)]] w fun e W' => (∃ v, e = .returned v ∧ W'.ownsRow w.heap.size 61 3 v l0.length (cellsW l0)) ∧ Below w.heap.size w W' := by
 have h141 : Calls Tryz.prog 141 #[.slice none 0 0, .func (.func 107) #[] #[.pointer (some ⟨Bs, 0, none⟩)]] w fun e W' => (∃ v, e = .returned v ∧ W'.ownsRow w.heap.size 61 3 v l0.length (cellsW l0)) ∧ Below w.heap.size w W' :=
  calls_of_every_depth (L := [141, 107]) (n := 8) fun D => appendSeq_in _ 8 (show (141 : Nat) ∈ [141, 107] by decide) (show (107 : Nat) ∈ [141, 107] by decide) rfl (by omega) Bs A0 c0 l0 w hBs hlen hcs hc hA
 have H := zb.mk h141
 clear h141 hcs hc hA
 go_enter Tryz.func105, Tryz.ntmps105
 go_wp2_with (go_at_call 141; refine H.out.mono ?_; rintro e w1 ⟨⟨v, rfl, ho⟩, hb⟩; have HO := zb.mk ho; have HB := zb.mk hb; clear ho hb)
 go_ret
 exact ⟨⟨v, rfl, HO.out⟩, HB.out⟩
theorem insNone155 (fv : Value) (w : World) : Calls Tryz.prog 155 #[.slice none 0 0, .int .i64 0, .int .i64 0, fv] w fun e w' => e = .returned (.tuple #[]) ∧ w' = w := by
 go_enter Tryz.func155, Tryz.ntmps155
 go_wp2
 refine wp_loop_rounds 1 ?_
 rw [rounds_succ]
 go_wp2
 go_end0
 exact ⟨rfl, rfl⟩
theorem pdqNone142 (fv : Value) (lim : Int) (w : World) : Calls Tryz.prog 142 #[.slice none 0 0, .int .i64 0, .int .i64 0, .int .i64 lim, fv] w fun e w' => e = .returned (.tuple #[]) ∧ w' = w := by
 have hi := fun W => insNone155 fv W
 go_enter Tryz.func142, Tryz.ntmps142
 go_wp2
 refine wp_loop_rounds 1 ?_
 rw [rounds_succ]
 go_wp2_with (go_at_call 155; refine (hi _).mono ?_; rintro e w' ⟨rfl, rfl⟩)
 refine bodyPost_ret (results_none rfl _ _ _) rfl ?_
 exact ⟨rfl, rfl⟩
theorem sortNone106 (w : World) : Calls Tryz.prog 106 #[.slice none 0 0, .func (.func 70) #[] #[]] w fun e w' => e = .returned (.tuple #[]) ∧ w' = w := by
 have hp := fun lim W => pdqNone142 (.func (.func 70) #[] #[]) lim W
 have hl := fun W => Any.bits_Len (SlLaysF0.n15.bits (P := Tryz.prog) (ρ := Tryz.laysSortFunc_ren) { Tryz.laysSortFunc with }) 0 W (by omega) (by omega)
 change ∀ W, Calls Tryz.prog 100 _ _ _ at hl
 go_enter Tryz.func106, Tryz.ntmps106
 go_wp2_with (first | (go_at_call 100; refine (hl _).mono ?_; rintro e w' ⟨rfl, rfl⟩) | (go_at_call 142; refine (hp _ _).mono ?_; rintro e w' ⟨rfl, rfl⟩))
 go_end0
 exact ⟨rfl, rfl⟩
theorem addr_lt {w : World} {A0 : Option Addr} {l0 : List S61} (h : Kd.C k61 w A0 l0.length l0) : ∀ ad, A0 = some ad → 0 < l0.length → ad.block < w.heap.size := by
 rintro ad rfl hl
 obtain ⟨ad', e, h0, _, _⟩ := at_T61 h 0 (by omega) (by omega)
 cases e
 simp [Addr.add] at h0
 exact block_lt_of_cell h0
theorem sortedByDue.calls (A0 : Option Addr) (c0 : Nat) (l0 r : List S61) (w : World) (hr0 : Kd.C k61 w A0 l0.length l0) (_ : l0.length ≤ c0) (h : sortedByDue.f l0 = some r) :
  Calls Tryz.prog 68 #[.func (.func 107) #[] #[.pointer (some ⟨w.heap.size, 0, none⟩)], .func (.func 70) #[] #[]] (w.alloc (.cells #[.slice A0 l0.length c0] 34)) fun e w' => ∃ v0_ : Value, e = .returned (v0_) ∧ Kd.R k61 61 w' w.heap.size (fun _ => True) v0_ r ∧ Below w.heap.size w w' := by
 have hlen : l0.length ≤ 4096 := by
  unfold sortedByDue.f at h
  split at h
  ·assumption
  ·cases h
 have hr : r = sortR l0 := by
  unfold sortedByDue.f at h
  rw [if_pos hlen] at h
  exact (Option.some.inj h).symm
 have hB0 : Below w.heap.size w (w.alloc (.cells #[.slice A0 l0.length c0] 34)) := (Below.refl _ w).alloc (Nat.le_refl _) _
 have hA := addr_lt hr0
 have hcol := collect.calls w.heap.size A0 c0 l0 (w.alloc (.cells #[.slice A0 l0.length c0] 34)) (by simp) hlen (by simp) (Kd.zu hr0 hB0) (fun ad e hl => Nat.lt_of_lt_of_le (hA ad e hl) (by simp))
 have HC := zb.mk hcol
 have HB0 := zb.mk hB0
 have HR := zb.mk hr
 clear hcol hB0 hA hr0 h hr
 go_enter Tryz.func68, Tryz.ntmps68
 go_wp2_with (go_at_call 105; refine HC.out.mono ?_; rintro e w1 ⟨⟨v, rfl, ho⟩, hb⟩; have HO := zb.mk ho; have HB := zb.mk (HB0.out.trans (hb.mono HB0.out.size)); clear ho hb)
 rcases HO.out.2 with ⟨rfl, hn⟩ | ⟨g, cap, cur, rfl, hbase, hb, hle, hcap, hsz, htk⟩
 ·have hl : l0 = [] := List.eq_nil_of_length_eq_zero hn
  have HN := zb.mk hl
  clear hl hn
  have hcon := sortNone106
  go_wp2_with (go_at_call 106; refine (hcon _).mono ?_; rintro e w2 ⟨rfl, rfl⟩)
  go_ret
  refine ⟨_, rfl, ?_, HB.out⟩
  rw [HR.out, HN.out, sortR_nil]
  exact Kd.R_nil _ _ _ _ _
 ·have hl3 := cellsW_len l0
  have hg : g < w1.heap.size := (Array.getElem?_eq_some_iff.1 hb).1
  have hH : HoldsK enc3 3 w1 g 0 l0.toArray := by
   unfold HoldsK
   rw [flat_eq]
   exact holdsG (enc := id) hb (by rw [hl3, htk]; simp)
  have eg : ∀ args w, (callFunc 70 args).run Tryz.prog w = .ok (.enter 70 args) w := enters_of Tryz.func70 (by kernel_rfl) rfl
  have hcon := AnyQ.slices_SortFunc_eq Tryz.laysSortFunc 3 isAgg61 sizeOf61 enc3 (fun _ => rfl) (fun x v hv => by simp [enc3] at hv; rcases hv with rfl | rfl | rfl <;> rfl) (fun x y : S61 => Lib.compareInt x.f1 y.f1) (by rw [ltOf_eq]; exact swoDue) 70 #[] g 0 cap l0.toArray w1 eg (cmpLays70 g 0 _ w1) hH hg (by simp; omega)
  rw [ltOf_eq] at hcon
  change Calls Tryz.prog 106 _ _ _ at hcon
  have HK : Calls Tryz.prog 106 #[.slice (some ⟨g, 0, none⟩) l0.length cap, .func (.func 70) #[] #[]] w1 fun e w' => e = .returned (.tuple #[]) ∧ w'.ownsRow w.heap.size 61 3 (.slice (some ⟨g, 0, none⟩) l0.length cap) l0.length (cellsW (sortR l0)) ∧ Below w.heap.size w w' := by
   have hsz' : l0.toArray.size = l0.length := by simp
   rw [hsz'] at hcon
   refine hcon.mono ?_
   rintro e w' ⟨he, n, os, hw⟩
   have e2 : flatK enc3 3 (pdq ltDue l0.toArray 0 l0.length (Lib.bitLen l0.length) true true) = (cellsW (sortR l0)).toArray := by
    rw [← flat_eq]; rfl
   have hw' : w' = grow (putRow id (Sort.ahead w1 n) g 0 (cellsW (sortR l0)).toArray) os := by rw [hw, ← e2]; rfl
   have hls : (cellsW (sortR l0)).length = l0.length * 3 := by rw [cellsW_len, sortR_len]
   refine ⟨he, ?_, ?_⟩
   ·rw [hw']
    exact ownsG (enc := id) (ts := cellsW (sortR l0)) _ (Nat.le_trans (by simp) hbase) hb hle hcap hsz (by omega) hls (by rw [List.map_id, List.take_of_length_le (by omega)]) (by omega)
   ·rw [hw']
    exact HB.out.grown (grownG _) HB.out.size (fun k e => by cases e; exact Nat.le_trans (by simp) hbase)
  have HK' := zb.mk HK
  clear HK hcon eg hH hg hl3 htk hsz hcap hle hb hbase
  go_wp2_with (go_at_call 106; refine HK'.out.mono ?_; rintro e w2 ⟨rfl, ho2, hb2⟩; have HO2 := zb.mk ho2; have HB2 := zb.mk hb2; clear ho2 hb2)
  go_ret
  refine ⟨_, rfl, ?_, HB2.out⟩
  rw [HR.out]
  have := HO2.out
  rw [← sortR_len l0] at this
  rw [← sortR_len l0]
  exact R61_of this
def slices_Sort.f (l0 : List Int) : Option (List Int) := if l0.length ≤ 4096 then some (l0.mergeSort fun x y => decide (x ≤ y)) else none
def slices_Compact.f (l0 : List Int) : Option (List Int) := if l0.length ≤ 4096 then some (Lib.compact l0) else none
theorem reps_ints : ∀ {l : List Int} {cs : List Value}, Reps (fun (x : Int) cs => cs = [Value.int .i64 x]) 1 l cs → cs = l.map (Value.int .i64) := by
 intro l cs ⟨hl, h⟩
 apply List.ext_getElem?
 intro j
 by_cases hj : j < l.length
 ·have h1 := h j l[j] (List.getElem?_eq_getElem hj)
  have h2 : ((cs.drop (j * 1)).take 1)[0]? = some (Value.int .i64 l[j]) := by rw [h1]; rfl
  rw [List.getElem?_take_of_lt (by omega), List.getElem?_drop] at h2
  simpa [hj] using h2
 ·rw [List.getElem?_eq_none (by omega), List.getElem?_eq_none (by simp; omega)]
theorem reps_ints_mk : ∀ l : List Int, Reps (fun (x : Int) cs => cs = [Value.int .i64 x]) 1 l (l.map (Value.int .i64))
 | [] => Reps.none _ _
 | _ :: l => Reps.one (R := fun (x : Int) cs => cs = [Value.int .i64 x]) rfl (reps_ints_mk l)
theorem ints_row {W : World} {base : Nat} {ok : Nat → Prop} {v : Value} {l : List Int} (h : Kd.R (Kd.int .i64) 2 W base ok v l) : W.ownsRow base 2 1 v l.length (l.map (Value.int .i64)) ∧ ∀ k, v.ownBlock = some k → ok k := by
 obtain ⟨h1, inner, ho, hr⟩ := h
 refine ⟨?_, h1⟩
 have e : inner = l.map (Value.int .i64) := reps_ints hr
 rwa [e] at ho
theorem ints_R {W : World} {base : Nat} {ok : Nat → Prop} {v : Value} {l : List Int} (h : W.ownsRow base 2 1 v l.length (l.map (Value.int .i64))) (hk : ∀ k, v.ownBlock = some k → ok k) : Kd.R (Kd.int .i64) 2 W base ok v l :=
 ⟨hk, _, h, reps_ints_mk l⟩
theorem kept_of {w w' : World} {g : Nat} {P0 : Nat → Prop} (hg : P0 g) (h : w.grownBy w' (some g)) : Kept w w' (fun k_ => P0 k_) :=
 ⟨h.size, fun i hi hp => h.block i hi (fun e => hp (by cases e; exact hg))⟩
theorem below_of {w0 w w' : World} {g : Nat} (hB : Below w0.heap.size w0 w) (hg : w0.heap.size ≤ g) (h : w.grownBy w' (some g)) : Below w0.heap.size w0 w' :=
 hB.grown h hB.size (fun k e => by cases e; exact hg)
theorem insNone163 (w : World) : Calls Tryz.prog 163 #[.slice none 0 0, .int .i64 0, .int .i64 0] w fun e w' => e = .returned (.tuple #[]) ∧ w' = w := by
 go_enter Tryz.func163, Tryz.ntmps163
 go_wp2
 refine wp_loop_rounds 1 ?_
 rw [rounds_succ]
 go_wp2
 go_end0
 exact ⟨rfl, rfl⟩
theorem pdqNone143 (lim : Int) (w : World) : Calls Tryz.prog 143 #[.slice none 0 0, .int .i64 0, .int .i64 0, .int .i64 lim] w fun e w' => e = .returned (.tuple #[]) ∧ w' = w := by
 have hi := fun W => insNone163 W
 go_enter Tryz.func143, Tryz.ntmps143
 go_wp2
 refine wp_loop_rounds 1 ?_
 rw [rounds_succ]
 go_wp2_with (go_at_call 163; refine (hi _).mono ?_; rintro e w' ⟨rfl, rfl⟩)
 refine bodyPost_ret (results_none rfl _ _ _) rfl ?_
 exact ⟨rfl, rfl⟩
theorem sortNone108 (w : World) : Calls Tryz.prog 108 #[.slice none 0 0] w fun e w' => e = .returned (.tuple #[]) ∧ w' = w := by
 have hp := fun lim W => pdqNone143 lim W
 have hl := fun W => Any.bits_Len (SlLaysF0.n15.bits (P := Tryz.prog) (ρ := Tryz.laysSortFunc_ren) { Tryz.laysSortFunc with }) 0 W (by omega) (by omega)
 change ∀ W, Calls Tryz.prog 100 _ _ _ at hl
 go_enter Tryz.func108, Tryz.ntmps108
 go_wp2_with (first | (go_at_call 100; refine (hl _).mono ?_; rintro e w' ⟨rfl, rfl⟩) | (go_at_call 143; refine (hp _ _).mono ?_; rintro e w' ⟨rfl, rfl⟩))
 go_end0
 exact ⟨rfl, rfl⟩
theorem slices_Sort.calls (P0_ : Nat → Prop) (u9000_ : Value) (l0 r : List Int) (w0 w : World) (hB : Below w0.heap.size w0 w) (ho0 : Kd.R (Kd.int .i64) 2 w w0.heap.size P0_ u9000_ l0) (h : slices_Sort.f l0 = some r) :
  Calls Tryz.prog 108 #[u9000_] w fun e w' => e = .returned (.tuple #[]) ∧ Kd.R (Kd.int .i64) 2 w' w0.heap.size P0_ u9000_ r ∧ Below w0.heap.size w0 w' ∧ Kept w w' (fun k_ => P0_ k_) := by
 unfold slices_Sort.f at h
 split at h
 case isFalse => cases h
 case isTrue hlen =>
  cases h
  obtain ⟨ho, hk⟩ := ints_row ho0
  rcases ho.2 with ⟨rfl, hn⟩ | ⟨g, cap, cur, rfl, hbase, hb, hle, hcap, hsz, htk⟩
  ·have hl : l0 = [] := List.eq_nil_of_length_eq_zero hn
   subst hl
   refine (sortNone108 w).mono ?_
   rintro e w' ⟨rfl, rfl⟩
   exact ⟨rfl, by simpa using ho0, hB, Kept.refl _ _⟩
  ·have hg : g < w.heap.size := (Array.getElem?_eq_some_iff.1 hb).1
   have hH : Holds (Value.int .i64) w g 0 l0.toArray := holdsG (enc := Value.int .i64) hb (by simpa using htk)
   have hcon := AnyG.slices_Sort_int Tryz.laysSort g 0 cap l0 w hH hg (by omega)
   change Calls Tryz.prog 108 _ _ _ at hcon
   refine hcon.mono ?_
   rintro e w' ⟨he, n, os, rfl⟩
   have hlm : (l0.mergeSort fun x y => decide (x ≤ y)).length = l0.length := List.length_mergeSort _
   have hG := grownG (enc := Value.int .i64) (w := w) (g := g) (n := n) (os := os) (l0.mergeSort fun x y => decide (x ≤ y)).toArray
   refine ⟨he, ints_R ?_ hk, below_of hB hbase hG, kept_of (hk g rfl) hG⟩
   rw [hlm]
   exact ownsG (enc := Value.int .i64) (ts := l0.mergeSort fun x y => decide (x ≤ y)) _ hbase hb hle hcap hsz (by omega) (by simp) (List.take_of_length_le (by simp)) (by omega)
theorem compact_len (l : List Int) : (Lib.compact l).length ≤ l.length := by
 unfold Lib.compact Lib.compactUpTo
 rw [List.length_map]
 exact Nat.le_trans (List.length_filter_le _ _) (by simp)
theorem slices_Compact.calls (P0_ : Nat → Prop) (u9000_ : Value) (l0 r : List Int) (w0 w : World) (hB : Below w0.heap.size w0 w) (ho0 : Kd.R (Kd.int .i64) 2 w w0.heap.size P0_ u9000_ l0) (h : slices_Compact.f l0 = some r) :
  Calls Tryz.prog 109 #[u9000_] w fun e w' => ∃ v0_ : Value, e = .returned (v0_) ∧ Kd.R (Kd.int .i64) 2 w' w0.heap.size (fun k_ => P0_ k_ ∨ w.heap.size ≤ k_) v0_ r ∧ Below w0.heap.size w0 w' ∧ Kept w w' (fun k_ => P0_ k_) := by
 unfold slices_Compact.f at h
 split at h
 case isFalse => cases h
 case isTrue hlen =>
  cases h
  obtain ⟨ho, hk⟩ := ints_row ho0
  rcases ho.2 with ⟨rfl, hn⟩ | ⟨g, cap, cur, rfl, hbase, hb, hle, hcap, hsz, htk⟩
  ·have hl : l0 = [] := List.eq_nil_of_length_eq_zero hn
   subst hl
   have hcon := AnyG.slices_Compact_int_empty Tryz.laysCompact none 0 w
   change Calls Tryz.prog 109 _ _ _ at hcon
   refine hcon.mono ?_
   rintro e w' ⟨rfl, rfl⟩
   exact ⟨_, rfl, Kd.R_nil _ _ _ _ _, hB, Kept.refl _ _⟩
  ·have hH : Holds (Value.int .i64) w g 0 l0.toArray := holdsG (enc := Value.int .i64) hb (by simpa using htk)
   have hcon := AnyG.slices_Compact_int Tryz.laysCompact g 0 cap l0 w hH (by omega) hle
   change Calls Tryz.prog 109 _ _ _ at hcon
   refine hcon.mono ?_
   rintro e w' ⟨he, q, rfl⟩
   have hlc := compact_len l0
   generalize Lib.compact l0 = c at he hlc ⊢
   rw [← grow_empty (putRow _ _ _ _ _)]
   have hG := grownG (enc := Value.int .i64) (w := w) (g := g) (n := q) (os := #[]) (c ++ List.replicate (l0.length - c.length) 0).toArray
   refine ⟨_, he, ints_R ?_ (fun k e => .inl (hk k e)), below_of hB hbase hG, kept_of (hk g rfl) hG⟩
   exact ownsG (enc := Value.int .i64) (ts := c ++ List.replicate (l0.length - c.length) 0) _ hbase hb (by omega) hcap hsz (by simp; try omega) (by simp) (by rw [List.map_append, Nat.mul_one]; exact List.take_left' (by simp)) (by simp; try omega)
end Go.Proofs.YtfondhcppjkchaaGreat.Q.Mw
namespace Go.Proofs.YtfondhcppjkchaaGreat.Q
open Go.RowKit Go.Proofs.YtfondhcppjkchaaGreatW.PrintWords Go.Proofs.YtfondhcppjkchaaGreatW.PrintLast
open Go.Proofs.YtfondhcppjkchaaGreatW.PrintMore
def sortedByDue.f (l0 : List S61) : Option (List S61) := Mw.sortedByDue.f l0
def slices_Sort.f (l0 : List Int) : Option (List Int) := Mw.slices_Sort.f l0
def slices_Compact.f (l0 : List Int) : Option (List Int) := Mw.slices_Compact.f l0
theorem slices_Values.calls (A0 : Option Addr) (n c0 : Nat) (w : World) :
  Calls Tryz.prog 69 #[.slice A0 n c0] w fun e w' => e = .returned (.func (.func 107) #[] #[.pointer (some ⟨w.heap.size, 0, none⟩)]) ∧ w' = w.alloc (.cells #[.slice A0 n c0] 34) := by
 go_enter Tryz.func69, Tryz.ntmps69
 go_wp2
 go_ret
 exact ⟨rfl, rfl⟩
theorem sortedByDue.calls (A0 : Option Addr) (c0 : Nat) (l0 r : List S61) (w : World) (hr0 : Kd.C k61 w A0 l0.length l0) (hc0 : l0.length ≤ c0) (h : sortedByDue.f l0 = some r) :
  Calls Tryz.prog 68 #[.func (.func 107) #[] #[.pointer (some ⟨w.heap.size, 0, none⟩)], .func (.func 70) #[] #[]] (w.alloc (.cells #[.slice A0 l0.length c0] 34)) fun e w' => ∃ v0_ : Value, e = .returned (v0_) ∧ Kd.R k61 61 w' w.heap.size (fun _ => True) v0_ r ∧ Below w.heap.size w w' := Mw.sortedByDue.calls A0 c0 l0 r w hr0 hc0 h
theorem slices_Sort.calls (P0_ : Nat → Prop) (u9000_ : Value) (l0 r : List Int) (w0 w : World) (hB : Below w0.heap.size w0 w) (ho0 : Kd.R (Kd.int .i64) 2 w w0.heap.size P0_ u9000_ l0) (h : slices_Sort.f l0 = some r) :
  Calls Tryz.prog 108 #[u9000_] w fun e w' => e = .returned (.tuple #[]) ∧ Kd.R (Kd.int .i64) 2 w' w0.heap.size P0_ u9000_ r ∧ Below w0.heap.size w0 w' ∧ Kept w w' (fun k_ => P0_ k_) := Mw.slices_Sort.calls P0_ u9000_ l0 r w0 w hB ho0 h
theorem slices_Compact.calls (P0_ : Nat → Prop) (u9000_ : Value) (l0 r : List Int) (w0 w : World) (hB : Below w0.heap.size w0 w) (ho0 : Kd.R (Kd.int .i64) 2 w w0.heap.size P0_ u9000_ l0) (h : slices_Compact.f l0 = some r) :
  Calls Tryz.prog 109 #[u9000_] w fun e w' => ∃ v0_ : Value, e = .returned (v0_) ∧ Kd.R (Kd.int .i64) 2 w' w0.heap.size (fun k_ => P0_ k_ ∨ w.heap.size ≤ k_) v0_ r ∧ Below w0.heap.size w0 w' ∧ Kept w w' (fun k_ => P0_ k_) := Mw.slices_Compact.calls P0_ u9000_ l0 r w0 w hB ho0 h
end Go.Proofs.YtfondhcppjkchaaGreat.Q
namespace Go.Proofs.YtfondhcppjkchaaGreat.Q
open Go.RowKit Go.Proofs.YtfondhcppjkchaaGreatW.PrintWords Go.Proofs.YtfondhcppjkchaaGreatW.PrintLast Go.Proofs.YtfondhcppjkchaaGreatW.PrintMore
attribute [local go_sem] max2_int min2_int max_two min_two max_three min_three max_four min_four
def demand_starts.l0 : Nat → List Int → List (S61) → Int → Int → Option (List Int)
 | 0, _, _, _, _ => none
 | k + 1, x3, x6, x7, x8 => if x8 < x7 then (if 0 ≤ x8 then (if x8 < (x6.length : Int) then (if x3.length < 17592186044416 then (demand_starts.l0 k (x3 ++ [(zy x6 x8).f0]) x6 x7 (wrap64 (x8 + 1))) else (none)) else (none)) else (none)) else ((slices_Sort.f x3).bind fun t664 => ((slices_Compact.f t664).bind fun t665 => (some t665)))
def demand_starts.f (k : Nat) (l0 : List (S61)) : Option (List Int) := demand_starts.l0 k ([] : List Int) l0 (l0.length : Int) 0
theorem demand_starts.zma : ∀ k, (∀ y0 y1 y2 y3, LeO (demand_starts.l0 k y0 y1 y2 y3) (demand_starts.l0 (k + 1) y0 y1 y2 y3))
 | 0 => fun _ _ _ _ r h => by simp [demand_starts.l0] at h
 | k + 1 => by
  have ih0 := demand_starts.zma k
  ·intro y0 y1 y2 y3
   unfold demand_starts.l0
   repeat' first
   | (with_reducible exact ih0 _ _ _ _)
   | (with_reducible exact LeO.refl _)
   | (with_reducible exact LeO.none _)
   | (with_reducible refine LeO.ite ?_ ?_)
   | (with_reducible refine LeO.bind ?_ (fun _ => ?_))
   | exact ih0 _ _ _ _
   | exact LeO.none _
   | refine LeO.ite ?_ ?_
   | refine LeO.bind ?_ (fun _ => ?_)
theorem demand_starts.mono : ∀ a0 k, LeO (demand_starts.f k a0) (demand_starts.f (k + 1) a0) := by
 intro a0 k
 have ih0 := demand_starts.zma k
 unfold demand_starts.f
 repeat' first
   | (with_reducible exact ih0 _ _ _ _)
   | (with_reducible exact LeO.refl _)
   | (with_reducible exact LeO.none _)
   | (with_reducible refine LeO.ite ?_ ?_)
   | (with_reducible refine LeO.bind ?_ (fun _ => ?_))
   | exact ih0 _ _ _ _
   | exact LeO.none _
   | refine LeO.ite ?_ ?_
   | refine LeO.bind ?_ (fun _ => ?_)
theorem demand_starts.calls (k : Nat) (A0 : Option Addr) (c0 : Nat) (l0 : List (S61)) (r : List Int) (w : World) (hr0 : Kd.C k61 w A0 l0.length l0) (hc0 : l0.length ≤ c0) (h : demand_starts.f k l0 = some r) :
  Calls Tryz.prog 71 #[.slice A0 l0.length c0] w fun e w' => ∃ v0_ : Value, e = .returned (v0_) ∧ Kd.R (Kd.int .i64) 2 w' w.heap.size (fun _ => True) v0_ r ∧ Below w.heap.size w w' := by
 have hu61 := Tryz.underlying61
 have HR0 := zb.mk hr0
 have HC0 := zb.mk hc0
 clear hr0 hc0
 have HB := zb.mk (Below.refl w.heap.size w)
 have H : (demand_starts.l0 k ([] : List Int) l0 (l0.length : Int) 0) = some r := h
 clear h
 have H' := zb.mk H
 clear H
 go_enter Tryz.func71, Tryz.ntmps71
 go_wp2
 go_loopg [3, 8] k (fun kq v3 v8 w' => ∃ (x3_1 : List Int) (x8_1 : Int), v8 = .int .i64 x8_1 ∧ zb (demand_starts.l0 kq x3_1 l0 (l0.length : Int) x8_1 = some r) ∧ zb (kq ≤ k) ∧ zb (Kd.R (Kd.int .i64) 2 w' w.heap.size (fun _ => True) v3 x3_1) ∧ zb (Below w.heap.size w w'))
 case atStart => exact ⟨(([] : List Int)), (0), (by first | rfl | (simp; done) | (simp [*]; done)), H', ⟨Nat.le_refl _⟩, ⟨by first | exact Kd.R_nil _ _ _ _ _ | exact Kd.N_nil _ _ _ _ _ | exact Kd.V_nil _ _ _ _ _ | exact Kd.Q_nil _ _ _ _ _ | exact Kd.S_nil _ _ _ _ _⟩, ⟨by repeat with_reducible first | exact HB.out | apply zd | apply za | apply ze⟩⟩
 case round =>
  clear H'
  obtain ⟨x3_1, x8_1, rfl, HA, HK1, HO_3, HB⟩ := hrel
  cases gk with
  | zero => exact absurd HA.out (by simp [demand_starts.l0])
  | succ k1 =>
   have H := HA.out
   clear HA
   simp only [demand_starts.l0] at H
   by_cases c2 : x8_1 < (l0.length : Int)
   ·rw [if_pos c2] at H
    have c2b0 : decide (x8_1 < (l0.length : Int)) = true := decide_eq_true c2
    clear c2
    by_cases c3 : 0 ≤ x8_1
    ·rw [if_pos c3] at H
     have c3b0 : decide (0 ≤ x8_1) = true := decide_eq_true c3
     clear c3
     by_cases c4 : x8_1 < (l0.length : Int)
     ·rw [if_pos c4] at H
      have c4b0 : decide (x8_1 < (l0.length : Int)) = true := decide_eq_true c4
      clear c4
      by_cases c5 : x3_1.length < 17592186044416
      ·rw [if_pos c5] at H
       have LMc5 := zb.mk c5
       clear c5
       obtain ⟨y661, hy661⟩ : ∃ y_ : List Int, y_ = (x3_1 ++ [(zy l0 x8_1).f0]) := ⟨_, rfl⟩
       replace H : (demand_starts.l0 k1 y661 l0 (l0.length : Int) (wrap64 (x8_1 + 1))) = some r := by first | (rw [hy661]; with_reducible exact H) | (have H2_ := (Option.bind_some _ _).symm.trans H; rw [hy661]; with_reducible exact H2_) | (have H2_ := (Option.bind_some _ _).symm.trans H; with_reducible exact H2_) | with_reducible exact H | (rw [hy661]; exact H) | exact H
       have Ny661 := zb.mk hy661
       clear hy661
       have H' := zb.mk H
       clear H
       have p659 : 0 ≤ (x8_1 : Int) := of_decide_eq_true (by first | (with_reducible assumption) | assumption)
       have q659 : x8_1 < (l0.length : Int) := of_decide_eq_true (by first | (with_reducible assumption) | assumption)
       obtain ⟨ad659, e659, hx659_0, hx659_1, hx659_2⟩ := at_T61 HR0.out x8_1 p659 q659
       cases e659
       replace hx659_0 := (HB.out.cell (World.block_lt_of_cell? w _ hx659_0)).trans hx659_0
       replace hx659_1 := (HB.out.cell (World.block_lt_of_cell? w _ hx659_1)).trans hx659_1
       replace hx659_2 := (HB.out.cell (World.block_lt_of_cell? w _ hx659_2)).trans hx659_2
       replace p659 := eq_true p659
       replace q659 := eq_true q659
       go_wp2_with (first | ((with_reducible refine zda (N := 5) rfl ?_); refine zaa ?hg (N := 5) ?hd (cs := #[.int .i64 0, .int .i64 0, .int .i64 0]) (t := 61) ?hr ?_; (case hd => rfl); (case hg => rfl); (case hr => first | (go_simp; done) | (go_simp; rfl)); intro gb660 hg w6 hbox hb; have n0_ := zb.mk (Kd.zga (by (with_reducible repeat (first | apply Kd.zv | apply Kd.zx | apply Kd.zz)); exact HO_3.out) hb); have n1_ := zb.mk (zo (by repeat with_reducible first | exact HB.out | apply zd | apply za | apply ze) hb); have n2_ := zb.mk (hbox); have n3_ := zb.mk ((by rw [hg]; exact (zn (by repeat with_reducible first | exact HB.out | apply zd | apply za | apply ze)) : w.heap.size ≤ gb660)); have n4_ := zb.mk ((by rw [hg]; exact (zn (by repeat with_reducible first | exact HB.out | apply zd | apply za | apply ze)) : w.heap.size ≤ gb660)); clear HO_3; clear HB; have HO_3 := n0_; have HB := n1_; have BK660 := n2_; have GW660 := n3_; have GE660 := n4_; clear n0_ n1_ n2_ n3_ n4_; clear hb hbox hg; have hcz7_0 : w6.cell? ⟨gb660, 0, none⟩ = some (.int .i64 0) := (zg BK660.out 0).trans rfl; have hcz7_1 : w6.cell? ⟨gb660, 1, none⟩ = some (.int .i64 0) := (zg BK660.out 1).trans rfl; have hcz7_2 : w6.cell? ⟨gb660, 2, none⟩ = some (.int .i64 0) := (zg BK660.out 2).trans rfl; have hfz7_0 := zf BK660.out 0; have hfz7_1 := zf BK660.out 1; have hfz7_2 := zf BK660.out 2) | ((with_reducible refine gate_builtin (b := .append) (xs := #[.tmp 12, .tmp 15]) rfl ?_); at_builtin; refine Kd.R_append (Kd.int .i64) (w0 := w) w.heap.size rfl (.tmp 12) (.tmp 15) 24 2 (.int .i64 0) 8 rfl Tryz.underlying24 info2 rfl (by decide) (by omega) u3 x3_1 ((zy l0 x8_1).f0) [.int .i64 ((zy l0 x8_1).f0)] (fun _ => True) (fun _ => False) rfl (by first | (go_simp; done) | (go_simp; rfl)) ?aP (fun _ hk => hk.elim) ?aF ?aO ?aB ?aS ?aL ?_; (case aP => exact rfl); (case aB => exact (by repeat with_reducible first | exact HB.out | apply zd | apply za | apply ze | refine zk ?_ GE660.out)); (case aF => exact (fun _ _ => trivial)); (case aO => exact (by (with_reducible repeat (first | apply Kd.zv | apply Kd.zx | apply Kd.zz)); exact Kd.zra (Kd.R_far (p := ⟨gb660, 2, none⟩) (Kd.R_far (p := ⟨gb660, 1, none⟩) (Kd.R_far (p := ⟨gb660, 0, none⟩) (Kd.zkb HO_3.out BK660.out (by decide)) (fun _ hk => hk.2) (.int .i64 ((zy l0 x8_1).f0))) (fun _ hk => hk.2) (.int .i64 ((zy l0 x8_1).f1))) (fun _ hk => hk.2) (.int .i64 ((zy l0 x8_1).f2))) (fun _ hk => trivial))); (case aS => exact (zn (by repeat with_reducible first | exact HB.out | apply zd | apply za | apply ze | refine zk ?_ GE660.out))); (case aL => have := LMc5.out; omega); intro v662 w8 ho hb hg hat; rw [← Ny661.out] at ho; have n0_ := zb.mk (zhb (g := gb660) (o := .cells #[.int .i64 ((zy l0 x8_1).f0), .int .i64 ((zy l0 x8_1).f1), .int .i64 ((zy l0 x8_1).f2)] 61 (0, 0)) (by (with_reducible repeat first | apply zi | apply zl | apply zh); refine zba (cs := #[.int .i64 ((zy l0 x8_1).f0), .int .i64 ((zy l0 x8_1).f1), .int .i64 0]) ?_ 2 _ rfl; (with_reducible repeat first | apply zi | apply zl | apply zh); refine zba (cs := #[.int .i64 ((zy l0 x8_1).f0), .int .i64 0, .int .i64 0]) ?_ 1 _ rfl; (with_reducible repeat first | apply zi | apply zl | apply zh); refine zba (cs := #[.int .i64 0, .int .i64 0, .int .i64 0]) ?_ 0 _ rfl; (with_reducible repeat first | apply zi | apply zl | apply zh); exact BK660.out) hg (Kd.R_ne HO_3.out BK660.out (by decide))); have n1_ := zb.mk (hb); have n2_ := zb.mk (ho); clear BK660; clear HB; clear HO_3; have BK660 := n0_; have HB := n1_; have HO663 := n2_; clear n0_ n1_ n2_; clear ho hb hg hat))
       go_roundg k1
       case measure => have := HK1.out; omega
       case rel => exact ⟨(y661), (wrap64 (x8_1 + 1)), (by first | rfl | (simp; done) | (simp [*]; done)), H', ⟨by have := HK1.out; omega⟩, ⟨by (with_reducible repeat (first | apply Kd.zv | apply Kd.zx | apply Kd.zz)); exact HO663.out⟩, ⟨by repeat with_reducible first | exact HB.out | apply zd | apply za | apply ze | refine zk ?_ GE660.out⟩⟩
      ·rw [if_neg c5] at H
       exact absurd H (by simp)
     ·rw [if_neg c4] at H
      exact absurd H (by simp)
    ·rw [if_neg c3] at H
     exact absurd H (by simp)
   ·rw [if_neg c2] at H
    have c2b0 : decide (x8_1 < (l0.length : Int)) = false := decide_eq_false c2
    clear c2
    replace H := Option.bind_eq_some_iff.mp H
    obtain ⟨t664, A90, H⟩ := H
    replace H : ((slices_Compact.f t664).bind fun t665 => (some t665)) = some r := H
    have A9 := zb.mk A90
    clear A90
    replace H := Option.bind_eq_some_iff.mp H
    obtain ⟨t665, A100, H⟩ := H
    replace H : (some t665) = some r := H
    have A10 := zb.mk A100
    clear A100
    obtain rfl := Option.some.inj H
    obtain ⟨Ao11, co11, eo11⟩ := Kd.zoa HO_3.out
    subst eo11
    go_wp2_with (first | ((with_reducible refine zt (f := 108) rfl ?_); refine zka (some 19) rfl rfl Tryz.func108 (by kernel_rfl) rfl #[.slice Ao11 x3_1.length co11] rfl (by (try simp only [List.map_toArray, List.map_cons, List.map_nil]); first | done | rfl | (simp only [List.length_drop, List.length_take]; rfl)) ?_; (with_reducible refine (slices_Sort.calls (fun k_ => some k_ = (.slice Ao11 x3_1.length co11 : Value).ownBlock) (.slice Ao11 x3_1.length co11) x3_1 t664 w _ ?side1 ?side2 A9.out).mono ?_); (case side1 => repeat (first | (with_reducible first | exact HB.out | apply zd | apply za | apply ze) | exact HB.out)); (case side2 => exact Kd.R_tight rfl HO_3.out); rintro e w12 ⟨rfl, hy0, hb, hkp⟩; refine ⟨_, rfl, ?_⟩; have n0_ := zb.mk (Kd.R_reok rfl hy0 (fun k_ e_ => HO_3.out.1 k_ e_)); have n1_ := zb.mk (hb); clear HO_3; clear HB; have HO_3 := n0_; have HB := n1_; clear n0_ n1_; (try clear hb); (try clear hkp); (try clear hy0)) | ((with_reducible refine zt (f := 109) rfl ?_); refine zka (some 21) rfl rfl Tryz.func109 (by kernel_rfl) rfl #[.slice Ao11 x3_1.length co11] rfl (by (try simp only [List.map_toArray, List.map_cons, List.map_nil]); first | done | rfl | (simp only [List.length_drop, List.length_take]; rfl)) ?_; (with_reducible refine (slices_Compact.calls (fun k_ => some k_ = (.slice Ao11 x3_1.length co11 : Value).ownBlock) (.slice Ao11 x3_1.length co11) t664 t665 w _ ?side1 ?side2 A10.out).mono ?_); (case side1 => repeat (first | (with_reducible first | exact HB.out | apply zd | apply za | apply ze) | exact HB.out)); (case side2 => exact Kd.R_tight rfl HO_3.out); rintro e w13 ⟨v666, rfl, ho0, hb, hkp⟩; refine ⟨_, rfl, ?_⟩; have n0_ := zb.mk (Kd.zra (ok' := fun k_ => True) ho0 (fun k_ hk_ => trivial)); have n1_ := zb.mk (hb); clear HB; clear HO_3; have HO667 := n0_; have HB := n1_; clear n0_ n1_; (try clear hb); (try clear hkp); (try clear ho0)))
    go_ret
    exact ⟨_, by first | rfl | (simp [zp, zq] <;> rfl) | (simp [*, zp, zq] <;> rfl), by (with_reducible repeat (first | apply Kd.zv | apply Kd.zx | apply Kd.zz)); exact HO667.out, by repeat with_reducible first | exact HB.out | apply zd | apply za | apply ze⟩
end Go.Proofs.YtfondhcppjkchaaGreat.Q
