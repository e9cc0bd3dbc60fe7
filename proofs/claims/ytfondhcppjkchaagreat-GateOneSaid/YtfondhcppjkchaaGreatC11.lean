import Derived.RangeFuncNested
import Derived.RangeFuncLeaves
import Derived.RangeFuncBox
import Derived.Shelf.Abstract
import Derived.WalkKit
import Derived.OwnWalkIn
import Derived.TacticsInMore
import Derived.LoopNIn
import Derived.LoopIn
import Derived.Sort.EveryDepth
import Derived.Test.YtfondhcppjkchaaGreatC10
set_option maxHeartbeats 40000000
set_option maxRecDepth 100000
set_option linter.unusedVariables false
set_option linter.unusedSimpArgs false
namespace Go.Proofs.YtfondhcppjkchaaGreat.Q
open Go.RowKit Go.Shelf Go.Proofs.YtfondhcppjkchaaGreatW.PrintWords Go.Proofs.YtfondhcppjkchaaGreatW.PrintLast
attribute [local go_sem] Oper.semAt_some
def numbered (s : Int) : List S70 → List (Int × S70)
 | [] => []
 | x :: xs => (s, x) :: numbered (s + 1) xs
theorem numbered_len (l : List S70) : ∀ s, (numbered s l).length = l.length := by
 induction l with
 | nil => intro s; rfl
 | cons x l ih => intro s; simp [numbered, ih]
theorem numbered_get (l : List S70) : ∀ (s : Int) (k : Nat) (h : k < l.length), (numbered s l)[k]'(by rw [numbered_len]; exact h) = (s + k, l[k]) := by
 induction l with
 | nil => intro s k h; simp at h
 | cons x l ih =>
  intro s k h
  cases k with
  | zero => simp [numbered]
  | succ k =>
   simp only [numbered, List.getElem_cons_succ]
   rw [ih (s + 1) k (by simp at h; omega)]
   congr 1
   omega
theorem rd70_get (l : List S70) (x : Int) (h0 : 0 ≤ x) (h : x < l.length) : zpa l x = l[x.toNat] := by
 have hl : x.toNat < l.length := by omega
 unfold zpa; rw [List.getD_eq_getElem?_getD, List.getElem?_eq_getElem hl]; rfl
theorem numbered_take (l : List S70) (s x : Int) (h0 : 0 ≤ x) (h : x < l.length) : (numbered s l).take (x + 1).toNat = (numbered s l).take x.toNat ++ [(s + x, zpa l x)] := by
 have e : (x + 1).toNat = x.toNat + 1 := by omega
 have hl : x.toNat < (numbered s l).length := by rw [numbered_len]; omega
 rw [e, List.take_succ_eq_append_getElem hl, numbered_get l s x.toNat (by omega), rd70_get l x h0 h]
 congr 3
 omega
def vals (d : S73) : List (Int × S70) := numbered 0 d.f0 ++ numbered d.f0.length d.f1
abbrev encV (p : Int × S70) : Array Value := #[.int .i64 p.1, .agg #[.bool p.2.f0, .int .i64 p.2.f1, .int .i64 p.2.f2]]
theorem blk_add (a : Addr) (n : Nat) : (a.add n).block = a.block := by unfold Addr.add; split <;> rfl
theorem at_T70b {w w1 : World} {B : Nat} {A : Option Addr} {xs : List S70} (h : Kd.C k70 w A xs.length xs) (hb : Below B w w1) (hA : ∀ ad, A = some ad → 0 < xs.length → ad.block < B) (i : Int) (h0 : 0 ≤ i) (h1 : i < xs.length) :
  ∃ ad , A = some ad ∧ w1.cell? (ad.add (i.toNat * 3)) = some (.bool (zpa xs i).f0) ∧ w1.cell? ⟨(ad.add (i.toNat * 3)).block, (ad.add (i.toNat * 3)).off + 1, none⟩ = some (.int .i64 (zpa xs i).f1) ∧ w1.cell? ⟨(ad.add (i.toNat * 3)).block, (ad.add (i.toNat * 3)).off + 2, none⟩ = some (.int .i64 (zpa xs i).f2) := by
 obtain ⟨ad, rfl, hx0, hx1, hx2⟩ := at_T70 h i h0 h1
 have hab : (ad.add (i.toNat * 3)).block < B := by rw [blk_add]; exact hA ad rfl (by omega)
 exact ⟨ad, rfl, (hb.cell (p := ad.add (i.toNat * 3)) hab).trans hx0, (hb.cell (p := ⟨(ad.add (i.toNat * 3)).block, (ad.add (i.toNat * 3)).off + 1, none⟩) hab).trans hx1, (hb.cell (p := ⟨(ad.add (i.toNat * 3)).block, (ad.add (i.toNat * 3)).off + 2, none⟩) hab).trans hx2⟩
theorem values1_in (F : Fence) (n : Nat) (h173 : F.fn 173) (hro : F.round = none) (hn : 1 ≤ n) (l Bd n₀ : Nat) (A0 A1 : Option Addr) (c0 c1 : Nat) (l0 l1 : List S70) (st : Int) (J Jx : List (Int × S70) → World → Prop)
  (hY : ∀ pre x W, J pre W → pre.length < l0.length + l1.length → YieldAt F (n - 1) Tryz.prog l (encV x) W fun e W' =>
   (e = .returned (.bool true) ∧ J (pre ++ [x]) W' ∧ Below n₀ W W') ∨ (e = .returned (.bool false) ∧ Jx (pre ++ [x]) W'))
  (W : World) (hJ : AbidesFrom W.heap.size J) (hn₀ : n₀ ≤ W.heap.size) (hBd : Bd < n₀) (hA0 : ∀ ad, A0 = some ad → 0 < l0.length → ad.block < n₀) (hA1 : ∀ ad, A1 = some ad → 0 < l1.length → ad.block < n₀)
  (hb0 : W.cell? ⟨Bd, 0, none⟩ = some (.slice A0 l0.length c0)) (hb1 : W.cell? ⟨Bd, 1, none⟩ = some (.slice A1 l1.length c1)) (hl0 : l0.length ≤ 4096) (hl1 : l1.length ≤ 4096)
  (hc0 : Kd.C k70 W A0 l0.length l0) (hc1 : Kd.C k70 W A1 l1.length l1) (h0 : J [] W) :
  CallsIn F n Tryz.prog 173 #[.func (.yield l) #[] #[], .pointer (some ⟨Bd, 0, none⟩)] W fun e W' => (∃ v, e = .returned v) ∧
   ((∃ ys, ys = numbered 0 l0 ++ numbered l0.length l1 ∧ J ys W') ∨ (∃ pre, pre <+: numbered 0 l0 ++ numbered l0.length l1 ∧ Jx pre W')) := by
 refine callsIn_of_wp Tryz.func173 rfl h173 ?_ hro
 simp only [Tryz.ntmps173, List.size_toArray, List.length_cons, List.length_nil, Nat.reduceAdd, Nat.reduceSub, Array.replicate_succ, Array.replicate_zero, List.push_toArray, List.append_toArray, List.nil_append, List.cons_append]
 gi_wp2
 gi_loopw [10] (fun i wr => ∃ x : Int, i = .int .i64 x ∧ 0 ≤ x ∧ x ≤ l0.length ∧ J ((numbered 0 l0).take x.toNat) wr ∧ Below n₀ W wr)
  (fun i _ => l0.length - (intOf i).toNat)
 case atStart => exact ⟨0, rfl, by omega, by omega, h0, Below.refl _ _⟩
 case round =>
  obtain ⟨x, rfl, hx, hk, hJs, hnx⟩ := hrel
  by_cases hlt : x < (l0.length : Int)
  ·obtain ⟨ad, rfl, hx0, hx1, hx2⟩ := at_T70b hc0 hnx hA0 x hx hlt
   have hsz := hnx.size
   have c := decide_eq_true hlt
   have hJa : J ((numbered 0 l0).take x.toNat) (wr.alloc (.cells #[.bool (zpa l0 x).f0, .int .i64 (zpa l0 x).f1, .int .i64 (zpa l0 x).f2] 70)) := hJ _ wr _ none hJs (World.grownBy_alloc wr _ none) (fun r e => by cases e)
   have HJ := Lib.hid hJa
   have hz : (0 : Int) + x = x := by omega
   have ht := numbered_take l0 0 x hx hlt
   rw [hz] at ht
   have HX := Lib.hid ht
   have HB := Lib.hid hnx
   clear hJs hJ hJa hnx ht hz
   obtain ⟨fn, tmps, assign, body, hy, hR⟩ := hY _ (x, zpa l0 x) _ HJ.out (by simp; omega)
   have h0' := eq_true hx
   have h1' := eq_true hlt
   gi_wp2
   refine hR.mono ?_
   rintro e W3 (⟨rfl, hJ3, hk3⟩ | ⟨rfl, hJx3⟩)
   ·have HJ3 := Lib.hid hJ3
    have HK3 := Lib.hid hk3
    clear hJ3 hk3
    gi_wp2
    go_roundw
    case rel => exact ⟨x + 1, by go_num, by omega, by omega, by rw [HX.out]; exact HJ3.out, (HB.out.alloc (Nat.le_trans hn₀ hsz) _).trans HK3.out⟩
    case measure => simp [intOf]; omega
   ·have HJ3 := Lib.hid hJx3
    clear hJx3
    gi_wp2
    refine bodyPost_ret (results_none rfl _ _ _) rfl ?_
    exact ⟨⟨_, rfl⟩, .inr ⟨_, by rw [← HX.out]; exact (List.take_prefix _ _).trans (List.prefix_append _ _), HJ3.out⟩⟩
  ·have e : x.toNat = (numbered 0 l0).length := by rw [numbered_len]; omega
   rw [e, List.take_length] at hJs
   have hsz := hnx.size
   have e0 : wr.cell? ⟨Bd, 0, none⟩ = some (.slice A0 l0.length c0) := (hnx.cell (p := ⟨Bd, 0, none⟩) hBd).trans hb0
   have e1 : wr.cell? ⟨Bd, 1, none⟩ = some (.slice A1 l1.length c1) := (hnx.cell (p := ⟨Bd, 1, none⟩) hBd).trans hb1
   have HJ := Lib.hid hJs
   have HB := Lib.hid hnx
   clear hJs hnx
   gi_wp2
   gi_loopw [24] (fun i wr => ∃ x : Int, i = .int .i64 x ∧ 0 ≤ x ∧ x ≤ l1.length ∧ J (numbered 0 l0 ++ (numbered l0.length l1).take x.toNat) wr ∧ Below n₀ W wr)
    (fun i _ => l1.length - (intOf i).toNat)
   case atStart => exact ⟨0, rfl, by omega, by omega, by simpa using HJ.out, HB.out⟩
   case round =>
    clear HJ HB e0 e1 hsz
    rename_i wr0
    obtain ⟨y, rfl, hy0, hyk, hJs, hnx⟩ := hrel
    by_cases hlt1 : y < (l1.length : Int)
    ·obtain ⟨ad, rfl, hx0, hx1, hx2⟩ := at_T70b hc1 hnx hA1 y hy0 hlt1
     have hsz := hnx.size
     have e0 : wr.cell? ⟨Bd, 0, none⟩ = some (.slice A0 l0.length c0) := (hnx.cell (p := ⟨Bd, 0, none⟩) hBd).trans hb0
     have hBw : Bd < wr.heap.size := by omega
     have c := decide_eq_true hlt1
     have hJa : J (numbered 0 l0 ++ (numbered l0.length l1).take y.toNat) (wr.alloc (.cells #[.bool (zpa l1 y).f0, .int .i64 (zpa l1 y).f1, .int .i64 (zpa l1 y).f2] 70)) := hJ _ wr _ none hJs (World.grownBy_alloc wr _ none) (fun r e => by cases e)
     have HJ := Lib.hid hJa
     have HX := Lib.hid (numbered_take l1 l0.length y hy0 hlt1)
     have HB := Lib.hid hnx
     clear hJs hJ hJa hnx
     obtain ⟨fn, tmps, assign, body, hy, hR⟩ := hY _ ((l0.length : Int) + y, zpa l1 y) _ HJ.out (by simp [numbered_len]; omega)
     have h0' := eq_true hy0
     have h1' := eq_true hlt1
     gi_wp2
     refine hR.mono ?_
     rintro e W3 (⟨rfl, hJ3, hk3⟩ | ⟨rfl, hJx3⟩)
     ·have HJ3 := Lib.hid hJ3
      have HK3 := Lib.hid hk3
      clear hJ3 hk3
      gi_wp2
      go_roundw
      case rel => exact ⟨y + 1, by go_num, by omega, by omega, by rw [HX.out, ← List.append_assoc]; exact HJ3.out, (HB.out.alloc (Nat.le_trans hn₀ hsz) _).trans HK3.out⟩
      case measure => simp [intOf]; omega
     ·have HJ3 := Lib.hid hJx3
      clear hJx3
      gi_wp2
      refine bodyPost_ret (results_none rfl _ _ _) rfl ?_
      exact ⟨⟨_, rfl⟩, .inr ⟨_, by rw [List.append_assoc, ← HX.out]; exact (List.prefix_append_right_inj _).2 (List.take_prefix _ _), HJ3.out⟩⟩
    ·have e : y.toNat = (numbered l0.length l1).length := by rw [numbered_len]; omega
     rw [e, List.take_length] at hJs
     have HJ := Lib.hid hJs
     clear hJs hJ
     gi_wp2
     go_end0
     exact ⟨⟨_, rfl⟩, .inl HJ.out⟩
end Go.Proofs.YtfondhcppjkchaaGreat.Q
