import Derived.RangeFuncNested
import Derived.RangeFuncLeaves
import Derived.RangeFuncBox
import Derived.Shelf.Abstract
import Derived.WalkKit
import Derived.OwnWalkIn
import Derived.TacticsInMore
import Derived.LoopNIn
import Derived.LoopIn
import Derived.Sort.EveryDepth
import Derived.Lib.Hide
import Derived.Test.YtlmmdpdkddmklabQx0
namespace Go.Proofs.Ytlmmdpdkddmklab.Q
open Go.RowKit Go.Shelf Go.Proofs.YtlmmdpdkddmklabW.PrintWords Go.Proofs.YtlmmdpdkddmklabW.PrintLast

attribute [local go_sem] Oper.semAt_some

abbrev encW (x : S38) : Array Value := #[.agg #[.int .i64 x.f0, .int .i64 x.f1, .int .i64 x.f2]]

theorem take_one (l : List S38) (x : Int) (h0 : 0 ≤ x) (h : x < l.length) : l.take (x + 1).toNat = l.take x.toNat ++ [rd_T38 l x] := by
  have e : (x + 1).toNat = x.toNat + 1 := by omega
  have hl : x.toNat < l.length := by omega
  rw [e, List.take_succ_eq_append_getElem hl]
  unfold rd_T38
  rw [List.getD_eq_getElem?_getD, List.getElem?_eq_getElem hl]
  rfl
theorem blk_add (a : Addr) (n : Nat) : (a.add n).block = a.block := by unfold Addr.add; split <;> rfl
theorem at_T38b {w w1 : World} {B : Nat} {A : Option Addr} {xs : List S38} (h : Kd.C k38 w A xs.length xs) (hb : Below B w w1) (hA : ∀ ad, A = some ad → 0 < xs.length → ad.block < B) (i : Int) (h0 : 0 ≤ i) (h1 : i < xs.length) :
    ∃ ad , A = some ad ∧ w1.cell? (ad.add (i.toNat * 3)) = some (.int .i64 (rd_T38 xs i).f0) ∧ w1.cell? ⟨(ad.add (i.toNat * 3)).block, (ad.add (i.toNat * 3)).off + 1, none⟩ = some (.int .i64 (rd_T38 xs i).f1) ∧ w1.cell? ⟨(ad.add (i.toNat * 3)).block, (ad.add (i.toNat * 3)).off + 2, none⟩ = some (.int .i64 (rd_T38 xs i).f2) := by
  obtain ⟨ad, rfl, hx0, hx1, hx2⟩ := at_T38 h i h0 h1
  have hab : (ad.add (i.toNat * 3)).block < B := by rw [blk_add]; exact hA ad rfl (by omega)
  exact ⟨ad, rfl, (hb.cell (p := ad.add (i.toNat * 3)) hab).trans hx0, (hb.cell (p := ⟨(ad.add (i.toNat * 3)).block, (ad.add (i.toNat * 3)).off + 1, none⟩) hab).trans hx1, (hb.cell (p := ⟨(ad.add (i.toNat * 3)).block, (ad.add (i.toNat * 3)).off + 2, none⟩) hab).trans hx2⟩

set_option maxRecDepth 100000 in
set_option maxHeartbeats 2000000 in
theorem values1_in (F : Fence) (n : Nat) (h27 : F.fn 27) (hro : F.round = none) (hn : 1 ≤ n) (l Bs n₀ : Nat) (A0 : Option Addr) (c0 : Nat) (l0 : List S38) (J Jx : List S38 → World → Prop)
    (hY : ∀ pre x W, J pre W → pre.length < l0.length → YieldAt F (n - 1) Try.prog l (encW x) W fun e W' =>
      (e = .returned (.bool true) ∧ J (pre ++ [x]) W' ∧ Below n₀ W W') ∨ (e = .returned (.bool false) ∧ Jx (pre ++ [x]) W'))
    (W : World) (hJ : AbidesFrom W.heap.size J) (hn₀ : n₀ ≤ W.heap.size) (hA : ∀ ad, A0 = some ad → 0 < l0.length → ad.block < n₀)
    (hBs : W.cell? ⟨Bs, 0, none⟩ = some (.slice A0 l0.length c0)) (hc : Kd.C k38 W A0 l0.length l0) (h0 : J [] W) :
    CallsIn F n Try.prog 27 #[.func (.yield l) #[] #[], .pointer (some ⟨Bs, 0, none⟩)] W fun e W' => (∃ v, e = .returned v) ∧
      ((∃ ys, ys = l0 ∧ J ys W') ∨ (∃ pre, pre <+: l0 ∧ Jx pre W')) := by
  have hmax : l0.length ≤ 9223372036854775807 := hc.2.1
  refine callsIn_of_wp Try.func27 rfl h27 ?_ hro
  simp only [Try.ntmps27, List.size_toArray, List.length_cons, List.length_nil, Nat.reduceAdd, Nat.reduceSub, Array.replicate_succ, Array.replicate_zero, List.push_toArray, List.append_toArray, List.nil_append, List.cons_append]
  gi_wp2
  gi_loopw [7] (fun i wr => ∃ x : Int, i = .int .i64 x ∧ 0 ≤ x ∧ x ≤ l0.length ∧ J (l0.take x.toNat) wr ∧ Below n₀ W wr)
    (fun i _ => l0.length - (intOf i).toNat)
  case atStart => exact ⟨0, rfl, by omega, by omega, h0, Below.refl _ _⟩
  case round =>
    obtain ⟨x, rfl, hx, hk, hJs, hnx⟩ := hrel
    by_cases hlt : x < (l0.length : Int)
    · obtain ⟨ad, rfl, hx0, hx1, hx2⟩ := at_T38b hc hnx hA x hx hlt
      have hsz := hnx.size
      have c := decide_eq_true hlt
      have hJa : J (l0.take x.toNat) (wr.alloc (.cells #[.int .i64 (rd_T38 l0 x).f0, .int .i64 (rd_T38 l0 x).f1, .int .i64 (rd_T38 l0 x).f2] 38)) := hJ _ wr _ none hJs (World.grownBy_alloc wr _ none) (fun r e => by cases e)
      have HJ := Lib.hid hJa
      have HX := Lib.hid (take_one l0 x hx hlt)
      have HB := Lib.hid hnx
      clear hJs hJ hJa hnx
      obtain ⟨fn, tmps, assign, body, hy, hR⟩ := hY _ (rd_T38 l0 x) _ HJ.out (by simp; omega)
      have h0' := eq_true hx
      have h1' := eq_true hlt
      gi_wp2
      refine hR.mono ?_
      rintro e W3 (⟨rfl, hJ3, hk3⟩ | ⟨rfl, hJx3⟩)
      · have HJ3 := Lib.hid hJ3
        have HK3 := Lib.hid hk3
        clear hJ3 hk3
        gi_wp2
        go_roundw
        case rel => exact ⟨x + 1, by go_num, by omega, by omega, by rw [HX.out]; exact HJ3.out, (HB.out.alloc (Nat.le_trans hn₀ hsz) _).trans HK3.out⟩
        case measure => simp [intOf]; omega
      · have HJ3 := Lib.hid hJx3
        clear hJx3
        gi_wp2
        refine bodyPost_ret (results_none rfl _ _ _) rfl ?_
        exact ⟨⟨_, rfl⟩, .inr ⟨_, by rw [← HX.out]; exact List.take_prefix _ _, HJ3.out⟩⟩
    · have e : x.toNat = l0.length := by omega
      rw [e, List.take_length] at hJs
      have HJ := Lib.hid hJs
      clear hJs hJ
      gi_wp2
      go_end0
      exact ⟨⟨_, rfl⟩, .inl HJ.out⟩

/-- slices.Values(s) hands back a value that gives all of s, in order; or a prefix. -/
theorem values_stops (F : Fence) (n : Nat) (h27 : F.fn 27) (hro : F.round = none) (hn : 1 ≤ n) (Bs n₀ : Nat) (A0 : Option Addr) (c0 : Nat) (l0 : List S38) (w : World) (hBs : Bs < w.heap.size) (hn₀ : n₀ ≤ w.heap.size)
    (hA : ∀ ad, A0 = some ad → 0 < l0.length → ad.block < n₀) (hcs : w.cell? ⟨Bs, 0, none⟩ = some (.slice A0 l0.length c0)) (hc : Kd.C k38 w A0 l0.length l0) :
    SeqStopsK F n Try.prog 27 #[.pointer (some ⟨Bs, 0, none⟩)] encW (Below n₀) (fun ys => ys = l0) (fun pre => pre <+: l0) l0.length w := fun l J Jx W hW hJ _ hY h0 =>
  values1_in F n h27 hro hn l Bs n₀ A0 c0 l0 J Jx hY W hJ (Nat.le_trans hn₀ hW.size) hA ((hW.cell (p := ⟨Bs, 0, none⟩) hBs).trans hcs) (Kd.C_below hc hW) h0


abbrev cellsW (l : List S38) : List Value := l.flatMap fun x => [.int .i64 x.f0, .int .i64 x.f1, .int .i64 x.f2]
theorem cellsW_snoc (l : List S38) (x : S38) : cellsW (l ++ [x]) = cellsW l ++ [.int .i64 x.f0, .int .i64 x.f1, .int .i64 x.f2] := by simp [cellsW]
/-- What the box of AppendSeq holds between two rounds: a row of the call's own. -/
def HoldsW (n₀ B : Nat) (pre : List S38) (W : World) : Prop := ∃ v, Boxed W B 22 v ∧ W.ownsRow n₀ 38 3 v pre.length (cellsW pre) ∧ True

theorem holdsW_own (n₀ B : Nat) : Own (HoldsW n₀ B) := holdsRow_own n₀ B 22 38 3 (fun pre : List S38 => pre.length) (fun pre => cellsW pre) (fun _ _ => True)

theorem blk_own (B : Nat) (cs : Array Value) (t : TypeId) : Own (fun (_ : Unit) W => W.heap[B]? = some (.cells cs t (0, 0))) := fun s X Y row hs hg hrow =>
  (hg.block B (Array.getElem?_eq_some_iff.1 hs).1 (fun e' => by obtain ⟨o, ho, hc⟩ := hrow B e'.symm; rw [show X.heap[B]? = _ from hs] at ho; cases ho; cases hc)).trans hs

theorem cells3_new (W : World) (a b c : Value) (t : TypeId) : ∀ j u, [a, b, c][j]? = some u → (W.alloc (.cells #[a, b, c] t)).cell? ((⟨W.heap.size, 0, none⟩ : Addr).add j) = some u := by
  intro j u hu
  match j, hu with
  | 0, hu => simp at hu; subst hu; simp [Addr.add]
  | 1, hu => simp at hu; subst hu; simp [Addr.add]
  | 2, hu => simp at hu; subst hu; simp [Addr.add]
  | j + 3, hu => simp at hu

set_option maxRecDepth 100000 in
set_option maxHeartbeats 4000000 in
theorem appendSeq_in (F : Fence) (n : Nat) (h32 : F.fn 32) (h27 : F.fn 27) (hro : F.round = none) (hn : 6 ≤ n) (Bs : Nat) (A0 : Option Addr) (c0 : Nat) (l0 : List S38) (w : World) (hBs : Bs < w.heap.size) (hlen : l0.length ≤ 4096)
    (hcs : w.cell? ⟨Bs, 0, none⟩ = some (.slice A0 l0.length c0)) (hc : Kd.C k38 w A0 l0.length l0) (hA : ∀ ad, A0 = some ad → 0 < l0.length → ad.block < w.heap.size) :
    CallsIn F n Try.prog 32 #[.slice none 0 0, .func (.func 27) #[] #[.pointer (some ⟨Bs, 0, none⟩)]] w fun e W' => (∃ v, e = .returned v ∧ W'.ownsRow w.heap.size 38 3 v l0.length (cellsW l0)) ∧ Below w.heap.size w W' := by
  have h1 : 1 ≤ n := by omega
  obtain ⟨i0, hi, hz0, hz1, hz2⟩ := info_parts info38
  refine callsIn_of_wp_marks Try.func32 rfl h32 ?_ hro
  simp only [Try.ntmps32, List.size_toArray, List.length_cons, List.length_nil, Nat.reduceAdd, Nat.reduceSub, Array.replicate_succ, Array.replicate_zero, List.push_toArray, List.append_toArray, List.nil_append, List.cons_append]
  gi_wp2
  have bS := Boxed.new w 22 (.slice none 0 0)
  have hB0 : Below w.heap.size w (w.alloc (.cells #[.slice none 0 0] 22)) := (Below.refl _ w).alloc (Nat.le_refl _) _
  have hsz : (w.alloc (.cells #[.slice none 0 0] 22)).heap.size = w.heap.size + 1 := by simp
  have HS := values_stops F (n - 1) h27 hro (by omega) Bs w.heap.size A0 c0 l0 (w.alloc (.cells #[.slice none 0 0] 22)) (by omega) (by omega) hA ((hB0.cell (p := ⟨Bs, 0, none⟩) hBs).trans hcs) (Kd.C_below hc (hB0.mono (Nat.le_refl _)))
  clear hcs hc
  obtain ⟨W0, hW0⟩ : ∃ W0, w.alloc (.cells #[.slice none 0 0] 22) = W0 := ⟨_, rfl⟩
  rw [hW0] at bS hB0 hsz HS ⊢
  clear hW0
  refine wpIn_rangeFunc_ownH hro h1 (gf := 27) (lb := #[.pointer (some ⟨Bs, 0, none⟩)]) rfl h27 (enters_of Try.func27 (by kernel_rfl) rfl)
    HS belowK_t (belowK_b (by omega)) (Below.refl _ _) (fun _ => rfl)
    (fun pre W => HoldsW w.heap.size w.heap.size pre W ∧ Below w.heap.size w W)
    (fun _ _ _ => False)
    (OwnFrom.and (Own.from (holdsW_own _ _) _) (ownFrom_below (Nat.le_refl _) (by omega)))
    (fun _ _ _ _ _ hs _ _ => hs)
    ⟨⟨_, bS, World.ownsRow_nil _ _ _ _, trivial⟩, hB0⟩
    (fun x a' W => ∃ Bx, w.heap.size < Bx ∧ W.heap[Bx]? = some (.cells #[.int .i64 x.f0, .int .i64 x.f1, .int .i64 x.f2] 38 (0, 0)) ∧ a' = { tmps := #[.slice none 0 0, .func (.func 27) #[] #[.pointer (some ⟨Bs, 0, none⟩)], .pointer (some ⟨w.heap.size, 0, none⟩), undef, .slice none 0 0, .pointer (some ⟨Bx, 0, none⟩), .func (.func 27) #[] #[.pointer (some ⟨Bs, 0, none⟩)], .agg #[.int .i64 x.f0, .int .i64 x.f1, .int .i64 x.f2], undef, undef, undef, undef, undef], defers := [] })
    (fun x a' _ X Y row hs hg hr => by obtain ⟨Bx, h1, h2, h3⟩ := hs; exact ⟨Bx, h1, blk_own Bx _ 38 () X Y row h2 hg (fun r e => (hr r e).2), h3⟩)
    ?assign ?body ?done ?stop
  case assign =>
    rintro l pre x W K ⟨⟨v, bS1, ho, _⟩, hB1⟩ hK
    gi_wp2
    exact hK _ _ ((KeepsOthers.alloc _ _).from _) ((Below.refl _ W).alloc hB1.size _) ⟨⟨v, bS1.alloc _, ho.alloc _, trivial⟩, hB1.alloc hB1.size _⟩ ⟨W.heap.size, bS1.lt, World.alloc_heap_new W _, rfl⟩
  case body =>
    rintro l pre x a' W hl _ ⟨⟨v, bS1, ho, _⟩, hB1⟩ ⟨Bx, hBx, bX, rfl⟩ hlt
    have cS := bS1.cell
    have cx0 : W.cell? ⟨Bx, 0, none⟩ = some (.int .i64 x.f0) := (blk_cell bX 0).trans rfl
    have cx1 : W.cell? ⟨Bx, 1, none⟩ = some (.int .i64 x.f1) := (blk_cell bX 1).trans rfl
    have cx2 : W.cell? ⟨Bx, 2, none⟩ = some (.int .i64 x.f2) := (blk_cell bX 2).trans rfl
    have hsW := hB1.size
    gi_wp2_with (gi_at_builtin; refine wpListIn_append_own _ rfl _ _ 22 rfl w.heap.size 38 i0 (.agg #[.int .i64 0, .int .i64 0, .int .i64 0]) 3 24 Try.underlying22 hi hz0 hz1 hz2 rfl (by decide) v pre.length (cellsW pre) rfl (ho.alloc _) ⟨W.heap.size, 0, none⟩ 1 1 [.int .i64 x.f0, .int .i64 x.f1, .int .i64 x.f2] rfl rfl (cells3_new _ _ _ _ _) (by simp [Value.oneCell']) (by unfold maxLen; omega) (by omega) (by simp; omega) ?_; intro v' w1 hown' hgrow _; obtain ⟨g', cap', rfl⟩ := ownsRow_succ hown'; obtain ⟨hv1, hv2, hr2, hk2, hb2⟩ := bS1.appended (by decide) ho hB1.size (Nat.le_refl _) hown' hgrow; have hc1 := hv1.cell; have hf1 := hv1.frozen)
    exact ⟨hk2.from _, hb2, ⟨_, hv2, by rw [cellsW_snoc, List.length_append]; exact hr2, trivial⟩, hB1.trans hb2⟩
  case done =>
    rintro D zs W hD rfl ⟨⟨v, bS1, ho, _⟩, hB1⟩ hK
    have cS := bS1.cell
    gi_wp2
    refine ⟨by simp, .inl ⟨_, _, rfl, run_takeDeferred hK, ?_⟩⟩
    exact ⟨_, results_tmp rfl _ _ _, ⟨v, rfl, ownsRow_putObj ho _ hK rfl⟩, hB1.trans (belowK_b (w := w) (Nat.le_refl _) W D _ _ (by omega) hK rfl rfl)⟩
  case stop =>
    rintro D c pre W _ _ h _
    exact h.elim
end Go.Proofs.Ytlmmdpdkddmklab.Q
