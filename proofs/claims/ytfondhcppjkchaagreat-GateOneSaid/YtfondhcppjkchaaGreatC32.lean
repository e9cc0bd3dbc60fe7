import Derived.RangeFuncNested
import Derived.RangeFuncLeaves
import Derived.RangeFuncBox
import Derived.Shelf.Abstract
import Derived.WalkKit
import Derived.OwnWalkIn
import Derived.TacticsInMore
import Derived.LoopNIn
import Derived.LoopIn
import Derived.Sort.EveryDepth
import Derived.RangeFuncFrom
import Derived.Test.YtfondhcppjkchaaGreatC5
import Derived.Test.YtfondhcppjkchaaGreatC18
import Derived.RangeFuncCalls
set_option maxHeartbeats 40000000
set_option maxRecDepth 100000
set_option linter.unusedVariables false
set_option linter.unusedSimpArgs false
namespace Go.Proofs.YtfondhcppjkchaaGreat.Q
open Go.RowKit Go.Shelf Go.Proofs.YtfondhcppjkchaaGreatW.PrintWords Go.Proofs.YtfondhcppjkchaaGreatW.PrintLast
attribute [local go_sem] Oper.semAt_some
theorem rd_take (l : List Int) (x : Int) (h0 : 0 ≤ x) (h : x < l.length) : l.take (x + 1).toNat = l.take x.toNat ++ [rd l x] := by
 have e : (x + 1).toNat = x.toNat + 1 := by omega
 have hl : x.toNat < l.length := by omega
 rw [e, List.take_succ_eq_append_getElem hl]
 congr 2
 unfold rd; rw [List.getD_eq_getElem?_getD, List.getElem?_eq_getElem hl]; rfl
theorem addr_add0 (a : Addr) : a.add 0 = a := by
 obtain ⟨b, o, v⟩ := a
 unfold Addr.add
 split <;> simp_all
structure WordAt (Bd : Nat) (A0 A1 : Option Addr) (c0 c1 : Nat) (l0 l1 : List Int) (W : World) : Prop where
 b0 : W.cell? ⟨Bd, 0, none⟩ = some (.slice A0 l0.length c0)
 b1 : W.cell? ⟨Bd, 1, none⟩ = some (.slice A1 l1.length c1)
 h0 : Kd.C (Kd.int .i64) W A0 l0.length l0
 h1 : Kd.C (Kd.int .i64) W A1 l1.length l1
theorem all1_in (F : Fence) (n : Nat) (h146 : F.fn 146) (hro : F.round = none) (hn : 1 ≤ n) (l Bd : Nat) (A0 A1 : Option Addr) (c0 c1 : Nat) (l0 l1 : List Int) (J Jx : List Int → World → Prop)
  (hK : ∀ pre W, J pre W → pre.length ≤ l0.length + l1.length ∧ WordAt Bd A0 A1 c0 c1 l0 l1 W)
  (hY : ∀ pre x W, J pre W → YieldAt F (n - 1) Tryz.prog l #[.int .i64 x] W fun e W' =>
   (e = .returned (.bool true) ∧ J (pre ++ [x]) W') ∨ (e = .returned (.bool false) ∧ pre.length = l0.length + l1.length ∧ Jx pre W'))
  (W : World) (hl1 : 1 ≤ l1.length) (hb0 : l0.length ≤ 4096) (hb1 : l1.length ≤ 4096) (h0 : J [] W) :
  CallsIn F n Tryz.prog 146 #[.func (.yield l) #[] #[], .pointer (some ⟨Bd, 0, none⟩)] W fun e W' => (∃ v, e = .returned v) ∧ Jx (l0 ++ l1) W' := by
 have HK := Lib.hid hK
 have HY := Lib.hid hY
 clear hK hY
 have k0 := (HK.out _ _ h0).2.b0
 have HJ0 := Lib.hid h0
 clear h0
 refine callsIn_of_wp Tryz.func146 rfl h146 ?_ hro
 simp only [Tryz.ntmps146, List.size_toArray, List.length_cons, List.length_nil, Nat.reduceAdd, Nat.reduceSub, Array.replicate_succ, Array.replicate_zero, List.push_toArray, List.append_toArray, List.nil_append, List.cons_append]
 gi_wp2
 gi_loopw [10] (fun i wr => ∃ x : Int, i = .int .i64 x ∧ 0 ≤ x ∧ x ≤ l0.length ∧ J (l0.take x.toNat) wr)
  (fun i _ => l0.length - (intOf i).toNat)
 case atStart => exact ⟨0, rfl, by omega, by omega, HJ0.out⟩
 case round =>
  obtain ⟨x, rfl, hx, hk, hJs⟩ := hrel
  by_cases hlt : x < (l0.length : Int)
  ·obtain ⟨hlen, hw⟩ := HK.out _ _ hJs
   obtain ⟨ad, rfl, hx0⟩ := Kd.zya hw.h0 x hx hlt
   have c := decide_eq_true hlt
   have HX := Lib.hid (rd_take l0 x hx hlt)
   obtain ⟨fn, tmps, assign, body, hy, hR⟩ := HY.out _ (rd l0 x) _ hJs
   clear hw hJs
   have h0' := eq_true hx
   have h1' := eq_true hlt
   gi_wp2
   refine hR.mono ?_
   rintro e W3 (⟨rfl, hJ3⟩ | ⟨rfl, hl3, hJx3⟩)
   ·have HJ3 := Lib.hid hJ3
    clear hJ3
    gi_wp2
    go_roundw
    case rel => exact ⟨x + 1, by go_num, by omega, by omega, by rw [HX.out]; exact HJ3.out⟩
    case measure => simp [intOf]; omega
   ·exfalso
    rw [List.length_take] at hl3
    omega
  ·have e : x.toNat = l0.length := by omega
   rw [e, List.take_length] at hJs
   have HJ := Lib.hid hJs
   have e1 := (HK.out _ _ hJs).2.b1
   clear hJs
   gi_wp2
   refine wpIn_loop_rounds 2 ?_
   rw [roundsIn_succ]
   gi_wp2
   gi_loopw [22] (fun i wr => ∃ y : Int, i = .int .i64 y ∧ 0 ≤ y ∧ y ≤ l1.length ∧ J (l0 ++ l1.take y.toNat) wr)
    (fun i _ => l1.length - (intOf i).toNat)
   case atStart => exact ⟨0, rfl, by omega, by omega, by simpa using HJ.out⟩
   case round =>
    clear HJ e1
    obtain ⟨y, rfl, hy0, hyk, hJs⟩ := hrel
    by_cases hlt1 : y < (l1.length : Int)
    ·obtain ⟨hlen, hw⟩ := HK.out _ _ hJs
     obtain ⟨ad, rfl, hx0⟩ := Kd.zya hw.h1 y hy0 hlt1
     have c := decide_eq_true hlt1
     have HX := Lib.hid (rd_take l1 y hy0 hlt1)
     obtain ⟨fn, tmps, assign, body, hy, hR⟩ := HY.out _ (rd l1 y) _ hJs
     clear hw hJs
     have h0' := eq_true hy0
     have h1' := eq_true hlt1
     gi_wp2
     refine hR.mono ?_
     rintro e W3 (⟨rfl, hJ3⟩ | ⟨rfl, hl3, hJx3⟩)
     ·have HJ3 := Lib.hid hJ3
      clear hJ3
      gi_wp2
      go_roundw
      case rel => exact ⟨y + 1, by go_num, by omega, by omega, by rw [HX.out, ← List.append_assoc]; exact HJ3.out⟩
      case measure => simp [intOf]; omega
     ·exfalso
      rw [List.length_append, List.length_take] at hl3
      omega
    ·have e : y.toNat = l1.length := by omega
     rw [e, List.take_length] at hJs
     obtain ⟨-, hw⟩ := HK.out _ _ hJs
     have e1 := hw.b1
     have hp : (0 : Int) < l1.length := by omega
     obtain ⟨ad, rfl, hx0⟩ := Kd.zya hw.h1 0 (by omega) hp
     obtain ⟨fn, tmps, assign, body, hy, hR⟩ := HY.out _ (rd l1 0) _ hJs
     have HJ := Lib.hid hJs
     clear hJs hw
     have h1' := eq_true hp
     have c := decide_eq_true (show 0 < l1.length by omega)
     have hx1 : wr.cell? ad = some (.int .i64 (rd l1 0)) := by rw [show (0 : Int).toNat = 0 from rfl, addr_add0] at hx0; exact hx0
     clear hx0
     gi_wp2
     rw [roundsIn_succ]
     gi_wp2
     refine wpIn_loop_rounds 1 ?_
     rw [roundsIn_succ]
     gi_wp2
     refine hR.mono ?_
     rintro e W3 (⟨rfl, hJ3⟩ | ⟨rfl, hl3, hJx3⟩)
     ·exfalso
      have := (HK.out _ _ hJ3).1
      simp at this
      omega
     ·have HJ3 := Lib.hid hJx3
      clear hJx3
      gi_wp2
      refine bodyPost_ret (results_none rfl _ _ _) rfl ?_
      exact ⟨⟨_, rfl⟩, HJ3.out⟩
end Go.Proofs.YtfondhcppjkchaaGreat.Q
namespace Go.Proofs.YtfondhcppjkchaaGreat.Q
open Go.RowKit
def roundQ {α : Type} (B M : Nat) (id : Nat) (I Ix : List α → World → Prop) (pre : List α) (x : α) (W : World) : Exit → Act → World → Prop
 | .normal, _, W' => KeepsFrom B W W' ∧ I (pre ++ [x]) W'
 | .exit i, _, W' => i = id ∧ KeepsFrom B W W' ∧ pre.length = M ∧ Ix pre W'
 | _, _, _ => False
theorem wp_range_upto {F : Fence} {n : Nat} {P : Program} {g : Operand} {ps : Array Tmp} {assign body : Code} {Q : Exit → Act → World → Prop} {a : Act} {w : World} {α : Type}
  (hro : F.round = none) (h1 : 1 ≤ n) {gf : Nat} {lb : Array Value} (hg : a.eval g = .func (.func gf) #[] lb) (hF : F.fn gf) (eg : ∀ args w, (callFunc gf args).run P w = .ok (.enter gf args) w)
  (enc : α → Array Value) (hps : ∀ x, (enc x).size = ps.size) (M id : Nat) (xs : List α) (I Ix : List α → World → Prop) (hI : OwnFrom w.heap.size I) (hIx : OwnFrom w.heap.size Ix) (h0 : I [] w)
  (hseq : ∀ (l : Nat) (J Jx : List α → World → Prop) (W : World), (∀ pre W, J pre W → I pre W) →
   (∀ pre x W, J pre W → YieldAt F (n - 1 - 1) P l (enc x) W fun e W' => (e = .returned (.bool true) ∧ J (pre ++ [x]) W') ∨ (e = .returned (.bool false) ∧ pre.length = M ∧ Jx pre W')) →
   J [] W → CallsIn F (n - 1) P gf (#[.func (.yield l) #[] #[]] ++ lb) W fun e W' => (∃ v, e = .returned v) ∧ Jx xs W')
  (ax : α → Act)
  (hassign : ∀ (l : Nat) (x : α) (W : World) (K : Act → World → Prop), K (ax x) W → assign.wpIn (F.inRound l) (n - 1 - 1) P (Exit.then K (fun _ _ _ => False)) { tmps := (ps.zip (enc x)).foldl (fun t (p, v) => t.setIfInBounds p v) a.tmps, defers := [] } W)
  (hbody : ∀ (l : Nat) (pre : List α) (x : α) (W : World), I pre W → body.wpIn (F.inRound l) (n - 1 - 1) P (roundQ w.heap.size M id I Ix pre x W) (ax x) W)
  (hstop : ∀ (D : Nat) (W : World), w.heap.size ≤ D → Ix xs W → W.heap[D]? = some (.deferred (some [])) → (Code.exit id).wpIn F n P Q { a with defers := { target := .collected D, args := #[] } :: a.defers } W) :
  (Code.rangeFunc g ps assign body).wpIn F n P Q a w := by
 refine wpIn_rangeFunc ?_
 intro fn hfn
 rw [hro]
 generalize hB : w.heap.size = B at hI hIx hbody hstop
 obtain ⟨rd, hrd⟩ : ∃ rd : LoopState → Option Code → Loop, rd = fun st pe => { state := st, pending := pe, fn, tmps := a.tmps, params := ps, assign, body, defers := B } := ⟨_, rfl⟩
 obtain ⟨W0, hW0⟩ : ∃ W0, (w.alloc (.deferred (some []))).alloc (.loop (rd .ready none)) = W0 := ⟨_, rfl⟩
 have r0 : W0.heap[B + 1]? = some (.loop (rd .ready none)) := by
  have := World.alloc_heap_new (w.alloc (.deferred (some []))) (.loop (rd .ready none))
  rw [World.size_alloc, hB, hW0] at this
  exact this
 have d0 : W0.heap[B]? = some (.deferred (some [])) := by
  rw [← hW0, ← hB]
  exact (Below.heap_alloc _ _ _ (by simp)).trans (World.alloc_heap_new w _)
 have i0 : I [] W0 := by rw [← hW0]; exact hI.alloc _ (hI.alloc _ h0)
 have hen : (Instr.enterLoop fn a.tmps ps assign body none).run P w = .ok (B + 1, [{ target := .collected B, args := #[] }]) W0 := by
  rw [← hW0, hrd, ← hB]; exact run_enterLoop_outer _ _ _ _ _
 clear hW0 h0 hB
 refine ⟨B + 1, [{ target := .collected B, args := #[] }], W0, { target := .fn (.func gf) lb, args := #[.func (.yield (B + 1)) #[] #[]] }, W0, gf, #[.func (.yield (B + 1)) #[] #[]] ++ lb, W0, hen, ?_, ?_, ?_, fun _ => h1, ?_⟩
 ·simp only [resolve, hg]
  simp [go_sem]
 ·intro f' hf'
  simp [Target.leads] at hf'
  rw [← hf']; exact hF
 ·simp [invoke, go_sem, eg]
 ·refine (hseq (B + 1) (fun pre W => I pre W ∧ W.heap[B + 1]? = some (.loop (rd .ready none)) ∧ W.heap[B]? = some (.deferred (some [])))
   (fun pre W => Ix pre W ∧ W.heap[B + 1]? = some (.loop (rd .done (some (.exit id)))) ∧ W.heap[B]? = some (.deferred (some []))) W0 (fun pre W h => h.1) ?_ ⟨i0, r0, d0⟩).mono ?_
  ·rintro pre x W ⟨hi, hr, hd⟩
   have hlt : B + 1 < W.heap.size := (Array.getElem?_eq_some_iff.1 hr).1
   have hy := run_yield (P := P) (args := enc x) hr (by rw [hrd]; exact hps x)
   rw [hrd] at hy
   refine ⟨fn, _, assign, body, hy, roundIn_of_wpIn hfn (hassign _ x W _ ?_)⟩
   clear hy
   refine ⟨_, run_beginRound hr (by rw [hrd]), ?_⟩
   have hr2 : (W.putObj (B + 1) (.loop { rd .ready none with state := .busy })).heap[B + 1]? = some (.loop { rd .ready none with state := .busy }) := World.putObj_heap_same hlt
   have hd2 : (W.putObj (B + 1) (.loop { rd .ready none with state := .busy })).heap[B]? = some (.deferred (some [])) := (World.putObj_heap_other (by omega)).trans hd
   refine wpIn_mono (hbody _ pre x _ (hI.putObj _ hi (by omega) hr rfl)) ?_
   have fin : ∀ (jump : Option Code) (W3 : World), KeepsFrom B (W.putObj (B + 1) (.loop { rd .ready none with state := .busy })) W3 →
     (Instr.endRound (B + 1) jump).run P W3 = .ok (.bool jump.isNone) (W3.putObj (B + 1) (.loop (rd (if jump.isNone then .ready else .done) jump))) ∧
     W3.heap[B + 1]? = some (.loop { rd .ready none with state := .busy }) ∧
     (W3.putObj (B + 1) (.loop (rd (if jump.isNone then .ready else .done) jump))).heap[B + 1]? = some (.loop (rd (if jump.isNone then .ready else .done) jump)) ∧
     (W3.putObj (B + 1) (.loop (rd (if jump.isNone then .ready else .done) jump))).heap[B]? = some (.deferred (some [])) := by
    intro jump W3 hk
    have hl3 := hk.same _ _ (by omega) hr2 rfl
    refine ⟨?_, hl3, World.putObj_heap_same (Array.getElem?_eq_some_iff.1 hl3).1, (World.putObj_heap_other (by omega)).trans (hk.same _ _ (Nat.le_refl _) hd2 rfl)⟩
    have := run_endRound (P := P) jump hl3
    rw [hrd] at this ⊢
    exact this
   rintro e a3 W3 hp
   cases e with
   | normal =>
    obtain ⟨hk, hi3⟩ := hp
    obtain ⟨hr3, hl3, hl4, hd4⟩ := fin none W3 hk
    exact ⟨_, _, hr3, .inl ⟨rfl, hI.putObj _ hi3 (by omega) hl3 rfl, hl4, hd4⟩⟩
   | exit i =>
    obtain ⟨rfl, hk, hM, hi3⟩ := hp
    obtain ⟨hr3, hl3, hl4, hd4⟩ := fin (some (.exit i)) W3 hk
    exact ⟨_, _, hr3, .inr ⟨rfl, hM, hIx.putObj _ hi3 (by omega) hl3 rfl, hl4, hd4⟩⟩
   | ret => exact hp.elim
   | goto t => exact hp.elim
   | panic ch => exact hp.elim
   | outgrown => exact hp.elim
  ·rintro e W2 ⟨⟨v, rfl⟩, hi, hr, hd⟩
   have he := run_endLoop (P := P) hr (by rw [hrd]; simp)
   refine ⟨some (.exit id), W2.putObj (B + 1) (.loop { rd .done (some (.exit id)) with state := .exhausted }), ?_, hstop B _ (Nat.le_refl _) (hIx.putObj _ hi (by omega) hr rfl) ((World.putObj_heap_other (by omega)).trans hd)⟩
   rw [he, hrd]
end Go.Proofs.YtfondhcppjkchaaGreat.Q
