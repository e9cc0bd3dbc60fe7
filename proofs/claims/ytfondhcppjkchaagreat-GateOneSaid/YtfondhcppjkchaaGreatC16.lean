import Derived.Test.YtfondhcppjkchaaGreatC6
import Derived.Test.YtfondhcppjkchaaGreatC15
set_option maxHeartbeats 40000000
set_option maxRecDepth 100000
set_option linter.unusedVariables false
set_option linter.unusedSimpArgs false
namespace Go.Proofs.YtfondhcppjkchaaGreat.Q
open Go.RowKit Go.Proofs.YtfondhcppjkchaaGreatW.PrintWords Go.Proofs.YtfondhcppjkchaaGreatW.PrintLast
open Go.Proofs.YtfondhcppjkchaaGreatW.PrintMore
open Classical in
noncomputable def lim {α : Type} (f : Nat → Option α) : Option α := if h : ∃ r k, f k = some r then some h.choose else none
theorem zob {α : Type} {f : Nat → Option α} {r : α} (h : lim f = some r) : ∃ k, f k = some r := by
 unfold lim at h
 split at h
 ·rename_i hr
  obtain ⟨k, hk⟩ := hr.choose_spec
  exact ⟨k, by rw [hk, ← h]⟩
 ·cases h
theorem leO_add {α : Type} {f : Nat → Option α} (m : ∀ k, LeO (f k) (f (k + 1))) {k : Nat} {r : α} (h : f k = some r) (d : Nat) : f (k + d) = some r := by
 induction d with
 | zero => exact h
 | succ d ih => exact m _ _ ih
theorem zqb {α : Type} {f : Nat → Option α} (m : ∀ k, LeO (f k) (f (k + 1))) {k : Nat} {r : α} (h : f k = some r) : lim f = some r := by
 have hr : ∃ r k, f k = some r := ⟨r, k, h⟩
 unfold lim
 rw [dif_pos hr]
 obtain ⟨k', hk⟩ := hr.choose_spec
 have e1 := leO_add m h k'
 have e2 := leO_add m hk k
 rw [Nat.add_comm] at e2
 rw [e1] at e2
 exact e2.symm
noncomputable def unfold_Of.f (l0 : List S78) (l1 : List S68) : Option (Int × Int × Int) :=
 (lim fun k => tasks_May.f k l0 l1).bind fun r => if r = 0 then (if l0.all fitT = true then some (ofS l0) else none) else none
theorem unfold_Of.calls (A0 : Option Addr) (c0 : Nat) (l0 : List S78) (A1 : Option Addr) (c1 : Nat) (l1 : List S68) (r1 r2 r3 : Int) (w : World) (hr0 : Kd.C k78 w A0 l0.length l0) (hc0 : l0.length ≤ c0) (hr1 : Kd.C k68 w A1 l1.length l1) (hc1 : l1.length ≤ c1) (h : unfold_Of.f l0 l1 = some (r1, r2, r3)) :
  Calls Tryz.prog 29 #[.slice A0 l0.length c0, .slice A1 l1.length c1] w fun e w' => e = .returned (.tuple #[.agg #[.int .i64 r1, .int .i64 r2], .int .i64 r3]) ∧ Below w.heap.size w w' := by
 unfold unfold_Of.f at h
 obtain ⟨r, hr, h⟩ := Option.bind_eq_some_iff.mp h
 obtain ⟨k, hk⟩ := zob hr
 by_cases h0 : r = 0
 ·subst h0
  have hm : ∀ W, Below w.heap.size w W → Calls Tryz.prog 53 #[.slice A0 l0.length c0, .slice A1 l1.length c1] W fun e w' => e = .returned (.int .i64 0) ∧ Below W.heap.size W w' := fun W hW =>
   tasks_May.calls k A0 c0 l0 A1 c1 l1 0 W (Kd.zu hr0 hW) hc0 (Kd.zu hr1 hW) hc1 hk
  rw [if_pos rfl] at h
  split at h
  ·rename_i hf
   injection h with h
   have := of_go A0 A1 c0 c1 l1.length l0 w hr0 hc0 (List.all_eq_true.mp hf) hm
   rw [h] at this
   exact this
  ·cases h
 ·rw [if_neg h0] at h
  cases h
end Go.Proofs.YtfondhcppjkchaaGreat.Q
