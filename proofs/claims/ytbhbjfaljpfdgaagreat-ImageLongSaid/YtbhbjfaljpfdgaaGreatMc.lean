/- What the decoder gives up, and who takes it. -/
import Derived.Test.YtbhbjfaljpfdgaaGreatMb
import Derived.RegionCalls
import Derived.WalkSmall
namespace Go.Proofs.YtbhbjfaljpfdgaaGreat
open Go.RowKit
set_option linter.unusedVariables false
set_option maxRecDepth 100000 in
theorem bad_dies (w : World) : Calls Tryz.prog 36 #[] w fun e w' => e = .panicked [{ v := .iface 29 (.int .i64 8), recovered := false }] ∧ w' = w := by
  go_enter Tryz.func36, Tryz.ntmps36
  go_wp2
  exact ⟨rfl, rfl, rfl⟩
set_option maxRecDepth 100000 in
set_option maxHeartbeats 1000000 in
theorem caught_panicking (p : Addr) (x : Int) (older : List PanicEntry) (w : World) (hc : w.cell? p = some (.int .i64 x)) (hz : w.frozen? p = false) :
    CallsD Tryz.prog 34 #[.pointer (some p)] (.panicking ({ v := .iface 29 (.int .i64 8), recovered := false } :: older)) w fun e u' w' =>
      e = .returned (.tuple #[]) ∧ u' = .panicking ({ v := .iface 29 (.int .i64 8), recovered := true } :: older) ∧ w' = w.setCell p (.int .i64 8) := by
  have hta : ∀ w, (Instr.typeAssert (.iface 29 (.int .i64 8)) 20 29 true).run Tryz.prog w = .ok (.tuple #[.int .i64 8, .bool true]) w := fun w => by
    simp [Instr.typeAssert, go_sem]
  refine callsD_of_wpS Tryz.func34 rfl fun c₀ cs hu => ?_
  apply wpS_seq
  apply wpS_region
  simp [wpOpsS, go_sem, recoverD, hu, Tryz.ntmps34, Exit.thenS]
  refine wpS_of_wp ?_
  generalize hT : (#[Value.pointer (some p)] ++ _ : Array Value) = T
  have hT' : T = #[.pointer (some p), undef, .iface 29 (.int .i64 8), undef, undef, .iface 29 (.int .i64 8), undef, undef, undef, undef, undef, undef, undef, undef, undef, undef, undef, undef, undef] := by rw [← hT]; rfl
  clear hT
  subst hT'
  go_wp2
  simp [bodyPostS, results, Tryz.results34]
set_option maxRecDepth 100000 in
theorem clear_some (pe : Addr) (b : Nat) (x : Int) (hx : (x != 0) = true) (u : FrameMode) (w : World) (hc : w.cell? pe = some (.int .i64 x)) (h0 : w.cell? ⟨b, 0, none⟩ = some nl) (h1 : w.cell? ⟨b, 1, none⟩ = some nl) (h2 : w.cell? ⟨b, 2, none⟩ = some nl)
    (z0 : w.frozen? ⟨b, 0, none⟩ = false) (z1 : w.frozen? ⟨b, 1, none⟩ = false) (z2 : w.frozen? ⟨b, 2, none⟩ = false) :
    CallsD Tryz.prog 33 #[.pointer (some pe), .pointer (some ⟨b, 0, none⟩)] u w fun e u' w' => u' = u ∧ e = .returned (.tuple #[]) ∧ w' = ((w.setCell ⟨b, 0, none⟩ nl).setCell ⟨b, 1, none⟩ nl).setCell ⟨b, 2, none⟩ nl := by
  go_enter_d Tryz.func33, Tryz.ntmps33
  go_wp2
  go_end0
  exact ⟨rfl, rfl⟩
theorem clear_none (pe pi : Addr) (u : FrameMode) (w : World) (hc : w.cell? pe = some (.int .i64 0)) :
    CallsD Tryz.prog 33 #[.pointer (some pe), .pointer (some pi)] u w fun e u' w' => u' = u ∧ e = .returned (.tuple #[]) ∧ w' = w := by
  go_enter_d Tryz.func33, Tryz.ntmps33
  go_wp2
  go_end0
  exact ⟨rfl, rfl⟩
end Go.Proofs.YtbhbjfaljpfdgaaGreat
