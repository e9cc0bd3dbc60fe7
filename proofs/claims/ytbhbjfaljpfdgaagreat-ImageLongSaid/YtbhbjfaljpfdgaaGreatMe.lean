/- Reading a zero; a drawn region whose orders all end alike. -/
import Derived.Test.YtbhbjfaljpfdgaaGreatMd
namespace Go.Proofs.YtbhbjfaljpfdgaaGreat
open Go.RowKit
set_option linter.unusedVariables false
theorem wp_at {P : Program} {c : Code} {Q : Exit → Act → World → Prop} {a : Act} {w : World} (A : Act) (W : World) (h : c.wp P (fun e a w => match e with | .normal => a = A ∧ w = W | _ => False) a w) (hq : Q .normal A W) : c.wp P Q a w :=
  Code.wp_mono (fun e a w q => by
    cases e with
    | normal => obtain ⟨rfl, rfl⟩ := q; exact hq
    | _ => exact q.elim) h
set_option maxRecDepth 100000 in
set_option maxHeartbeats 4000000 in
theorem get_zero (b : Nat) (s : ByteArray) (w : World) (hp : 0 < s.size) (h0 : s[0] = 0) (hne : s.toList.isEmpty = false) (hc : w.cell? ⟨b, 0, none⟩ = some (.string s)) (hz : w.frozen? ⟨b, 0, none⟩ = false) :
    Calls Tryz.prog 97 #[.pointer (some ⟨b, 0, none⟩)] w fun e w' => e = .returned (.int .i64 0) ∧ w' = w.setCell ⟨b, 0, none⟩ (.string (s.extract 1 s.size)) := by
  go_enter Tryz.func97, Tryz.ntmps97
  go_wp2
  go_rounds 1
  go_returns
  refine ⟨?_, rfl⟩
  show Ending.returned (Value.int .i64 _) = _
  exact congrArg (fun x => Ending.returned (Value.int .i64 x)) (by kernel_rfl)
end Go.Proofs.YtbhbjfaljpfdgaaGreat
