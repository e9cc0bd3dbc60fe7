import Derived.Test.YtlmmdpdkddmklabPd
import Derived.Test.YtlmmdpdkddmklabQx3
import Derived.Test.YtlmmdpdkddmklabRk
namespace Go.Proofs.Ytlmmdpdkddmklab.Q
open Go.RowKit Go.Proofs.YtlmmdpdkddmklabW.PrintWords Go.Proofs.YtlmmdpdkddmklabW.PrintLast
set_option linter.unusedVariables false

theorem copied_eq (l : List S38) (h : l.length < 5864062014805) : carillonlaw23_copied.f l = some l := by
  unfold carillonlaw23_copied.f
  rw [if_pos (by simpa using h)]
  rfl
theorem works_bind : Ev (fun k => (carillonlaw23_works.f k).bind fun t => some t) true := Ev.bind works_eq (Ev.now _)
theorem dem_far {l : List S38} (h : ∀ w ∈ l, Okw w) (a : Int) {b b' : Int} (hb : 2251799813685248 ≤ b) (hb' : 2251799813685248 ≤ b') : dem l a b = dem l a b' := by
  rw [dem_all (fun w hw => by have := (h w hw).d1; omega), dem_all (fun w hw => by have := (h w hw).d1; omega)]

end Go.Proofs.Ytlmmdpdkddmklab.Q
