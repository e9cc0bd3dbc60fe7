/-
  No cell of these rows narrows 'for every input' (looked for: loops, veiled, ifaces, maps, wideKeys, modest, calm, conditions, laid).
  DERIVED. THE GIVEN ROWS OF THIS SEAT. 5 by the template 'for every input the law returns true; each argument reads behind the call as it read before'; 0 by the template 'total and deterministic' (their statements: YtlmmdpdkddmklabTotals.lean).
  GIVEN WITH THE SEED: the statements are not yours to turn. If you find one false, say at which input.
  Laid BY PROGRAM, IN A SANDBOX (cutbox-rows.mjs): the forced cells as the released guide's own fill.sh prints them over the translation 7b078292ea55a0a9… (all of the seat's roots in one cut). By AI agents, Wed Nov 11 2026. No macro, syntax, notation, axiom, sorry.
-/
import Derived.Test.YtlmmdpdkddmklabChecked
import GoSem.Claim
import GoSem.ClaimJoined
import GoSem.ClaimMapViews
import Derived.JoinedTies
import Derived.KernelRfl
namespace Go.Proofs.Ytlmmdpdkddmklab
/- THE CELL 'sum', in the pinned program and in every row, IS THE sha256 OF THE DUMP (.gsa) THAT YtlmmdpdkddmklabProg.lean LOADS. Nothing in Lean hashes anything: it is a label: what it is worth is what the hold of that sum in a sandbox is worth. -/
noncomputable def Try.pinned : Pinned := { name := "ytlmmdpdkddmklab", sum := "7b078292ea55a0a9b258a5067669142fd4f9318480071bf3099da66bd73b8a7f", checked := Try.checked }
namespace Rows
def none {H : Type} : Left H := { results := [], args := [] }

/-- 'carillonlaw23.DemandTells': WHATEVER THE INPUT: true; the input reads as it did. -/
def demandTellsSpec : ChangeSpec := { name := "demandTells", fn := fun _ => fun
  | [d1, d2, d3, d4] => { results := [.lit (.bool true)], args := [d1, d2, d3, d4] }
  | _ => none }
def demandTellsRow : OpenClaim := { program := "ytlmmdpdkddmklab", sum := "7b078292ea55a0a9b258a5067669142fd4f9318480071bf3099da66bd73b8a7f", func := "carillon/carillonlaw23.DemandTells", spec := "demandTells", unfollowed := true, recurses := true, apart := false }
def DemandTellsSaid : Prop := demandTellsRow.holds Try.pinned (OpenSpec.ofChange demandTellsSpec)

/-- ITS FALSE NEIGHBOUR: 'it returns false'. Refute it at one input. -/
def demandTellsWrong : ChangeSpec := { name := "demandTells", fn := fun _ => fun
  | [d1, d2, d3, d4] => { results := [.lit (.bool false)], args := [d1, d2, d3, d4] }
  | _ => none }
def DemandTellsWrongFalsely : Prop := demandTellsRow.holds Try.pinned (OpenSpec.ofChange demandTellsWrong)

/-- 'carillonlaw23.DemandEdf': WHATEVER THE INPUT: true; the input reads as it did. -/
def demandEdfSpec : ChangeSpec := { name := "demandEdf", fn := fun _ => fun
  | [d] => { results := [.lit (.bool true)], args := [d] }
  | _ => none }
def demandEdfRow : OpenClaim := { program := "ytlmmdpdkddmklab", sum := "7b078292ea55a0a9b258a5067669142fd4f9318480071bf3099da66bd73b8a7f", func := "carillon/carillonlaw23.DemandEdf", spec := "demandEdf", unfollowed := true, recurses := true, apart := false }
def DemandEdfSaid : Prop := demandEdfRow.holds Try.pinned (OpenSpec.ofChange demandEdfSpec)

/-- ITS FALSE NEIGHBOUR: 'it returns false'. Refute it at one input. -/
def demandEdfWrong : ChangeSpec := { name := "demandEdf", fn := fun _ => fun
  | [d] => { results := [.lit (.bool false)], args := [d] }
  | _ => none }
def DemandEdfWrongFalsely : Prop := demandEdfRow.holds Try.pinned (OpenSpec.ofChange demandEdfWrong)

/-- 'carillonlaw23.DemandBlock': WHATEVER THE INPUT: true; the input reads as it did. -/
def demandBlockSpec : ChangeSpec := { name := "demandBlock", fn := fun _ => fun
  | [d1, d2, d3] => { results := [.lit (.bool true)], args := [d1, d2, d3] }
  | _ => none }
def demandBlockRow : OpenClaim := { program := "ytlmmdpdkddmklab", sum := "7b078292ea55a0a9b258a5067669142fd4f9318480071bf3099da66bd73b8a7f", func := "carillon/carillonlaw23.DemandBlock", spec := "demandBlock", unfollowed := true, recurses := true, apart := false }
def DemandBlockSaid : Prop := demandBlockRow.holds Try.pinned (OpenSpec.ofChange demandBlockSpec)

/-- ITS FALSE NEIGHBOUR: 'it returns false'. Refute it at one input. -/
def demandBlockWrong : ChangeSpec := { name := "demandBlock", fn := fun _ => fun
  | [d1, d2, d3] => { results := [.lit (.bool false)], args := [d1, d2, d3] }
  | _ => none }
def DemandBlockWrongFalsely : Prop := demandBlockRow.holds Try.pinned (OpenSpec.ofChange demandBlockWrong)

/-- 'carillonlaw23.DemandMore': WHATEVER THE INPUT: true; the input reads as it did. -/
def demandMoreSpec : ChangeSpec := { name := "demandMore", fn := fun _ => fun
  | [d1, d2, d3, d4, d5] => { results := [.lit (.bool true)], args := [d1, d2, d3, d4, d5] }
  | _ => none }
def demandMoreRow : OpenClaim := { program := "ytlmmdpdkddmklab", sum := "7b078292ea55a0a9b258a5067669142fd4f9318480071bf3099da66bd73b8a7f", func := "carillon/carillonlaw23.DemandMore", spec := "demandMore", unfollowed := true, recurses := true, apart := false }
def DemandMoreSaid : Prop := demandMoreRow.holds Try.pinned (OpenSpec.ofChange demandMoreSpec)

/-- ITS FALSE NEIGHBOUR: 'it returns false'. Refute it at one input. -/
def demandMoreWrong : ChangeSpec := { name := "demandMore", fn := fun _ => fun
  | [d1, d2, d3, d4, d5] => { results := [.lit (.bool false)], args := [d1, d2, d3, d4, d5] }
  | _ => none }
def DemandMoreWrongFalsely : Prop := demandMoreRow.holds Try.pinned (OpenSpec.ofChange demandMoreWrong)

/-- 'carillonlaw23.DemandOrder': WHATEVER THE INPUT: true; the input reads as it did. -/
def demandOrderSpec : ChangeSpec := { name := "demandOrder", fn := fun _ => fun
  | [d1, d2, d3, d4, d5] => { results := [.lit (.bool true)], args := [d1, d2, d3, d4, d5] }
  | _ => none }
def demandOrderRow : OpenClaim := { program := "ytlmmdpdkddmklab", sum := "7b078292ea55a0a9b258a5067669142fd4f9318480071bf3099da66bd73b8a7f", func := "carillon/carillonlaw23.DemandOrder", spec := "demandOrder", unfollowed := true, recurses := true, apart := false }
def DemandOrderSaid : Prop := demandOrderRow.holds Try.pinned (OpenSpec.ofChange demandOrderSpec)

/-- ITS FALSE NEIGHBOUR: 'it returns false'. Refute it at one input. -/
def demandOrderWrong : ChangeSpec := { name := "demandOrder", fn := fun _ => fun
  | [d1, d2, d3, d4, d5] => { results := [.lit (.bool false)], args := [d1, d2, d3, d4, d5] }
  | _ => none }
def DemandOrderWrongFalsely : Prop := demandOrderRow.holds Try.pinned (OpenSpec.ofChange demandOrderWrong)

/- THE SECOND FORM. 'bulk': how many values and letters a reading holds, each counted each time it is reached (what is shared counts as often as it is met; a slice's spare places count too). A statement '..UptoSaid' is the law's where the arguments, and the package variables that the reading takes, are together of bulk at most 1048576: NARROWER than '..Said'. Prove '..Said' where nothing that the law and all that it calls make is longer than what came in: it says more and counts as full. Else prove '..UptoSaid'. A law counts once. -/
mutual
def uptoBulk {H : Type} : DataW H → Nat
  | .lit (.string bytes) => bytes.length + 1
  | .lit _ => 1
  | .nil => 1
  | .ptr d => uptoBulk d + 1
  | .slice elems spare => uptoBulkAll elems + uptoBulkAll spare + 1
  | .agg parts => uptoBulkAll parts + 1
  | .iface _ d => uptoBulk d + 1
  | .map entries => uptoBulkEntries entries + 1
  | .held _ => 1
def uptoBulkAll {H : Type} : List (DataW H) → Nat
  | [] => 0
  | d :: r => uptoBulk d + uptoBulkAll r
def uptoBulkEntries {H : Type} : List (Lit × DataW H) → Nat
  | [] => 0
  | x :: r => uptoBulkEntry x + uptoBulkEntries r
def uptoBulkEntry {H : Type} : Lit × DataW H → Nat
  | (.string bytes, d) => bytes.length + uptoBulk d + 1
  | (_, d) => uptoBulk d + 1
 end
def uptoSmall : (H : Type) → List (DataW H) → Bool := fun _ ds => decide (uptoBulkAll ds ≤ 1048576)
def OpenSpec.upto (s : _root_.Go.ChangeSpec) : _root_.Go.OpenSpec := { _root_.Go.OpenSpec.ofChange s with cond := some uptoSmall }

/-- 'carillonlaw23.DemandTells', WHERE WHAT IT READS IS OF BULK AT MOST 1048576: true; the input reads as it did. -/
def demandTellsUptoRow : OpenClaim := { program := "ytlmmdpdkddmklab", sum := "7b078292ea55a0a9b258a5067669142fd4f9318480071bf3099da66bd73b8a7f", func := "carillon/carillonlaw23.DemandTells", spec := "demandTells", unfollowed := true, recurses := true, apart := false, narrowed := true }
def DemandTellsUptoSaid : Prop := demandTellsUptoRow.holds Try.pinned (OpenSpec.upto demandTellsSpec)

/-- 'carillonlaw23.DemandEdf', WHERE WHAT IT READS IS OF BULK AT MOST 1048576: true; the input reads as it did. -/
def demandEdfUptoRow : OpenClaim := { program := "ytlmmdpdkddmklab", sum := "7b078292ea55a0a9b258a5067669142fd4f9318480071bf3099da66bd73b8a7f", func := "carillon/carillonlaw23.DemandEdf", spec := "demandEdf", unfollowed := true, recurses := true, apart := false, narrowed := true }
def DemandEdfUptoSaid : Prop := demandEdfUptoRow.holds Try.pinned (OpenSpec.upto demandEdfSpec)

/-- 'carillonlaw23.DemandBlock', WHERE WHAT IT READS IS OF BULK AT MOST 1048576: true; the input reads as it did. -/
def demandBlockUptoRow : OpenClaim := { program := "ytlmmdpdkddmklab", sum := "7b078292ea55a0a9b258a5067669142fd4f9318480071bf3099da66bd73b8a7f", func := "carillon/carillonlaw23.DemandBlock", spec := "demandBlock", unfollowed := true, recurses := true, apart := false, narrowed := true }
def DemandBlockUptoSaid : Prop := demandBlockUptoRow.holds Try.pinned (OpenSpec.upto demandBlockSpec)

/-- 'carillonlaw23.DemandMore', WHERE WHAT IT READS IS OF BULK AT MOST 1048576: true; the input reads as it did. -/
def demandMoreUptoRow : OpenClaim := { program := "ytlmmdpdkddmklab", sum := "7b078292ea55a0a9b258a5067669142fd4f9318480071bf3099da66bd73b8a7f", func := "carillon/carillonlaw23.DemandMore", spec := "demandMore", unfollowed := true, recurses := true, apart := false, narrowed := true }
def DemandMoreUptoSaid : Prop := demandMoreUptoRow.holds Try.pinned (OpenSpec.upto demandMoreSpec)

/-- 'carillonlaw23.DemandOrder', WHERE WHAT IT READS IS OF BULK AT MOST 1048576: true; the input reads as it did. -/
def demandOrderUptoRow : OpenClaim := { program := "ytlmmdpdkddmklab", sum := "7b078292ea55a0a9b258a5067669142fd4f9318480071bf3099da66bd73b8a7f", func := "carillon/carillonlaw23.DemandOrder", spec := "demandOrder", unfollowed := true, recurses := true, apart := false, narrowed := true }
def DemandOrderUptoSaid : Prop := demandOrderUptoRow.holds Try.pinned (OpenSpec.upto demandOrderSpec)

end Rows
end Go.Proofs.Ytlmmdpdkddmklab
