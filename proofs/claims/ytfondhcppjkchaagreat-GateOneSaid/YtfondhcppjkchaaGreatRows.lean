/-
  No cell of these rows narrows 'for every input' (looked for: loops, veiled, ifaces, maps, wideKeys, modest, calm, conditions, laid).
  DERIVED. THE GIVEN ROWS OF THIS SEAT. 5 by the template 'for every input the law returns true; each argument reads behind the call as it read before'; 0 by the template 'total and deterministic' (their statements: YtfondhcppjkchaaGreatTotals.lean).
  GIVEN WITH THE SEED: the statements are not yours to turn. If you find one false, say at which input.
  Laid BY PROGRAM, IN A SANDBOX (cutbox-rows.mjs): the forced cells as the released guide's own fill.sh prints them over the translation 85388ae59d8dba95… (all of the seat's roots in one cut). By AI agents, Wed Nov 11 2026. No macro, syntax, notation, axiom, sorry.
-/
import Derived.Test.YtfondhcppjkchaaGreatChecked
import GoSem.Claim
import GoSem.ClaimJoined
import GoSem.ClaimMapViews
import Derived.JoinedTies
import Derived.KernelRfl
namespace Go.Proofs.YtfondhcppjkchaaGreat
/- THE CELL 'sum', in the pinned program and in every row, IS THE sha256 OF THE DUMP (.gsa) THAT YtfondhcppjkchaaGreatProg.lean LOADS. Nothing in Lean hashes anything: it is a label: what it is worth is what the hold of that sum in a sandbox is worth. -/
noncomputable def Tryz.pinned : Pinned := { name := "ytfondhcppjkchaagreat", sum := "85388ae59d8dba954d6e9c50c5e4a00cc8c968ef78352e3d4ccc26e467be896a", checked := Tryz.checked }
namespace Rows
def none {H : Type} : Left H := { results := [], args := [] }

/-- 'carillonlaw24.GateTells': WHATEVER THE INPUT: true; the input reads as it did. -/
def gateTellsSpec : ChangeSpec := { name := "gateTells", fn := fun _ => fun
  | [d1, d2, d3, d4] => { results := [.lit (.bool true)], args := [d1, d2, d3, d4] }
  | _ => none }
def gateTellsRow : OpenClaim := { program := "ytfondhcppjkchaagreat", sum := "85388ae59d8dba954d6e9c50c5e4a00cc8c968ef78352e3d4ccc26e467be896a", func := "carillon/carillonlaw24.GateTells", spec := "gateTells", unfollowed := true, recurses := true, plainKeys := false, apart := false }
def GateTellsSaid : Prop := gateTellsRow.holds Tryz.pinned (OpenSpec.ofChange gateTellsSpec)

/-- ITS FALSE NEIGHBOUR: 'it returns false'. Refute it at one input. -/
def gateTellsWrong : ChangeSpec := { name := "gateTells", fn := fun _ => fun
  | [d1, d2, d3, d4] => { results := [.lit (.bool false)], args := [d1, d2, d3, d4] }
  | _ => none }
def GateTellsWrongFalsely : Prop := gateTellsRow.holds Tryz.pinned (OpenSpec.ofChange gateTellsWrong)

/-- 'carillonlaw24.GateHolds': WHATEVER THE INPUT: true; the input reads as it did. -/
def gateHoldsSpec : ChangeSpec := { name := "gateHolds", fn := fun _ => fun
  | [d1, d2, d3, d4, d5] => { results := [.lit (.bool true)], args := [d1, d2, d3, d4, d5] }
  | _ => none }
def gateHoldsRow : OpenClaim := { program := "ytfondhcppjkchaagreat", sum := "85388ae59d8dba954d6e9c50c5e4a00cc8c968ef78352e3d4ccc26e467be896a", func := "carillon/carillonlaw24.GateHolds", spec := "gateHolds", unfollowed := true, recurses := true, plainKeys := false, apart := false }
def GateHoldsSaid : Prop := gateHoldsRow.holds Tryz.pinned (OpenSpec.ofChange gateHoldsSpec)

/-- ITS FALSE NEIGHBOUR: 'it returns false'. Refute it at one input. -/
def gateHoldsWrong : ChangeSpec := { name := "gateHolds", fn := fun _ => fun
  | [d1, d2, d3, d4, d5] => { results := [.lit (.bool false)], args := [d1, d2, d3, d4, d5] }
  | _ => none }
def GateHoldsWrongFalsely : Prop := gateHoldsRow.holds Tryz.pinned (OpenSpec.ofChange gateHoldsWrong)

/-- 'carillonlaw24.GateLess': WHATEVER THE INPUT: true; the input reads as it did. -/
def gateLessSpec : ChangeSpec := { name := "gateLess", fn := fun _ => fun
  | [d1, d2, d3, d4] => { results := [.lit (.bool true)], args := [d1, d2, d3, d4] }
  | _ => none }
def gateLessRow : OpenClaim := { program := "ytfondhcppjkchaagreat", sum := "85388ae59d8dba954d6e9c50c5e4a00cc8c968ef78352e3d4ccc26e467be896a", func := "carillon/carillonlaw24.GateLess", spec := "gateLess", unfollowed := true, recurses := true, plainKeys := false, apart := false }
def GateLessSaid : Prop := gateLessRow.holds Tryz.pinned (OpenSpec.ofChange gateLessSpec)

/-- ITS FALSE NEIGHBOUR: 'it returns false'. Refute it at one input. -/
def gateLessWrong : ChangeSpec := { name := "gateLess", fn := fun _ => fun
  | [d1, d2, d3, d4] => { results := [.lit (.bool false)], args := [d1, d2, d3, d4] }
  | _ => none }
def GateLessWrongFalsely : Prop := gateLessRow.holds Tryz.pinned (OpenSpec.ofChange gateLessWrong)

/-- 'carillonlaw24.GateOne': WHATEVER THE INPUT: true; the input reads as it did. -/
def gateOneSpec : ChangeSpec := { name := "gateOne", fn := fun _ => fun
  | [d1, d2, d3, d4] => { results := [.lit (.bool true)], args := [d1, d2, d3, d4] }
  | _ => none }
def gateOneRow : OpenClaim := { program := "ytfondhcppjkchaagreat", sum := "85388ae59d8dba954d6e9c50c5e4a00cc8c968ef78352e3d4ccc26e467be896a", func := "carillon/carillonlaw24.GateOne", spec := "gateOne", unfollowed := true, recurses := true, plainKeys := false, apart := false }
def GateOneSaid : Prop := gateOneRow.holds Tryz.pinned (OpenSpec.ofChange gateOneSpec)

/-- ITS FALSE NEIGHBOUR: 'it returns false'. Refute it at one input. -/
def gateOneWrong : ChangeSpec := { name := "gateOne", fn := fun _ => fun
  | [d1, d2, d3, d4] => { results := [.lit (.bool false)], args := [d1, d2, d3, d4] }
  | _ => none }
def GateOneWrongFalsely : Prop := gateOneRow.holds Tryz.pinned (OpenSpec.ofChange gateOneWrong)

/-- 'carillonlaw24.GateSlower': WHATEVER THE INPUT: true; the input reads as it did. -/
def gateSlowerSpec : ChangeSpec := { name := "gateSlower", fn := fun _ => fun
  | [d1, d2, d3, d4] => { results := [.lit (.bool true)], args := [d1, d2, d3, d4] }
  | _ => none }
def gateSlowerRow : OpenClaim := { program := "ytfondhcppjkchaagreat", sum := "85388ae59d8dba954d6e9c50c5e4a00cc8c968ef78352e3d4ccc26e467be896a", func := "carillon/carillonlaw24.GateSlower", spec := "gateSlower", unfollowed := true, recurses := true, plainKeys := false, apart := false }
def GateSlowerSaid : Prop := gateSlowerRow.holds Tryz.pinned (OpenSpec.ofChange gateSlowerSpec)

/-- ITS FALSE NEIGHBOUR: 'it returns false'. Refute it at one input. -/
def gateSlowerWrong : ChangeSpec := { name := "gateSlower", fn := fun _ => fun
  | [d1, d2, d3, d4] => { results := [.lit (.bool false)], args := [d1, d2, d3, d4] }
  | _ => none }
def GateSlowerWrongFalsely : Prop := gateSlowerRow.holds Tryz.pinned (OpenSpec.ofChange gateSlowerWrong)

/- THE SECOND FORM. 'bulk': how many values and letters a reading holds, each counted each time it is reached (what is shared counts as often as it is met; a slice's spare places count too). A statement '..UptoSaid' is the law's where the arguments, and the package variables that the reading takes, are together of bulk at most 1048576: NARROWER than '..Said'. Prove '..Said' where nothing that the law and all that it calls make is longer than what came in: it says more and counts as full. Else prove '..UptoSaid'. A law counts once. -/
mutual
def uptoBulk {H : Type} : DataW H → Nat
  | .lit (.string bytes) => bytes.length + 1
  | .lit _ => 1
  | .nil => 1
  | .ptr d => uptoBulk d + 1
  | .slice elems spare => uptoBulkAll elems + uptoBulkAll spare + 1
  | .agg parts => uptoBulkAll parts + 1
  | .iface _ d => uptoBulk d + 1
  | .map entries => uptoBulkEntries entries + 1
  | .held _ => 1
def uptoBulkAll {H : Type} : List (DataW H) → Nat
  | [] => 0
  | d :: r => uptoBulk d + uptoBulkAll r
def uptoBulkEntries {H : Type} : List (Lit × DataW H) → Nat
  | [] => 0
  | x :: r => uptoBulkEntry x + uptoBulkEntries r
def uptoBulkEntry {H : Type} : Lit × DataW H → Nat
  | (.string bytes, d) => bytes.length + uptoBulk d + 1
  | (_, d) => uptoBulk d + 1
 end
def uptoSmall : (H : Type) → List (DataW H) → Bool := fun _ ds => decide (uptoBulkAll ds ≤ 1048576)
def OpenSpec.upto (s : _root_.Go.ChangeSpec) : _root_.Go.OpenSpec := { _root_.Go.OpenSpec.ofChange s with cond := some uptoSmall }

/-- 'carillonlaw24.GateTells', WHERE WHAT IT READS IS OF BULK AT MOST 1048576: true; the input reads as it did. -/
def gateTellsUptoRow : OpenClaim := { program := "ytfondhcppjkchaagreat", sum := "85388ae59d8dba954d6e9c50c5e4a00cc8c968ef78352e3d4ccc26e467be896a", func := "carillon/carillonlaw24.GateTells", spec := "gateTells", unfollowed := true, recurses := true, plainKeys := false, apart := false, narrowed := true }
def GateTellsUptoSaid : Prop := gateTellsUptoRow.holds Tryz.pinned (OpenSpec.upto gateTellsSpec)

/-- 'carillonlaw24.GateHolds', WHERE WHAT IT READS IS OF BULK AT MOST 1048576: true; the input reads as it did. -/
def gateHoldsUptoRow : OpenClaim := { program := "ytfondhcppjkchaagreat", sum := "85388ae59d8dba954d6e9c50c5e4a00cc8c968ef78352e3d4ccc26e467be896a", func := "carillon/carillonlaw24.GateHolds", spec := "gateHolds", unfollowed := true, recurses := true, plainKeys := false, apart := false, narrowed := true }
def GateHoldsUptoSaid : Prop := gateHoldsUptoRow.holds Tryz.pinned (OpenSpec.upto gateHoldsSpec)

/-- 'carillonlaw24.GateLess', WHERE WHAT IT READS IS OF BULK AT MOST 1048576: true; the input reads as it did. -/
def gateLessUptoRow : OpenClaim := { program := "ytfondhcppjkchaagreat", sum := "85388ae59d8dba954d6e9c50c5e4a00cc8c968ef78352e3d4ccc26e467be896a", func := "carillon/carillonlaw24.GateLess", spec := "gateLess", unfollowed := true, recurses := true, plainKeys := false, apart := false, narrowed := true }
def GateLessUptoSaid : Prop := gateLessUptoRow.holds Tryz.pinned (OpenSpec.upto gateLessSpec)

/-- 'carillonlaw24.GateOne', WHERE WHAT IT READS IS OF BULK AT MOST 1048576: true; the input reads as it did. -/
def gateOneUptoRow : OpenClaim := { program := "ytfondhcppjkchaagreat", sum := "85388ae59d8dba954d6e9c50c5e4a00cc8c968ef78352e3d4ccc26e467be896a", func := "carillon/carillonlaw24.GateOne", spec := "gateOne", unfollowed := true, recurses := true, plainKeys := false, apart := false, narrowed := true }
def GateOneUptoSaid : Prop := gateOneUptoRow.holds Tryz.pinned (OpenSpec.upto gateOneSpec)

/-- 'carillonlaw24.GateSlower', WHERE WHAT IT READS IS OF BULK AT MOST 1048576: true; the input reads as it did. -/
def gateSlowerUptoRow : OpenClaim := { program := "ytfondhcppjkchaagreat", sum := "85388ae59d8dba954d6e9c50c5e4a00cc8c968ef78352e3d4ccc26e467be896a", func := "carillon/carillonlaw24.GateSlower", spec := "gateSlower", unfollowed := true, recurses := true, plainKeys := false, apart := false, narrowed := true }
def GateSlowerUptoSaid : Prop := gateSlowerUptoRow.holds Tryz.pinned (OpenSpec.upto gateSlowerSpec)

end Rows
end Go.Proofs.YtfondhcppjkchaaGreat
