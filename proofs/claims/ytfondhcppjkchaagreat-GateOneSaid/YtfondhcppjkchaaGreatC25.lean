import Init
set_option maxHeartbeats 40000000
set_option maxRecDepth 100000
set_option linter.unusedVariables false
set_option linter.unusedSimpArgs false
namespace Go.Proofs.YtfondhcppjkchaaGreat.Q
structure Edge where
 src : Int × Int
 dst : Int × Int
 more : Int
abbrev Fn := Int × Int → Int
def Sol (P : Fn) (es : List Edge) : Prop := ∀ e ∈ es, P e.src ≤ P e.dst + e.more
structure Great (P f : Fn) (es : List Edge) : Prop where
 sol : Sol P es
 le : ∀ k, P k ≤ f k
 top : ∀ Q, Sol Q es → (∀ k, Q k ≤ f k) → ∀ k, Q k ≤ P k
def gap (P f : Fn) (ks : List (Int × Int)) : Nat := (ks.map fun k => (f k - P k).toNat).sum
end Go.Proofs.YtfondhcppjkchaaGreat.Q
