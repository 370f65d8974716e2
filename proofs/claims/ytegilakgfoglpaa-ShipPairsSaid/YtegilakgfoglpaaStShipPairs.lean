/- What the law ShipPairs asks, in plain Lean. -/
import Derived.Test.YtegilakgfoglpaaQ8
import Derived.Test.YtegilakgfoglpaaGd
namespace Go.Proofs.Ytegilakgfoglpaa.Gd
open Go.Proofs.Ytegilakgfoglpaa.Opn Go.Proofs.Ytegilakgfoglpaa.Q
def ShipPairs_Pure : Prop := ∀ (x0 : List (S39)) (x1 : Int) (x2 : Int) (x3 : Int), (GoodL Gd39) x0 → In64 x1 → In64 x2 → In64 x3 → ∃ k, papermilllaw56_ShipPairs.f k x0 x1 x2 x3 = some true
end Go.Proofs.Ytegilakgfoglpaa.Gd
