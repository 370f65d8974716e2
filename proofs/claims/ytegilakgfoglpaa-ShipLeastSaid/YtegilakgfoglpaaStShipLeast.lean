/- What the law ShipLeast asks, in plain Lean. -/
import Derived.Test.YtegilakgfoglpaaQ7
import Derived.Test.YtegilakgfoglpaaGd
namespace Go.Proofs.Ytegilakgfoglpaa.Gd
open Go.Proofs.Ytegilakgfoglpaa.Opn Go.Proofs.Ytegilakgfoglpaa.Q
def ShipLeast_Pure : Prop := ∀ (x0 : List (S39)) (x1 : Int) (x2 : List Int), (GoodL Gd39) x0 → In64 x1 → (GoodL In64) x2 → ∃ k, papermilllaw56_ShipLeast.f k x0 x1 x2 = some true
end Go.Proofs.Ytegilakgfoglpaa.Gd
