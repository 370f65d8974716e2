/- What the law ShipOnce asks, in plain Lean. -/
import Derived.Test.YtegilakgfoglpaaQ7
import Derived.Test.YtegilakgfoglpaaGd
namespace Go.Proofs.Ytegilakgfoglpaa.Gd
open Go.Proofs.Ytegilakgfoglpaa.Opn Go.Proofs.Ytegilakgfoglpaa.Q
def ShipOnce_Pure : Prop := ∀ (x0 : List (S39)) (x1 : Int), (GoodL Gd39) x0 → In64 x1 → ∃ k, papermilllaw56_ShipOnce.f k x0 x1 = some true
end Go.Proofs.Ytegilakgfoglpaa.Gd
