/- What the law ShipFinds asks, in plain Lean. -/
import Derived.Test.YtegilakgfoglpaaQ9
import Derived.Test.YtegilakgfoglpaaGd
namespace Go.Proofs.Ytegilakgfoglpaa.Gd
open Go.Proofs.Ytegilakgfoglpaa.Opn Go.Proofs.Ytegilakgfoglpaa.Q
def ShipFinds_Pure : Prop := ∀ (x0 : List (S44)) (x1 : Int), (GoodL Gd44) x0 → In64 x1 → ∃ k, papermilllaw56_ShipFinds.f k x0 x1 = some true
end Go.Proofs.Ytegilakgfoglpaa.Gd
