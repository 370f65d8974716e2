/- What the law ShipChecks asks, in plain Lean. -/
import Derived.Test.YtegilakgfoglpaaQ9
import Derived.Test.YtegilakgfoglpaaGd
namespace Go.Proofs.Ytegilakgfoglpaa.Gd
open Go.Proofs.Ytegilakgfoglpaa.Opn Go.Proofs.Ytegilakgfoglpaa.Q
def ShipChecks_Pure : Prop := ∀ (x0 : List (S44)), (GoodL Gd44) x0 → ∃ k, papermilllaw56_ShipChecks.f k x0 = some true
end Go.Proofs.Ytegilakgfoglpaa.Gd
