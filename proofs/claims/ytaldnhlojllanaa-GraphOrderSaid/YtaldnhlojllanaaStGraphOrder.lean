/- What the law GraphOrder asks, in plain Lean. -/
import Derived.Test.YtaldnhlojllanaaQ6
import Derived.Test.YtaldnhlojllanaaGd
namespace Go.Proofs.Ytaldnhlojllanaa.Gd
open Go.Proofs.Ytaldnhlojllanaa.Opn Go.Proofs.Ytaldnhlojllanaa.Q
def GraphOrder_Pure : Prop := ∀ (x0 : S24), Gd24 x0 → ∃ k, papermilllaw10_GraphOrder.f k x0.f0 x0.f1 = some true
end Go.Proofs.Ytaldnhlojllanaa.Gd
