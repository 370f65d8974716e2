/- What the law GraphCycles asks, in plain Lean. -/
import Derived.Test.YtaldnhlojllanaaQ7
import Derived.Test.YtaldnhlojllanaaGd
namespace Go.Proofs.Ytaldnhlojllanaa.Gd
open Go.Proofs.Ytaldnhlojllanaa.Opn Go.Proofs.Ytaldnhlojllanaa.Q
def GraphCycles_Pure : Prop := ∀ (x0 : S24), Gd24 x0 → ∃ k, papermilllaw10_GraphCycles.f k x0.f0 x0.f1 = some true
end Go.Proofs.Ytaldnhlojllanaa.Gd
