/- What the law GraphReaches asks, in plain Lean. -/
import Derived.Test.YtaldnhlojllanaaQ11
import Derived.Test.YtaldnhlojllanaaGd
namespace Go.Proofs.Ytaldnhlojllanaa.Gd
open Go.Proofs.Ytaldnhlojllanaa.Opn Go.Proofs.Ytaldnhlojllanaa.Q
def GraphReaches_Pure : Prop := ∀ (x0 : S24) (x1 : Int), Gd24 x0 → In64 x1 → ∃ k, papermilllaw10_GraphReaches.f k x0.f0 x0.f1 x1 = some true
end Go.Proofs.Ytaldnhlojllanaa.Gd
