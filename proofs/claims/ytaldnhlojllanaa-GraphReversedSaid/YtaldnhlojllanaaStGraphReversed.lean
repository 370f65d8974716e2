/- What the law GraphReversed asks, in plain Lean. -/
import Derived.Test.YtaldnhlojllanaaQ15
import Derived.Test.YtaldnhlojllanaaGd
namespace Go.Proofs.Ytaldnhlojllanaa.Gd
open Go.Proofs.Ytaldnhlojllanaa.Opn Go.Proofs.Ytaldnhlojllanaa.Q
def GraphReversed_Pure : Prop := ∀ (x0 : S24) (x1 : Int) (x2 : Int), Gd24 x0 → In8u x1 → In8u x2 → ∃ k, papermilllaw10_GraphReversed.f k x0.f0 x0.f1 x1 x2 = some true
end Go.Proofs.Ytaldnhlojllanaa.Gd
