/- What the law GraphMore asks, in plain Lean. -/
import Derived.Test.YtaldnhlojllanaaQ16
import Derived.Test.YtaldnhlojllanaaGd
namespace Go.Proofs.Ytaldnhlojllanaa.Gd
open Go.Proofs.Ytaldnhlojllanaa.Opn Go.Proofs.Ytaldnhlojllanaa.Q
def GraphMore_Pure : Prop := ∀ (x0 : S24) (x1 : Int) (x2 : S42), Gd24 x0 → In64 x1 → Gd42 x2 → ∃ k, papermilllaw10_GraphMore.f k x0.f0 x0.f1 x1 x2.f0 x2.f1 = some true
end Go.Proofs.Ytaldnhlojllanaa.Gd
