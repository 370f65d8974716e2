/- What the law PackOrder asks, in plain Lean. -/
import Derived.Test.YtakoklgmhglpbaaQ21
import Derived.Test.YtakoklgmhglpbaaGd
namespace Go.Proofs.Ytakoklgmhglpbaa.Gd
open Go.Proofs.Ytakoklgmhglpbaa.Opn Go.Proofs.Ytakoklgmhglpbaa.Q
def PackOrder_Pure : Prop := ∀ (x0 : List (S43)) (x1 : Int), (GoodL Gd43) x0 → In64 x1 → ∃ k, papermilllaw53_PackOrder.f k x0 x1 = some true
end Go.Proofs.Ytakoklgmhglpbaa.Gd
