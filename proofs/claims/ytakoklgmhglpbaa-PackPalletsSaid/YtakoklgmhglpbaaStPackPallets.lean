/- What the law PackPallets asks, in plain Lean. -/
import Derived.Test.YtakoklgmhglpbaaQ18
import Derived.Test.YtakoklgmhglpbaaGd
namespace Go.Proofs.Ytakoklgmhglpbaa.Gd
open Go.Proofs.Ytakoklgmhglpbaa.Opn Go.Proofs.Ytakoklgmhglpbaa.Q
def PackPallets_Pure : Prop := ∀ (x0 : Int) (x1 : Int), In64 x0 → In64 x1 → papermilllaw53_PackPallets.f x0 x1 = some true
end Go.Proofs.Ytakoklgmhglpbaa.Gd
