/- What the law PackCounts asks, in plain Lean. -/
import Derived.Test.YtakoklgmhglpbaaQ20
import Derived.Test.YtakoklgmhglpbaaGd
namespace Go.Proofs.Ytakoklgmhglpbaa.Gd
open Go.Proofs.Ytakoklgmhglpbaa.Opn Go.Proofs.Ytakoklgmhglpbaa.Q
def PackCounts_Pure : Prop := ∀ (x0 : S38) (x1 : S35), Gd38 x0 → Gd35 x1 → ∃ k, papermilllaw53_PackCounts.f k x0.f0 x1.f0 x1.f1 = some true
end Go.Proofs.Ytakoklgmhglpbaa.Gd
