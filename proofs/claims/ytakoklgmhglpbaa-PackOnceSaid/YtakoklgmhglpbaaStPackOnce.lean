/- What the law PackOnce asks, in plain Lean. -/
import Derived.Test.YtakoklgmhglpbaaQ16
import Derived.Test.YtakoklgmhglpbaaGd
namespace Go.Proofs.Ytakoklgmhglpbaa.Gd
open Go.Proofs.Ytakoklgmhglpbaa.Opn Go.Proofs.Ytakoklgmhglpbaa.Q
def PackOnce_Pure : Prop := ∀ (x0 : List (S43)) (x1 : Int) (x2 : S35), (GoodL Gd43) x0 → In64 x1 → Gd35 x2 → ∃ k, papermilllaw53_PackOnce.f k x0 x1 x2.f0 x2.f1 = some true
end Go.Proofs.Ytakoklgmhglpbaa.Gd
