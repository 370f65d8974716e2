/- What the law PackWhere asks, in plain Lean. -/
import Derived.Test.YtakoklgmhglpbaaQ17
import Derived.Test.YtakoklgmhglpbaaGd
namespace Go.Proofs.Ytakoklgmhglpbaa.Gd
open Go.Proofs.Ytakoklgmhglpbaa.Opn Go.Proofs.Ytakoklgmhglpbaa.Q
def PackWhere_Pure : Prop := ∀ (x0 : List (S38)) (x1 : Int) (x2 : Int), (GoodL Gd38) x0 → In64 x1 → In64 x2 → ∃ k, papermilllaw53_PackWhere.f k x0 x1 x2 = some true
end Go.Proofs.Ytakoklgmhglpbaa.Gd
