/- What the law TopQuiet asks, in plain Lean. -/
import Derived.Test.YtpfilkfdnjbejaaBQ10
import Derived.Test.YtpfilkfdnjbejaaBGd
namespace Go.Proofs.Ytpfilkfdnjbejaa.Gd
open Go.Proofs.Ytpfilkfdnjbejaa.Opn Go.Proofs.Ytpfilkfdnjbejaa.Q
def TopQuiet_Pure : Prop := ∀ (x0 : S29) (x1 : S31) (x2 : S33) (x3 : List (S44)), Gd29 x0 → Gd31 x1 → Gd33 x2 → (GoodL Gd44) x3 → papermilltop_TopQuiet.f x0.f0.f0.f0 x0.f0.f0.f1 x0.f0.f0.f2 x0.f0.f0.f3 x0.f0.f0.f4 x0.f0.f0.f5 x0.f0.f1.f0 x0.f0.f1.f1 x0.f0.f1.f2 x0.f1.f0.f0 x0.f1.f0.f1 x0.f1.f0.f2 x0.f1.f0.f3 x0.f1.f0.f4 x0.f1.f0.f5 x0.f1.f1.f0 x0.f1.f1.f1 x0.f1.f1.f2 x0.f2 x1.f0 x1.f1 x2.f0 x2.f1 x3 = some true
end Go.Proofs.Ytpfilkfdnjbejaa.Gd
