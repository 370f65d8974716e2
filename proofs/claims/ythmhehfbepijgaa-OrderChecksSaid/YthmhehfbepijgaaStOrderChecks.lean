/- What the law OrderChecks asks, in plain Lean. -/
import Derived.Test.YthmhehfbepijgaaQ8
import Derived.Test.YthmhehfbepijgaaGd
namespace Go.Proofs.Ythmhehfbepijgaa.Gd
open Go.Proofs.Ythmhehfbepijgaa.Opn Go.Proofs.Ythmhehfbepijgaa.Q
def OrderChecks_Pure : Prop := ∀ (x0 : S23), Gd23 x0 → ∃ k, papermilllaw51_OrderChecks.f k x0.f0 x0.f1 x0.f2 x0.f3 x0.f4 x0.f5 x0.f6 x0.f7 x0.f8 x0.f9 x0.f10 x0.f11 = some true
end Go.Proofs.Ythmhehfbepijgaa.Gd
