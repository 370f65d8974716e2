/- What the law OrderLimits asks, in plain Lean. -/
import Derived.Test.YthmhehfbepijgaaQ13
import Derived.Test.YthmhehfbepijgaaGd
namespace Go.Proofs.Ythmhehfbepijgaa.Gd
open Go.Proofs.Ythmhehfbepijgaa.Opn Go.Proofs.Ythmhehfbepijgaa.Q
def OrderLimits_Pure : Prop := ∀ (x0 : List (S35)), (GoodL Gd35) x0 → papermilllaw51_OrderLimits.f x0 = some true
end Go.Proofs.Ythmhehfbepijgaa.Gd
