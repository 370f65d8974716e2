/- What the law OrderReturns asks, in plain Lean. -/
import Derived.Test.YthmhehfbepijgaaQ10
import Derived.Test.YthmhehfbepijgaaGd
namespace Go.Proofs.Ythmhehfbepijgaa.Gd
open Go.Proofs.Ythmhehfbepijgaa.Opn Go.Proofs.Ythmhehfbepijgaa.Q
def OrderReturns_Pure : Prop := ∀ (x0 : List (S35)) (x1 : Int) (x2 : Int), (GoodL Gd35) x0 → In64 x1 → In64 x2 → papermilllaw51_OrderReturns.f x0 x1 x2 = some true
end Go.Proofs.Ythmhehfbepijgaa.Gd
