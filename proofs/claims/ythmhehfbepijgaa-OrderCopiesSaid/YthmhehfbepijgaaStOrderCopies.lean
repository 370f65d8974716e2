/- What the law OrderCopies asks, in plain Lean. -/
import Derived.Test.YthmhehfbepijgaaQ15
import Derived.Test.YthmhehfbepijgaaGd
namespace Go.Proofs.Ythmhehfbepijgaa.Gd
open Go.Proofs.Ythmhehfbepijgaa.Opn Go.Proofs.Ythmhehfbepijgaa.Q
def OrderCopies_Pure : Prop := ∀ (x0 : List (S35)) (x1 : List (S35)), (GoodL Gd35) x0 → (GoodL Gd35) x1 → papermilllaw51_OrderCopies.f x0 x1 = some true
end Go.Proofs.Ythmhehfbepijgaa.Gd
