/- What the law OrderFinds asks, in plain Lean. -/
import Derived.Test.YthmhehfbepijgaaBTOrderFinds
import Derived.Test.YthmhehfbepijgaaBGd
namespace Go.Proofs.Ythmhehfbepijgaa.Gd
open Go.Proofs.Ythmhehfbepijgaa.Opn Go.Proofs.Ythmhehfbepijgaa.Q
def OrderFinds_Pure : Prop := ∀ (x0 : List (S35)) (x1 : Int) (x2 : Int), (GoodL Gd35) x0 → In64 x1 → In64 x2 → papermilllaw51_OrderFinds.f x0 x1 x2 = some true
end Go.Proofs.Ythmhehfbepijgaa.Gd
