/- What the law OrderRefused asks, in plain Lean. -/
import Derived.Test.YthmhehfbepijgaaQ13
import Derived.Test.YthmhehfbepijgaaGd
namespace Go.Proofs.Ythmhehfbepijgaa.Gd
open Go.Proofs.Ythmhehfbepijgaa.Opn Go.Proofs.Ythmhehfbepijgaa.Q
def OrderRefused_Pure : Prop := ∀ (x0 : List (S35)) (x1 : S35), (GoodL Gd35) x0 → Gd35 x1 → papermilllaw51_OrderRefused.f x0 x1.f0 x1.f1.f0 x1.f1.f1 x1.f1.f2 x1.f1.f3 x1.f1.f4 x1.f1.f5 x1.f1.f6 x1.f1.f7 x1.f1.f8 x1.f1.f9 x1.f1.f10 x1.f1.f11 x1.f2 x1.f3 = some true
end Go.Proofs.Ythmhehfbepijgaa.Gd
