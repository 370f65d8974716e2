/- What the law OrderNil asks, in plain Lean. -/
import Derived.Test.YthmhehfbepijgaaQ14
import Derived.Test.YthmhehfbepijgaaGd
namespace Go.Proofs.Ythmhehfbepijgaa.Gd
open Go.Proofs.Ythmhehfbepijgaa.Opn Go.Proofs.Ythmhehfbepijgaa.Q
def OrderNil_Pure : Prop := ∀ (x0 : S35), Gd35 x0 → papermilllaw51_OrderNil.f x0.f0 x0.f1.f0 x0.f1.f1 x0.f1.f2 x0.f1.f3 x0.f1.f4 x0.f1.f5 x0.f1.f6 x0.f1.f7 x0.f1.f8 x0.f1.f9 x0.f1.f10 x0.f1.f11 x0.f2 x0.f3 = some true
end Go.Proofs.Ythmhehfbepijgaa.Gd
