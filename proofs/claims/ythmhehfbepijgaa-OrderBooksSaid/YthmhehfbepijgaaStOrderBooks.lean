/- What the law OrderBooks asks, in plain Lean. -/
import Derived.Test.YthmhehfbepijgaaBTOrderBooks
import Derived.Test.YthmhehfbepijgaaBGd
namespace Go.Proofs.Ythmhehfbepijgaa.Gd
open Go.Proofs.Ythmhehfbepijgaa.Opn Go.Proofs.Ythmhehfbepijgaa.Q
def OrderBooks_Pure : Prop := ∀ (x0 : List (S35)), (GoodL Gd35) x0 → papermilllaw51_OrderBooks.f x0 = some true
end Go.Proofs.Ythmhehfbepijgaa.Gd
