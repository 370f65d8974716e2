/- A nil book answers every call with ErrNil and zero values. -/
import Derived.Test.YthmhehfbepijgaaStOrderNil
namespace Go.Proofs.Ythmhehfbepijgaa.Pure
open Go.Proofs.Ythmhehfbepijgaa.Opn Go.Proofs.Ythmhehfbepijgaa.Q Go.Proofs.Ythmhehfbepijgaa.Gd Go.Proofs.YthmhehfbepijgaaW.PrintWords Go.RowKit
theorem OrderNil : OrderNil_Pure := fun _ _ => rfl
end Go.Proofs.Ythmhehfbepijgaa.Pure
