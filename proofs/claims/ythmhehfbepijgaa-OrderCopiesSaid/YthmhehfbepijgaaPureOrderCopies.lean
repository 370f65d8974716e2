/- What is done with a copy does not change the book: what comes in as data is in range. -/
import Derived.Test.YthmhehfbepijgaaStOrderCopies
namespace Go.Proofs.Ythmhehfbepijgaa.Pure
open Go.Proofs.Ythmhehfbepijgaa.Opn Go.Proofs.Ythmhehfbepijgaa.Q Go.Proofs.Ythmhehfbepijgaa.Gd Go.Proofs.YthmhehfbepijgaaW.PrintWords Go.RowKit
theorem wfs_goodC {l : List S35} (h : GoodL Gd35 l) : wfs l = true := List.all_eq_true.2 fun x hx => Plm.wf_of (h.2 x hx).2.2.2.1 (h.2 x hx).2.2.2.2
theorem OrderCopies : OrderCopies_Pure := fun l m gl gm => by
  unfold papermilllaw51_OrderCopies.f
  rw [if_pos ⟨wfs_goodC gl, wfs_goodC gm⟩]
end Go.Proofs.Ythmhehfbepijgaa.Pure
