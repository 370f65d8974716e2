/- A call with an error changes nothing, another one at most one order: what comes in as data is in range. -/
import Derived.Test.YthmhehfbepijgaaStOrderRefused
namespace Go.Proofs.Ythmhehfbepijgaa.Pure
open Go.Proofs.Ythmhehfbepijgaa.Opn Go.Proofs.Ythmhehfbepijgaa.Q Go.Proofs.Ythmhehfbepijgaa.Gd Go.Proofs.YthmhehfbepijgaaW.PrintWords Go.RowKit
theorem wfs_goodF {l : List S35} (h : GoodL Gd35 l) : wfs l = true := List.all_eq_true.2 fun x hx => Plm.wf_of (h.2 x hx).2.2.2.1 (h.2 x hx).2.2.2.2
theorem OrderRefused : OrderRefused_Pure := fun l x gl gx => by
  unfold papermilllaw51_OrderRefused.f
  rw [if_pos ⟨wfs_goodF gl, Plm.wf_of gx.2.2.2.1 gx.2.2.2.2⟩]
end Go.Proofs.Ythmhehfbepijgaa.Pure
