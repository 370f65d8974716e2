/- No order has more rolls than it permits, no roll is in two orders: what comes in as data is in range. -/
import Derived.Test.YthmhehfbepijgaaStOrderLimits
namespace Go.Proofs.Ythmhehfbepijgaa.Pure
open Go.Proofs.Ythmhehfbepijgaa.Opn Go.Proofs.Ythmhehfbepijgaa.Q Go.Proofs.Ythmhehfbepijgaa.Gd Go.Proofs.YthmhehfbepijgaaW.PrintWords Go.RowKit
theorem wfs_goodL {l : List S35} (h : GoodL Gd35 l) : wfs l = true := List.all_eq_true.2 fun x hx => Plm.wf_of (h.2 x hx).2.2.2.1 (h.2 x hx).2.2.2.2
theorem OrderLimits : OrderLimits_Pure := fun l gl => by
  unfold papermilllaw51_OrderLimits.f
  rw [if_pos (wfs_goodL gl)]
end Go.Proofs.Ythmhehfbepijgaa.Pure
