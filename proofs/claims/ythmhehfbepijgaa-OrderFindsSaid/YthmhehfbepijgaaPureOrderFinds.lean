/- The two books find alike: what comes in as data is in range. -/
import Derived.Test.YthmhehfbepijgaaStOrderFinds
namespace Go.Proofs.Ythmhehfbepijgaa.Pure
open Go.Proofs.Ythmhehfbepijgaa.Opn Go.Proofs.Ythmhehfbepijgaa.Q Go.Proofs.Ythmhehfbepijgaa.Gd Go.Proofs.YthmhehfbepijgaaW.PrintWords Go.RowKit
theorem wfs_goodF {l : List S35} (h : GoodL Gd35 l) : wfs l = true := List.all_eq_true.2 fun x hx => Plm.wf_of (h.2 x hx).2.2.2.1 (h.2 x hx).2.2.2.2
theorem OrderFinds : OrderFinds_Pure := fun l a b gl gb _ => by
  unfold papermilllaw51_OrderFinds.f
  rw [if_pos ⟨wfs_goodF gl, Plm.wf_of gb.1 gb.2⟩]
end Go.Proofs.Ythmhehfbepijgaa.Pure
