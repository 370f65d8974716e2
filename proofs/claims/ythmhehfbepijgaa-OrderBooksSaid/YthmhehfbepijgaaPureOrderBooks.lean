/- The two books answer alike, call by call: what comes in as data is in range. -/
import Derived.Test.YthmhehfbepijgaaStOrderBooks
namespace Go.Proofs.Ythmhehfbepijgaa.Pure
open Go.Proofs.Ythmhehfbepijgaa.Opn Go.Proofs.Ythmhehfbepijgaa.Q Go.Proofs.Ythmhehfbepijgaa.Gd Go.Proofs.YthmhehfbepijgaaW.PrintWords Go.RowKit
theorem wfs_goodB {l : List S35} (h : GoodL Gd35 l) : wfs l = true := List.all_eq_true.2 fun x hx => Plm.wf_of (h.2 x hx).2.2.2.1 (h.2 x hx).2.2.2.2
theorem OrderBooks : OrderBooks_Pure := fun l gl => by
  unfold papermilllaw51_OrderBooks.f
  rw [if_pos (wfs_goodB gl)]
end Go.Proofs.Ythmhehfbepijgaa.Pure
