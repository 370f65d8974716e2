/- The plain law of GraphOrders: both orders are the same, or the errors are, for every graph. -/
import Derived.Test.YtaldnhlojllanaaPl
import Derived.Test.YtaldnhlojllanaaStGraphOrders
namespace Go.Proofs.Ytaldnhlojllanaa.Pure
open Go.RowKit Go.Proofs.Ytaldnhlojllanaa.Opn Go.Proofs.Ytaldnhlojllanaa.Q Go.Proofs.Ytaldnhlojllanaa.Gd Go.Proofs.YtaldnhlojllanaaW.PrintWords Go.Proofs.Ytaldnhlojllanaa.Pl
theorem GraphOrders : GraphOrders_Pure := by
  intro x0 _
  refine Ev.rounds ?_
  unfold papermilllaw10_GraphOrders.f
  refine Ev.sb (fun n => rfl) ?_
  by_cases c : (x0.f1.length : Int) > 600
  · exact Ev.pos (by simpa using c) (Ev.bind awake_eq (Ev.c rfl))
  · obtain ⟨r, h1, h2, h3, _⟩ := order_eq x0.f0 x0.f1 (by omega)
    exact Ev.neg (by simpa using c) (Ev.bind h1 (Ev.bind h2 (Ev.bind (ints_eq _ (by omega)) (Ev.pos rfl (Ev.pos rfl (Ev.bind awake_eq (Ev.c rfl)))))))
end Go.Proofs.Ytaldnhlojllanaa.Pure
