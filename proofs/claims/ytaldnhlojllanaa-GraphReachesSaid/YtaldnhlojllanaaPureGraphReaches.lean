/- The plain law of GraphReaches: what is reached is the same for both, or the errors are, for every graph and node. -/
import Derived.Test.YtaldnhlojllanaaPr
import Derived.Test.YtaldnhlojllanaaStGraphReaches
namespace Go.Proofs.Ytaldnhlojllanaa.Pure
open Go.RowKit Go.Proofs.Ytaldnhlojllanaa.Opn Go.Proofs.Ytaldnhlojllanaa.Q Go.Proofs.Ytaldnhlojllanaa.Gd Go.Proofs.YtaldnhlojllanaaW.PrintWords Go.Proofs.Ytaldnhlojllanaa.Pl
theorem GraphReaches : GraphReaches_Pure := by
  intro x0 x1 _ _
  refine Ev.rounds ?_
  unfold papermilllaw10_GraphReaches.f
  refine Ev.sb (fun n => rfl) ?_
  by_cases c : (x0.f1.length : Int) > 600
  · exact Ev.pos (by simpa using c) (Ev.bind awake_eq (Ev.c rfl))
  · obtain ⟨r, h1, h2, h3, _⟩ := reach_eq x0.f0 x0.f1 x1 (by omega)
    exact Ev.neg (by simpa using c) (Ev.bind h1 (Ev.bind h2 (Ev.bind (bools_eq _ (by omega)) (Ev.pos rfl (Ev.pos rfl (Ev.bind awake_eq (Ev.c rfl)))))))
end Go.Proofs.Ytaldnhlojllanaa.Pure
