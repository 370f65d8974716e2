/- The plain law of GraphChecks: both checks return the same error, for every graph. -/
import Derived.Test.YtaldnhlojllanaaPl
import Derived.Test.YtaldnhlojllanaaStGraphChecks
namespace Go.Proofs.Ytaldnhlojllanaa.Pure
open Go.RowKit Go.Proofs.Ytaldnhlojllanaa.Opn Go.Proofs.Ytaldnhlojllanaa.Q Go.Proofs.Ytaldnhlojllanaa.Gd Go.Proofs.YtaldnhlojllanaaW.PrintWords Go.Proofs.Ytaldnhlojllanaa.Pl
theorem GraphChecks : GraphChecks_Pure := by
  intro x0 _
  refine Ev.rounds ?_
  unfold papermilllaw10_GraphChecks.f
  refine Ev.sb (fun n => rfl) ?_
  by_cases c : (x0.f1.length : Int) > 600
  · exact Ev.pos (by simpa using c) (Ev.bind awake_eq (Ev.c rfl))
  · refine Ev.neg (by simpa using c) (Ev.bind (check_eq _ _ (by omega)) (Ev.bind (rcheck_eq _ _ (by omega)) (Ev.pos rfl (Ev.bind awake_eq (Ev.c rfl)))))
end Go.Proofs.Ytaldnhlojllanaa.Pure
