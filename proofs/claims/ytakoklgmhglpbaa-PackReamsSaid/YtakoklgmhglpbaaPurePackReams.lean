/- The law PackReams in plain Lean: for every list of batches and every number of sheets, within their kinds' bounds, the program's reams are the reference's. -/
import Derived.Test.YtakoklgmhglpbaaStPackReams
import Derived.Test.YtakoklgmhglpbaaPb
import Derived.Test.YtakoklgmhglpbaaPg
namespace Go.Proofs.Ytakoklgmhglpbaa.Pure
open Go.RowKit Go.Proofs.Ytakoklgmhglpbaa.Opn Go.Proofs.Ytakoklgmhglpbaa.Q Go.Proofs.Ytakoklgmhglpbaa.Gd Go.Proofs.YtakoklgmhglpbaaW.PrintWords Go.Proofs.Ytakoklgmhglpbaa.Pl
theorem PackReams : PackReams_Pure := by
  intro l per hl _
  refine Ev.rounds ?_
  unfold papermilllaw53_PackReams.f
  by_cases h : (l.length : Int) > 520
  · exact Ev.pos h (Ev.sb (fun _ => rfl) (Ev.c rfl))
  · refine Ev.neg h (Ev.bind (pack_reams l per) (Ev.bind (ref_reams l per hl.1) ?_))
    obtain ⟨h1, h2, h3⟩ := reams_small l per
    refine Ev.bind (same_refl _ (by omega) (fun x hx => by have := h2 x hx; omega)) (Ev.pos rfl ?_)
    exact Ev.bind (batches_refl _ (by omega)) (Ev.pos rfl (Ev.pos rfl (Ev.sb (fun _ => rfl) (Ev.c rfl))))
end Go.Proofs.Ytakoklgmhglpbaa.Pure
