/- The plain law of ShipChecks: both checks return the same error, for every list of shipments. -/
import Derived.Test.YtegilakgfoglpaaSa
import Derived.Test.YtegilakgfoglpaaStShipChecks
namespace Go.Proofs.Ytegilakgfoglpaa.Pure
open Go.RowKit Go.Proofs.Ytegilakgfoglpaa.Opn Go.Proofs.Ytegilakgfoglpaa.Q Go.Proofs.Ytegilakgfoglpaa.Gd Go.Proofs.YtegilakgfoglpaaW.PrintWords Go.Proofs.Ytegilakgfoglpaa.Pl
theorem ShipChecks : ShipChecks_Pure := by
  intro l hg
  refine Ev.rounds ?_
  unfold papermilllaw56_ShipChecks.f
  have h63 : ∀ x ∈ l, x.f2.length ≤ 9223372036854775807 := fun x hx => (hg.2 x hx).2.2.1
  obtain ⟨b, hb⟩ := few_ev l
  refine Ev.bind hb ?_
  cases b with
  | true => exact Ev.pos rfl (Ev.bind hb (Ev.pos rfl (Ev.bind (check_eq l h63) (Ev.bind (rcheck_eq l h63) (Ev.pos rfl (Ev.bind awake_eq (Ev.c rfl)))))))
  | false => exact Ev.neg (by decide) (Ev.bind awake_eq (Ev.pos rfl (Ev.c rfl)))
end Go.Proofs.Ytegilakgfoglpaa.Pure
