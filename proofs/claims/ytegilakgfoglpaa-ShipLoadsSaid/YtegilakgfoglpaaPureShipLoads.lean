/- The plain law of ShipLoads: the program's least loading and the reference's are equal, for every list of parcels. -/
import Derived.Test.YtegilakgfoglpaaSe
import Derived.Test.YtegilakgfoglpaaStShipLoads
namespace Go.Proofs.Ytegilakgfoglpaa.Pure
open Go.RowKit Go.Proofs.Ytegilakgfoglpaa.Opn Go.Proofs.Ytegilakgfoglpaa.Q Go.Proofs.Ytegilakgfoglpaa.Gd Go.Proofs.YtegilakgfoglpaaW.PrintWords Go.Proofs.Ytegilakgfoglpaa.Pl
theorem ShipLoads : ShipLoads_Pure := by
  intro l most _ _
  refine Ev.rounds ?_
  have main : l.length ≤ 30 → Ev (fun k => (ship_Load.f k l most).bind fun a => (papermillref56_Load.f k l most).bind fun b => (papermillref56_Same.f k a.1 b.1).bind fun t => (if t = true then (if a.2 = b.2 then ((papermilllaw56_awake.f k).bind fun t => (some t)) else (none)) else (none))) true := fun hl => by
    obtain ⟨v, hv, h1⟩ := load_eq l most (by omega)
    refine Ev.bind h1 (Ev.bind (rload_first (by omega) hv) ?_)
    by_cases c : parE l most 10 = 0
    · rw [if_pos c]
      have hm := (parE_ok c).1
      have hc := sol_mem hm l.length [] (by simp) (Canon.start l most) v (hv c).mem
      have hs := tk_small hc.1 (by omega)
      exact Ev.bind (same_eq (tk v) hs.1 hs.2) (Ev.pos rfl (Ev.pos rfl (Ev.bind awake_eq (Ev.c rfl))))
    · rw [if_neg c]
      exact Ev.bind (same_eq [] (by simp) (by simp)) (Ev.pos rfl (Ev.pos rfl (Ev.bind awake_eq (Ev.c rfl))))
  unfold papermilllaw56_ShipLoads.f
  by_cases c7 : (l.length : Int) > 7
  · refine Ev.pos c7 ?_
    by_cases c10 : (l.length : Int) ≤ 10
    · exact Ev.pos c10 (Ev.bind awake_eq (Ev.c rfl))
    refine Ev.neg c10 ?_
    by_cases c30 : (l.length : Int) > 30
    · exact Ev.pos c30 (Ev.bind awake_eq (Ev.c rfl))
    · exact Ev.neg c30 (main (by omega))
  · refine Ev.neg c7 ?_
    by_cases c30 : (l.length : Int) > 30
    · exact Ev.pos c30 (Ev.bind awake_eq (Ev.c rfl))
    · exact Ev.neg c30 (main (by omega))
end Go.Proofs.Ytegilakgfoglpaa.Pure
