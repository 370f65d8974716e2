/- The plain law of ShipGreedies: both loadings by first fit are the same, or the errors are, for every list of parcels. -/
import Derived.Test.YtegilakgfoglpaaSc
import Derived.Test.YtegilakgfoglpaaStShipGreedies
namespace Go.Proofs.Ytegilakgfoglpaa.Pure
open Go.RowKit Go.Proofs.Ytegilakgfoglpaa.Opn Go.Proofs.Ytegilakgfoglpaa.Q Go.Proofs.Ytegilakgfoglpaa.Gd Go.Proofs.YtegilakgfoglpaaW.PrintWords Go.Proofs.Ytegilakgfoglpaa.Pl
theorem ShipGreedies : ShipGreedies_Pure := by
  intro l most _ _
  refine Ev.rounds ?_
  unfold papermilllaw56_ShipGreedies.f
  have key : (l.length : Int) ≤ 600 → Ev (fun k => (ship_Greedy.f k l most).bind fun bt320 => ((papermillref56_Greedy.f k l most).bind fun bt324 => ((papermillref56_Same.f k bt320.1 bt324.1).bind fun t328 => (if t328 = true then (if bt320.2 = bt324.2 then ((papermilllaw56_awake.f k).bind fun t329 => (some t329)) else (none)) else (none))))) true := fun hl => by
    refine Ev.bind (greedy_eq l most (by omega)) (Ev.bind (rgreedy_eq l most (by omega)) (Ev.bind (a := true) ?_ (Ev.pos rfl (Ev.pos rfl (Ev.bind awake_eq (Ev.c rfl))))))
    by_cases c : parE l most 512 = 0
    · rw [if_pos c]
      have hm := (parE_ok c).1
      have hg := gw_spec hm l.length [] (by simp) (Canon.start l most) (fun i j _ hj => by simp [nt] at hj)
      have hs := tk_small hg.1 (by omega)
      exact same_eq _ hs.1 hs.2
    · rw [if_neg c]
      exact same_eq [] (by simp) (by simp)
  by_cases c1 : (l.length : Int) > 60
  · refine Ev.pos c1 ?_
    by_cases c2 : (l.length : Int) ≤ 512
    · exact Ev.pos c2 (Ev.bind awake_eq (Ev.c rfl))
    · refine Ev.neg c2 ?_
      by_cases c3 : (l.length : Int) > 600
      · exact Ev.pos c3 (Ev.bind awake_eq (Ev.c rfl))
      · exact Ev.neg c3 (key (by omega))
  · refine Ev.neg c1 ?_
    by_cases c3 : (l.length : Int) > 600
    · exact Ev.pos c3 (Ev.bind awake_eq (Ev.c rfl))
    · exact Ev.neg c3 (key (by omega))
end Go.Proofs.Ytegilakgfoglpaa.Pure
