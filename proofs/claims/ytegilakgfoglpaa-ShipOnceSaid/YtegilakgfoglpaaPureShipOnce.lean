/- The plain law of ShipOnce: the least loading and the one by first fit carry each parcel once, for every list of parcels. -/
import Derived.Test.YtegilakgfoglpaaTo
import Derived.Test.YtegilakgfoglpaaTl
import Derived.Test.YtegilakgfoglpaaTg
import Derived.Test.YtegilakgfoglpaaStShipOnce
namespace Go.Proofs.Ytegilakgfoglpaa.Pure
open Go.RowKit Go.Proofs.Ytegilakgfoglpaa.Opn Go.Proofs.Ytegilakgfoglpaa.Q Go.Proofs.Ytegilakgfoglpaa.Gd Go.Proofs.YtegilakgfoglpaaW.PrintWords Go.Proofs.Ytegilakgfoglpaa.Pl
theorem ShipOnce : ShipOnce_Pure := by
  intro l most _ _
  refine Ev.rounds ?_
  unfold papermilllaw56_ShipOnce.f
  by_cases c100 : (l.length : Int) > 100
  · exact Ev.pos c100 (Ev.bind awake_eq (Ev.c rfl))
  obtain ⟨v, hv, h1⟩ := load_eq l most (by omega)
  refine Ev.neg c100 (Ev.bind h1 (Ev.bind (greedy_eq l most (by omega)) ?_))
  by_cases c : parE l most 10 = 0
  · rw [if_pos c]
    have hm := (parE_ok c).1
    have hv := hv c
    have hc := sol_mem hm l.length [] (by simp) (Canon.start l most) v hv.mem
    have hg := gw_spec hm l.length [] (by simp) (Canon.start l most) (fun i j _ hj => by simp [nt] at hj)
    have c2 : parE l most 512 = 0 := by
      have h10 := (parE_ok c).2
      unfold parE at c ⊢
      split at c
      · omega
      · rename_i d
        rw [if_neg d]
        rw [if_neg (by omega)] at c ⊢
        exact c
    rw [if_pos c2]
    have hle := hv.least _ (gw_sol hm l.length [] (by simp))
    refine Ev.pos rfl (Ev.bind (once_eq hm (by omega) hc.1 hc.2.1) (Ev.pos rfl (Ev.pos rfl (Ev.bind (once_eq hm (by omega) hg.1 hg.2.2) (Ev.pos rfl (Ev.pos ?_ (Ev.bind awake_eq (Ev.c rfl))))))))
    show ((tk v).length : Int) ≤ ((tk _).length : Int)
    rw [tk_len, tk_len]; omega
  · rw [if_neg c]
    refine Ev.neg c (Ev.neg (by simp) ?_)
    by_cases c2 : parE l most 512 = 0
    · rw [if_pos c2]
      have hm := (parE_ok c2).1
      have hg := gw_spec hm l.length [] (by simp) (Canon.start l most) (fun i j _ hj => by simp [nt] at hj)
      exact Ev.pos rfl (Ev.bind (once_eq hm (by omega) hg.1 hg.2.2) (Ev.pos rfl (Ev.bind awake_eq (Ev.c rfl))))
    · rw [if_neg c2]
      exact Ev.neg c2 (Ev.neg (by simp) (Ev.bind awake_eq (Ev.c rfl)))
end Go.Proofs.Ytegilakgfoglpaa.Pure
