/- The plain law of GraphCycles: both cycles are the same, or the errors are, for every graph. -/
import Derived.Test.YtaldnhlojllanaaPh
import Derived.Test.YtaldnhlojllanaaStGraphCycles
namespace Go.Proofs.Ytaldnhlojllanaa.Pure
open Go.RowKit Go.Proofs.Ytaldnhlojllanaa.Opn Go.Proofs.Ytaldnhlojllanaa.Q Go.Proofs.Ytaldnhlojllanaa.Gd Go.Proofs.YtaldnhlojllanaaW.PrintWords Go.Proofs.Ytaldnhlojllanaa.Pl
theorem GraphCycles : GraphCycles_Pure := by
  intro x0 _
  refine Ev.rounds ?_
  unfold papermilllaw10_GraphCycles.f
  refine Ev.sb (fun n => rfl) ?_
  by_cases c : (x0.f1.length : Int) > 600
  · exact Ev.pos (by simpa using c) (Ev.bind awake_eq (Ev.c rfl))
  · obtain ⟨r, h1, h2⟩ := cycle_eq x0.f0 x0.f1 (by omega)
    obtain ⟨r', h1', h2'⟩ := rcycle_eq x0.f0 x0.f1 (by omega)
    have e : r = r' ∧ r.1.length ≤ 64 := by
      rcases h2 with ⟨k, rfl⟩ | ⟨k, k1⟩
      · rcases h2' with ⟨_, rfl⟩ | ⟨k', _⟩
        · exact ⟨rfl, by simp⟩
        · exact absurd k' k
      · rcases h2' with ⟨k', _⟩ | ⟨_, k1'⟩
        · exact absurd k k'
        · have hF := chk_fit k
          have h64 := hF.2.1
          have h0 := hF.1
          exact ⟨k1.uniq k1', by have := cycR_len hF (by omega) k1; omega⟩
    obtain ⟨rfl, hlen⟩ := e
    exact Ev.neg (by simpa using c) (Ev.bind h1 (Ev.bind h1' (Ev.bind (ints_eq _ (by omega)) (Ev.pos rfl (Ev.pos rfl (Ev.bind awake_eq (Ev.c rfl)))))))
end Go.Proofs.Ytaldnhlojllanaa.Pure
