/- The plain law of GraphReversed: reversed, paths lead the other way; reversed twice, a graph is the same, for every graph. -/
import Derived.Test.YtaldnhlojllanaaPc
import Derived.Test.YtaldnhlojllanaaStGraphReversed
namespace Go.Proofs.Ytaldnhlojllanaa.Pure
open Go.RowKit Go.Proofs.Ytaldnhlojllanaa.Opn Go.Proofs.Ytaldnhlojllanaa.Q Go.Proofs.Ytaldnhlojllanaa.Gd Go.Proofs.YtaldnhlojllanaaW.PrintWords Go.Proofs.Ytaldnhlojllanaa.Pl
theorem GraphReversed : GraphReversed_Pure := by
  intro x0 x1 x2 _ g1 g2
  refine Ev.rounds ?_
  unfold papermilllaw10_GraphReversed.f
  refine Ev.sb (fun n => rfl) ?_
  by_cases c : (x0.f1.length : Int) > 600
  · exact Ev.pos (by simpa using c) (Ev.bind awake_eq (Ev.c rfl))
  refine Ev.neg (by simpa using c) (Ev.bind (rcheck_eq _ _ (by omega)) ?_)
  by_cases c1 : chk x0.f0 x0.f1 = 0
  case neg => exact Ev.neg c1 (Ev.bind awake_eq (Ev.c rfl))
  refine Ev.pos c1 ?_
  by_cases c2 : x0.f0 = 0
  · exact Ev.pos c2 (Ev.bind awake_eq (Ev.c rfl))
  refine Ev.neg c2 ?_
  have hF := chk_fit c1
  have hN := hF.1
  have h64 := hF.2.1
  have hF' := fit_sw hF
  have c1' := fit_chk hF'
  have hl : x0.f1.length ≤ 9223372036854775807 := by omega
  have hl' : (x0.f1.map sw).length ≤ 9223372036854775807 := by rw [List.length_map]; omega
  obtain ⟨a, ha⟩ : ∃ a, a = Int.tmod (wrap64 x1) x0.f0 := ⟨_, rfl⟩
  obtain ⟨b, hb⟩ : ∃ b, b = Int.tmod (wrap64 x2) x0.f0 := ⟨_, rfl⟩
  rw [← ha, ← hb]
  have hw : ∀ x : Int, In8u x → 0 ≤ wrap64 x := fun x hx => by
    have h1 : 0 ≤ x ∧ x < 256 := by unfold In8u at hx; omega
    unfold wrap64; omega
  have ha0 : 0 ≤ a := by rw [ha]; exact Int.tmod_nonneg _ (hw x1 g1)
  have ha1 : a < x0.f0 := by rw [ha]; exact Int.tmod_lt_of_pos _ (by omega)
  have hb0 : 0 ≤ b := by rw [hb]; exact Int.tmod_nonneg _ (hw x2 g2)
  have hb1 : b < x0.f0 := by rw [hb]; exact Int.tmod_lt_of_pos _ (by omega)
  have hv := reverse_eq x0.f0 x0.f1 hl
  rw [if_pos c1] at hv
  have hv2 := reverse_eq x0.f0 (x0.f1.map sw) hl'
  rw [if_pos c1', sw_sw] at hv2
  obtain ⟨p, p1, p2, p3, _⟩ := reach_one x0.f0 x0.f1 a hl
  obtain ⟨q, q1, q2, q3, _⟩ := reach_one x0.f0 (x0.f1.map sw) b hl'
  obtain ⟨p4, p5⟩ := p3 c1 ha0 ha1
  obtain ⟨q4, q5⟩ := q3 c1' hb0 hb1
  obtain ⟨o, o1, o2⟩ := order_cyc x0.f0 x0.f1 hl c1
  obtain ⟨w, w1, w2⟩ := order_cyc x0.f0 (x0.f1.map sw) hl' c1'
  have how : o.2 = w.2 := by
    rcases o2 with ⟨o2, _, o3⟩ | ⟨rfl, o3⟩
    · rcases w2 with ⟨w2, _, _⟩ | ⟨rfl, w3⟩
      · rw [o2, w2]
      · obtain ⟨v, hv⟩ := cyc_sw w3
        rw [sw_sw] at hv
        exact absurd hv (o3 v)
    · rcases w2 with ⟨w2, _, w3⟩ | ⟨rfl, w3⟩
      · obtain ⟨v, hv⟩ := cyc_sw o3
        exact absurd hv (w3 v)
      · rfl
  have l1 := p5.len
  have l2 := q5.len
  have hpq : (rdOf false p.1 b == rdOf false q.1 a) = true := by
    rw [beq_iff_eq, Bool.eq_iff_iff]
    show mkd p.1 b.toNat ↔ mkd q.1 a.toNat
    rw [p5.iff, q5.iff]
    exact path_sw_iff
  refine Ev.bind hv (Ev.bind hv2 (Ev.bind p1 (Ev.bind q1 (Ev.bind o1 (Ev.bind w1 ?_)))))
  refine Ev.pos rfl (Ev.pos rfl (Ev.pos p4 (Ev.pos q4 (Ev.pos (by omega) (Ev.pos (by omega) (Ev.bind (same_eq x0.f0 x0.f1 hl) (Ev.pos rfl (Ev.pos hb0 (Ev.pos (by omega) (Ev.pos ha0 (Ev.pos (by omega) (Ev.pos hpq (Ev.pos (by omega) (Ev.pos ?_ (Ev.pos how (Ev.bind awake_eq (Ev.c rfl)))))))))))))))))
  show mkd p.1 a.toNat
  rw [p5.iff]
  exact Path.refl
end Go.Proofs.Ytaldnhlojllanaa.Pure
