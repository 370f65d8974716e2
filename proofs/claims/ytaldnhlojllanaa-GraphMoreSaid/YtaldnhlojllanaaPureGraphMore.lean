/- The plain law of GraphMore: a further arc takes no node out of what is reached, for every graph of at most 500 arcs. -/
import Derived.Test.YtaldnhlojllanaaPr
import Derived.Test.YtaldnhlojllanaaStGraphMore
namespace Go.Proofs.Ytaldnhlojllanaa.Pure
open Go.RowKit Go.Proofs.Ytaldnhlojllanaa.Opn Go.Proofs.Ytaldnhlojllanaa.Q Go.Proofs.Ytaldnhlojllanaa.Gd Go.Proofs.YtaldnhlojllanaaW.PrintWords Go.Proofs.Ytaldnhlojllanaa.Pl
theorem rdOf_mk {o : List Bool} {i : Int} : rdOf false o i = true ↔ mkd o i.toNat := Iff.rfl
theorem more_l0 (x y : List Bool) (a b : Int) (r : Bool) (hx : x.length ≤ 64) (hl : x.length = y.length) (hs : ∀ u, mkd x u → mkd y u) (ha : 0 ≤ a ∧ a < x.length) (hb : 0 ≤ b ∧ b < x.length) (hab : mkd y a.toNat → mkd y b.toNat) (hr : r = true) : ∀ (m j : Nat), j + m = x.length → Ev (fun k => papermilllaw10_GraphMore.l0 k x y (j : Int) a b) r := by
  intro m
  induction m with
  | zero =>
    intro j hj
    refine Ev.step (fun k => papermilllaw10_GraphMore.l0.eq_2 ..) (Ev.neg (by omega) (Ev.pos ha.1 (Ev.pos (by omega) ?_)))
    by_cases c : mkd y a.toNat
    · exact Ev.pos c (Ev.pos hb.1 (Ev.pos (by omega) (Ev.pos (hab c) (Ev.bind awake_eq (Ev.c hr.symm)))))
    · exact Ev.neg c (Ev.bind awake_eq (Ev.c hr.symm))
  | succ m ih =>
    intro j hj
    refine Ev.step (fun k => papermilllaw10_GraphMore.l0.eq_2 ..) (Ev.pos (by omega) (Ev.pos (by omega) ?_))
    rw [wrap_nat (n := x.length) (by omega) (by omega)]
    have ih := ih (j + 1) (by omega)
    by_cases c : mkd x j
    · exact Ev.pos (show rdOf false x (j : Int) = true from c) (Ev.pos (by omega) (Ev.pos (show rdOf false y (j : Int) = true from hs j c) ih))
    · exact Ev.neg (show ¬ rdOf false x (j : Int) = true from c) ih
theorem GraphMore : GraphMore_Pure := by
  intro x0 x1 x2 _ _ _
  refine Ev.rounds ?_
  unfold papermilllaw10_GraphMore.f
  by_cases c : (x0.f1.length : Int) > 500
  · exact Ev.pos c (Ev.bind awake_eq (Ev.c rfl))
  refine Ev.neg c (Ev.sb (fun _ => rfl) (Ev.pos (by simp; omega) (Ev.sb (fun _ => rfl) (Ev.sb (fun _ => rfl) (Ev.pos (by simp; omega) ?_)))))
  have hm : [] ++ x0.f1 ++ [(⟨x2.f0, x2.f1⟩ : S42)] = x0.f1 ++ [x2] := rfl
  obtain ⟨r, h1, h3, h4, h5⟩ := reach_one x0.f0 x0.f1 x1 (by omega)
  obtain ⟨q, g1, _, g4, g5⟩ := reach_one x0.f0 ([] ++ x0.f1 ++ [(⟨x2.f0, x2.f1⟩ : S42)]) x1 (by simp; omega)
  refine Ev.bind h1 (Ev.bind g1 ?_)
  rw [hm] at g4 g5
  -- the further graph passes the check exactly if the graph does and the arc is within the nodes
  have hN : (x0.f1.length : Int) ≤ 500 := by omega
  have hchk : chk x0.f0 (x0.f1 ++ [x2]) = if chk x0.f0 x0.f1 = 0 then (if bad x0.f0 x2 = true then 7 else 0) else chk x0.f0 x0.f1 := by
    unfold chk
    by_cases a1 : x0.f0 < 0 ∨ x0.f0 > 64
    · simp [a1]
    · have a2 : ¬ ((x0.f1.length : Int) > 512) := by omega
      have a3 : ¬ (((x0.f1 ++ [x2]).length : Int) > 512) := by simp; omega
      rw [if_neg a1, if_neg a1, if_neg a2, if_neg a3]
      cases hb : x0.f1.any (bad x0.f0) <;> simp [hb]
  by_cases k1 : chk x0.f0 x0.f1 = 0 ∧ 0 ≤ x1 ∧ x1 < x0.f0
  · obtain ⟨k1, k2, k3⟩ := k1
    obtain ⟨e1, e2⟩ := h4 k1 k2 k3
    refine Ev.pos e1 ?_
    rw [if_pos k1] at hchk
    by_cases b : bad x0.f0 x2 = true
    · rw [if_pos b] at hchk
      have hq := g5 (Or.inl (by rw [hchk]; decide))
      rw [hq, hchk]
      exact Ev.step (fun k => papermilllaw10_GraphMore.j0.eq_2 ..) (Ev.pos rfl (Ev.pos e1 (Ev.bind awake_eq (Ev.c rfl))))
    · rw [if_neg b] at hchk
      obtain ⟨f1, f2⟩ := g4 hchk k2 k3
      have hin : 0 ≤ x2.f0 ∧ x2.f0 < x0.f0 ∧ 0 ≤ x2.f1 ∧ x2.f1 < x0.f0 := by simp [bad] at b; omega
      rw [f1]
      have l1 := e2.len
      have l2 := f2.len
      have hsub : ∀ u, mkd r.1 u → mkd q.1 u := fun u hu => by
        rw [e2.iff] at hu
        rw [f2.iff]
        induction hu with
        | refl => exact Path.refl
        | step _ ha ih =>
          obtain ⟨y, hy, hy0, hy1⟩ := ha
          exact ih.step ⟨y, List.mem_append_left _ hy, hy0, hy1⟩
      refine Ev.step (fun k => papermilllaw10_GraphMore.j0.eq_2 ..) (Ev.neg (by decide) (Ev.pos (by omega) (Ev.pos (by omega) (Ev.neg (by omega) (Ev.neg (by omega) (Ev.neg (by omega) ?_))))))
      refine Ev.step (fun k => papermilllaw10_GraphMore.j1.eq_2 ..) (Ev.neg (by simp; omega) ?_)
      refine more_l0 r.1 q.1 x2.f0 x2.f1 true h3 (by omega) hsub (by omega) (by omega) (fun h => ?_) rfl r.1.length 0 (by omega)
      rw [f2.iff] at h ⊢
      exact h.step ⟨x2, by simp, rfl, rfl⟩
  · have hr := h5 (by omega)
    have hr2 : r.2 ≠ 0 := by
      rw [hr]
      show (if chk x0.f0 x0.f1 = 0 then (7 : Int) else chk x0.f0 x0.f1) ≠ 0
      split <;> omega
    refine Ev.neg hr2 (Ev.step (fun k => papermilllaw10_GraphMore.j0.eq_2 ..) (Ev.pos rfl (Ev.neg hr2 ?_)))
    have hq : q.2 = r.2 := by
      rw [hr]
      by_cases k : chk x0.f0 x0.f1 = 0
      · rw [if_pos k] at hchk
        have k3 : x1 < 0 ∨ x1 ≥ x0.f0 := by omega
        rw [g5 (Or.inr k3), hchk]
        show (if (if bad x0.f0 x2 = true then (7 : Int) else 0) = 0 then (7 : Int) else (if bad x0.f0 x2 = true then 7 else 0)) = (if chk x0.f0 x0.f1 = 0 then 7 else chk x0.f0 x0.f1)
        rw [if_pos k]
        split <;> simp_all
      · rw [if_neg k] at hchk
        rw [g5 (Or.inl (by rw [hchk]; exact k)), hchk]
    exact Ev.pos hq (Ev.bind awake_eq (Ev.c rfl))
end Go.Proofs.Ytaldnhlojllanaa.Pure
