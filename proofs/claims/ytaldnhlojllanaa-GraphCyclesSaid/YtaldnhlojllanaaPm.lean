/- Plain laws on graphs: the reference's check. -/
import Derived.Test.YtaldnhlojllanaaPl
import Derived.Test.YtaldnhlojllanaaQ6
namespace Go.Proofs.Ytaldnhlojllanaa.Pl
open Go.RowKit Go.Proofs.Ytaldnhlojllanaa.Opn Go.Proofs.Ytaldnhlojllanaa.Q Go.Proofs.Ytaldnhlojllanaa.Gd Go.Proofs.YtaldnhlojllanaaW.PrintWords

theorem rcheck_l0 (N : Int) (l : List S42) (hl : l.length ≤ 9223372036854775807) : ∀ (post pre : List S42), l = pre ++ post → Ev (fun k => papermillref10_Check.l0 k (pre.length : Int) N l) (if post.any (bad N) = true then 7 else 0) := by
  intro post
  induction post with
  | nil =>
    intro pre h
    refine Ev.step (fun k => papermillref10_Check.l0.eq_2 ..) ?_
    exact Ev.neg (nlt_end h) (Ev.c rfl)
  | cons x post ih =>
    intro pre h
    refine Ev.step (fun k => papermillref10_Check.l0.eq_2 ..) ?_
    have e : rd_T42 l (pre.length : Int) = x := by rw [h]; exact rd42_at pre post x
    refine Ev.pos (lt_at h) (Ev.pos (by omega) ?_)
    rw [e, wrap_next h hl]
    have ih := ih (pre ++ [x]) (app_one h)
    by_cases c1 : x.f0 < 0
    · exact Ev.pos c1 (Ev.c (by simp [bad, c1]))
    by_cases c2 : x.f0 ≥ N
    · exact Ev.neg c1 (Ev.pos c2 (Ev.c (by simp [bad, c2])))
    by_cases c3 : x.f1 < 0
    · exact Ev.neg c1 (Ev.neg c2 (Ev.pos c3 (Ev.c (by simp [bad, c3]))))
    by_cases c4 : x.f1 ≥ N
    · exact Ev.neg c1 (Ev.neg c2 (Ev.neg c3 (Ev.pos c4 (Ev.c (by simp [bad, c4])))))
    have hb : bad N x = false := by simp [bad]; omega
    rw [List.any_cons, hb, Bool.false_or]
    exact Ev.neg c1 (Ev.neg c2 (Ev.neg c3 (Ev.neg c4 ih)))
theorem rcheck_eq (N : Int) (l : List S42) (hl : l.length ≤ 9223372036854775807) : Ev (fun k => papermillref10_Check.f k N l) (chk N l) := by
  unfold chk papermillref10_Check.f
  by_cases c0 : N < 0
  · refine Ev.pos c0 (Ev.step (fun k => papermillref10_Check.j0.eq_2 ..) (Ev.pos rfl (Ev.c ?_)))
    rw [if_pos (Or.inl c0)]
  refine Ev.neg c0 (Ev.step (fun k => papermillref10_Check.j0.eq_2 ..) ?_)
  by_cases c1 : N > 64
  · refine Ev.pos (by simpa using c1) (Ev.c ?_)
    rw [if_pos (Or.inr c1)]
  refine Ev.neg (by simpa using c1) ?_
  rw [if_neg (by omega)]
  by_cases c2 : (l.length : Int) > 512
  · exact Ev.pos c2 (Ev.c (by rw [if_pos c2]))
  refine Ev.neg c2 ?_
  rw [if_neg c2]
  exact rcheck_l0 N l hl l [] rfl
end Go.Proofs.Ytaldnhlojllanaa.Pl
