/- Plain laws on the reference's comparisons: a list of batches, of reams, of whole numbers is the same as itself. -/
import Derived.Test.YtakoklgmhglpbaaQ5
import Derived.Test.YtakoklgmhglpbaaQ9
import Derived.Test.YtakoklgmhglpbaaPl
namespace Go.Proofs.Ytakoklgmhglpbaa.Pl
open Go.RowKit Go.Proofs.Ytakoklgmhglpbaa.Q Go.Proofs.YtakoklgmhglpbaaW.PrintWords
theorem batches_l0 (l : List S43) (hl : l.length ≤ 9223372036854775807) : ∀ (post pre : List S43), l = pre ++ post → Ev (fun k => papermillref53_Batches.l0 k l l (pre.length : Int)) true := by
  intro post
  induction post with
  | nil =>
    intro pre h
    refine Ev.step (fun k => papermillref53_Batches.l0.eq_2 ..) ?_
    exact Ev.neg (nlt_end h) (Ev.c rfl)
  | cons x post ih =>
    intro pre h
    refine Ev.step (fun k => papermillref53_Batches.l0.eq_2 ..) ?_
    refine Ev.pos (lt_at h) (Ev.pos (by omega) (Ev.pos (lt_at h) (Ev.neg (by simp) ?_)))
    rw [wrap_next h hl]
    exact ih (pre ++ [x]) (app_one h)
theorem batches_refl (l : List S43) (hl : l.length ≤ 9223372036854775807) : Ev (fun k => papermillref53_Batches.f k l l) true := by
  unfold papermillref53_Batches.f
  exact Ev.pos rfl (batches_l0 l hl l [] rfl)
theorem same_l0 (l : List S38) (hl : l.length ≤ 9223372036854775807) (hp : ∀ x ∈ l, x.f0.length ≤ 9223372036854775807) : ∀ (post pre : List S38), l = pre ++ post → Ev (fun k => papermillref53_Same.l0 k l l (pre.length : Int)) true := by
  intro post
  induction post with
  | nil =>
    intro pre h
    refine Ev.step (fun k => papermillref53_Same.l0.eq_2 ..) ?_
    exact Ev.neg (nlt_end h) (Ev.c rfl)
  | cons x post ih =>
    intro pre h
    refine Ev.step (fun k => papermillref53_Same.l0.eq_2 ..) ?_
    have e : rd_T38 l (pre.length : Int) = x := by rw [h]; exact rd38_at pre post x
    refine Ev.pos (lt_at h) (Ev.pos (by omega) (Ev.pos (lt_at h) ?_))
    rw [e]
    refine Ev.bind (batches_refl x.f0 (hp x (by rw [h]; simp))) (Ev.pos rfl ?_)
    rw [wrap_next h hl]
    exact ih (pre ++ [x]) (app_one h)
theorem same_refl (l : List S38) (hl : l.length ≤ 9223372036854775807) (hp : ∀ x ∈ l, x.f0.length ≤ 9223372036854775807) : Ev (fun k => papermillref53_Same.f k l l) true := by
  unfold papermillref53_Same.f
  exact Ev.pos rfl (same_l0 l hl hp l [] rfl)
theorem ints_l0 (l : List Int) (hl : l.length ≤ 9223372036854775807) : ∀ (post pre : List Int), l = pre ++ post → Ev (fun k => papermillref12_Same.l0 k l l (pre.length : Int)) true := by
  intro post
  induction post with
  | nil =>
    intro pre h
    refine Ev.step (fun k => papermillref12_Same.l0.eq_2 ..) ?_
    exact Ev.neg (nlt_end h) (Ev.c rfl)
  | cons x post ih =>
    intro pre h
    refine Ev.step (fun k => papermillref12_Same.l0.eq_2 ..) ?_
    refine Ev.pos (lt_at h) (Ev.pos (by omega) (Ev.pos (lt_at h) (Ev.pos (by simp) ?_)))
    rw [wrap_next h hl]
    exact ih (pre ++ [x]) (app_one h)
theorem ints_refl (l : List Int) (hl : l.length ≤ 9223372036854775807) : Ev (fun k => papermillref12_Same.f k l l) true := by
  unfold papermillref12_Same.f
  exact Ev.pos rfl (ints_l0 l hl l [] rfl)
end Go.Proofs.Ytakoklgmhglpbaa.Pl
