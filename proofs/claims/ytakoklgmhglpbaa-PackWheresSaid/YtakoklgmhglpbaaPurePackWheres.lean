/- The law PackWheres in plain Lean: for every list of reams, every roll and sheet, within their kinds' bounds, the program's place is the reference's. -/
import Derived.Test.YtakoklgmhglpbaaStPackWheres
import Derived.Test.YtakoklgmhglpbaaPw
namespace Go.Proofs.Ytakoklgmhglpbaa.Pure
open Go.RowKit Go.Proofs.Ytakoklgmhglpbaa.Opn Go.Proofs.Ytakoklgmhglpbaa.Q Go.Proofs.Ytakoklgmhglpbaa.Gd Go.Proofs.YtakoklgmhglpbaaW.PrintWords Go.Proofs.Ytakoklgmhglpbaa.Pl
theorem ref_l2 (l : List S38) (roll sheet : Int) (hl : l.length ≤ 512) (r : S38) (hr : chk r.f0 = 0) (pre0 post0 : List S38) (h0 : l = pre0 ++ r :: post0) (res : Int × Int × Int)
    (hE : Ev (fun k => papermillref53_Where.l1 k l roll sheet ((pre0 ++ [r]).length : Int)) res) :
    ∀ (post pre : List S43), r.f0 = pre ++ post → Ev (fun k => papermillref53_Where.l2 k l roll sheet (pre0.length : Int) (sumS pre) (pre.length : Int)) (match plS roll sheet post (sumS pre) with | some v => ((pre0.length : Int), v, 0) | none => res) := by
  have er : rd_T38 l (pre0.length : Int) = r := by rw [h0]; exact rd38_at pre0 post0 r
  obtain ⟨hn, hv⟩ := chk_zero hr
  intro post
  induction post with
  | nil =>
    intro pre h
    refine Ev.step (fun k => papermillref53_Where.l2.eq_2 ..) ?_
    refine Ev.pos (by omega) (Ev.pos (lt_at h0) (Ev.neg (by rw [er]; exact nlt_end h) ?_))
    rw [wrap_next h0 (by omega)]
    exact hE
  | cons x post ih =>
    intro pre h
    have e : rd_T43 r.f0 (pre.length : Int) = x := by rw [h]; exact rd43_at pre post x
    have hx : Ok x := hv x (by rw [h]; simp)
    have hpre : ∀ y ∈ pre, Ok y := fun y hy => hv y (by rw [h]; simp [hy])
    have hb := sumS_bd hpre
    have hb2 := sz_bd hx
    have hlen : pre.length + 1 ≤ 512 := by have := congrArg List.length h; simp at this; omega
    have e3 : sumS (pre ++ [x]) = sumS pre + sz x := by rw [sumS_app]; simp [sumS]
    have e2 : wrap64 (sumS pre + sz x) = sumS (pre ++ [x]) := by rw [e3]; unfold wrap64; omega
    have hnext := ih (pre ++ [x]) (app_one h)
    rw [show sumS (pre ++ [x]) = sumS pre + sz x from e3] at hnext e2
    refine Ev.step (fun k => papermillref53_Where.l2.eq_2 ..) ?_
    refine Ev.pos (by omega) (Ev.pos (lt_at h0) (Ev.pos (by rw [er]; exact lt_at h) (Ev.pos (by omega) ?_)))
    rw [er, e, wrap_next h (by omega)]
    have hmiss : ¬ hits roll sheet x → Ev (fun k => (papermillref53_size.f x.f0 x.f1.f0 x.f1.f1).bind fun t => papermillref53_Where.l2 k l roll sheet (pre0.length : Int) (wrap64 (sumS pre + t)) ((pre ++ [x]).length : Int))
        (match plS roll sheet (x :: post) (sumS pre) with | some v => ((pre0.length : Int), v, 0) | none => res) := fun hm => by
      refine Ev.sb (fun n => size_eq hx) ?_
      rw [e2]
      simp only [plS]
      rw [if_neg hm]
      exact hnext
    by_cases h1 : x.f0 = roll
    · refine Ev.pos h1 ?_
      by_cases h2 : x.f1.f0 ≤ sheet
      · refine Ev.pos h2 ?_
        by_cases h3 : sheet < x.f1.f1
        · refine Ev.pos h3 (Ev.c ?_)
          have := hx.f0; have := hx.t
          simp only [plS]
          rw [if_pos ⟨h1, h2, h3⟩]
          show (_, _, _) = (_, _, _)
          have w1 : wrap64 (sumS pre + sheet) = sumS pre + sheet := by unfold wrap64; omega
          have w2 : wrap64 (sumS pre + sheet - x.f1.f0) = sumS pre + sheet - x.f1.f0 := by unfold wrap64; omega
          rw [w1, w2]
        · exact Ev.neg h3 (hmiss fun hh => h3 hh.2.2)
      · exact Ev.neg h2 (hmiss fun hh => h2 hh.2.1)
    · exact Ev.neg h1 (hmiss fun hh => h1 hh.1)
theorem ref_l1 (l : List S38) (roll sheet : Int) (hl : l.length ≤ 512) (hv : ∀ r ∈ l, chk r.f0 = 0) : ∀ (post pre : List S38), l = pre ++ post → Ev (fun k => papermillref53_Where.l1 k l roll sheet (pre.length : Int)) (fndS roll sheet post (pre.length : Int)) := by
  intro post
  induction post with
  | nil =>
    intro pre h
    refine Ev.step (fun k => papermillref53_Where.l1.eq_2 ..) ?_
    exact Ev.neg (nlt_end h) (Ev.c rfl)
  | cons x post ih =>
    intro pre h
    refine Ev.step (fun k => papermillref53_Where.l1.eq_2 ..) ?_
    refine Ev.pos (lt_at h) ?_
    have := ref_l2 l roll sheet hl x (hv x (by rw [h]; simp)) pre post h _ (ih (pre ++ [x]) (app_one h)) x.f0 [] rfl
    simp only [fndS]
    rw [show ((pre ++ [x]).length : Int) = (pre.length : Int) + 1 by simp] at this
    exact this
theorem ref_l0 (l : List S38) (roll sheet : Int) (hl : l.length ≤ 512) (hp : ∀ r ∈ l, r.f0.length ≤ 60) : ∀ (post pre : List S38), l = pre ++ post → (∀ r ∈ pre, chk r.f0 = 0) → Ev (fun k => papermillref53_Where.l0 k l roll sheet (pre.length : Int)) (wrS (errS post) (fndS roll sheet l 0)) := by
  intro post
  induction post with
  | nil =>
    intro pre h hc
    refine Ev.step (fun k => papermillref53_Where.l0.eq_2 ..) ?_
    refine Ev.neg (nlt_end h) ?_
    show Ev _ (fndS roll sheet l 0)
    exact ref_l1 l roll sheet hl (by rw [h]; simpa using hc) l [] rfl
  | cons x post ih =>
    intro pre h hc0
    have e : rd_T38 l (pre.length : Int) = x := by rw [h]; exact rd38_at pre post x
    refine Ev.step (fun k => papermillref53_Where.l0.eq_2 ..) ?_
    refine Ev.pos (lt_at h) (Ev.pos (by omega) ?_)
    rw [e]
    refine Ev.bind (all_eq x.f0 (by have := hp x (by rw [h]; simp); omega)) ?_
    by_cases hc : chk x.f0 = 0
    · refine Ev.pos hc ?_
      rw [show errS (x :: post) = errS post by simp [errS, hc], wrap_next h (by omega)]
      exact ih (pre ++ [x]) (app_one h) (fun r hr => by
        rcases List.mem_append.1 hr with hr | hr
        · exact hc0 r hr
        · obtain rfl := List.mem_singleton.1 hr; exact hc)
    · refine Ev.neg hc ?_
      rw [show errS (x :: post) = chk x.f0 by simp [errS, hc]]
      exact Ev.c (by unfold wrS; rw [if_neg hc])
theorem PackWheres : PackWheres_Pure := by
  intro l roll sheet _ _ _
  refine Ev.rounds ?_
  unfold papermilllaw53_PackWheres.f
  rcases short_cases l with h | ⟨h, h1, h2⟩
  · exact Ev.bind h (Ev.neg (by decide) (Ev.sb (fun _ => rfl) (Ev.c rfl)))
  · refine Ev.bind h (Ev.pos rfl (Ev.bind (pack_where l roll sheet (by omega)) ?_))
    have hr : Ev (fun k => papermillref53_Where.f k l roll sheet) (whS l roll sheet) := by
      unfold papermillref53_Where.f whS
      exact Ev.neg (by omega) (ref_l0 l roll sheet (by omega) h2 l [] rfl (fun r hr => by cases hr))
    exact Ev.bind hr (Ev.pos rfl (Ev.pos rfl (Ev.pos rfl (Ev.sb (fun _ => rfl) (Ev.c rfl)))))
end Go.Proofs.Ytakoklgmhglpbaa.Pure
