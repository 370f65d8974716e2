/- The law PackWhere in plain Lean: for every list of reams, every roll and sheet, within their kinds' bounds, the sheet at the place that Where tells is the one that was asked for, and no earlier ream holds it. -/
import Derived.Test.YtakoklgmhglpbaaStPackWhere
import Derived.Test.YtakoklgmhglpbaaPw
namespace Go.Proofs.Ytakoklgmhglpbaa.Pure
open Go.RowKit Go.Proofs.Ytakoklgmhglpbaa.Opn Go.Proofs.Ytakoklgmhglpbaa.Q Go.Proofs.Ytakoklgmhglpbaa.Gd Go.Proofs.YtakoklgmhglpbaaW.PrintWords Go.Proofs.Ytakoklgmhglpbaa.Pl
theorem fnd_cases (roll sheet : Int) : ∀ (l : List S38) (c : Int), (fndS roll sheet l c = (0, 0, 7)) ∨ ∃ pre r post v, l = pre ++ r :: post ∧ (∀ x ∈ pre, plS roll sheet x.f0 0 = none) ∧ plS roll sheet r.f0 0 = some v ∧ fndS roll sheet l c = (c + pre.length, v, 0) := by
  intro l
  induction l with
  | nil => intro c; exact Or.inl rfl
  | cons x l ih =>
    intro c
    simp only [fndS]
    cases hp : plS roll sheet x.f0 0 with
    | some v => exact Or.inr ⟨[], x, l, v, rfl, fun y hy => absurd hy List.not_mem_nil, hp, by simp⟩
    | none =>
      rcases ih (c + 1) with h | ⟨pre, r, post, v, h1, h2, h3, h4⟩
      · exact Or.inl h
      · refine Or.inr ⟨x :: pre, r, post, v, by rw [h1]; rfl, fun y hy => ?_, h3, ?_⟩
        · rcases List.mem_cons.1 hy with rfl | hy
          · exact hp
          · exact h2 y hy
        · show fndS roll sheet l (c + 1) = _
          rw [h4, List.length_cons]
          congr 1
          omega
theorem inner (l : List S38) (roll sheet : Int) (_hl : l.length ≤ 512) (r : S38) (hr : chk r.f0 = 0) (pre0 post0 : List S38) (h0 : l = pre0 ++ r :: post0) (v : Int) :
    ∀ (post pre : List S43), r.f0 = pre ++ post → plS roll sheet post (sumS pre) = some v → Ev (fun k => papermilllaw53_PackWhere.l1 k l roll sheet (pre0.length : Int) (v - sumS pre) (pre.length : Int)) true := by
  have er : rd_T38 l (pre0.length : Int) = r := by rw [h0]; exact rd38_at pre0 post0 r
  obtain ⟨hn, hv⟩ := chk_zero hr
  intro post
  induction post with
  | nil => intro pre h hp; simp [plS] at hp
  | cons x post ih =>
    intro pre h hp
    have e : rd_T43 r.f0 (pre.length : Int) = x := by rw [h]; exact rd43_at pre post x
    have hx : Ok x := hv x (by rw [h]; simp)
    have hpre : ∀ y ∈ pre, Ok y := fun y hy => hv y (by rw [h]; simp [hy])
    have hpost : ∀ y ∈ post, Ok y := fun y hy => hv y (by rw [h]; simp [hy])
    have hb := sumS_bd hpre
    have hb2 := sz_bd hx
    have hlen : pre.length + 1 ≤ 512 := by have := congrArg List.length h; simp at this; omega
    have e3 : sumS (pre ++ [x]) = sumS pre + sz x := by rw [sumS_app]; simp [sumS]
    have hf0 := hx.f0; have hft := hx.ft; have ht := hx.t
    have w1 : wrap64 (x.f1.f1 - x.f1.f0) = sz x := by unfold sz at *; unfold wrap64; omega
    refine Ev.step (fun k => papermilllaw53_PackWhere.l1.eq_2 ..) ?_
    refine Ev.pos (by omega) (Ev.pos (lt_at h0) (Ev.pos (by rw [er]; exact lt_at h) (Ev.pos (by omega) ?_)))
    rw [er, e, wrap_next h (by omega), w1]
    by_cases hh : hits roll sheet x
    · simp only [plS] at hp
      rw [if_pos hh] at hp
      have hv2 := Option.some.inj hp
      obtain ⟨h1, h2, h3⟩ := hh
      refine Ev.pos (by unfold sz; omega) (Ev.pos h1 (Ev.pos ?_ (Ev.sb (fun _ => rfl) (Ev.c rfl))))
      unfold wrap64
      omega
    · simp only [plS] at hp
      rw [if_neg hh] at hp
      have hbd := plS_bd roll sheet post hpost _ _ hp
      have hbp := sumS_bd hpost
      have hlp : post.length ≤ 512 := by have := congrArg List.length h; simp at this; omega
      refine Ev.neg (by omega) (Ev.pos (by simp only [List.length_append, List.length_singleton]; omega) (Ev.pos (by rw [h]; simp only [List.length_append, List.length_cons, List.length_nil]; omega) ?_))
      have e5 : (r.f0.take ((pre ++ [x]).length : Int).toNat).drop (pre.length : Int).toNat = [x] := by
        rw [Int.toNat_natCast, Int.toNat_natCast, app_one h, List.take_left' rfl, List.drop_left' rfl]
      rw [e5]
      refine Ev.bind (times_eq roll sheet [x] (by simp)) ?_
      have e6 : cnt roll sheet [x] = 0 := by simp [cnt, hh]
      rw [e6]
      refine Ev.neg (by omega) ?_
      have w2 : wrap64 (v - sumS pre - sz x) = v - sumS (pre ++ [x]) := by rw [e3]; unfold wrap64; omega
      rw [w2]
      exact ih (pre ++ [x]) (app_one h) (by rw [e3]; exact hp)
theorem outer (l : List S38) (roll sheet : Int) (hl : l.length ≤ 60) (hp : ∀ r ∈ l, r.f0.length ≤ 60) (v : Int) (pre0 : List S38) (r : S38) (post0 : List S38) (h0 : l = pre0 ++ r :: post0) (hv0 : ∀ x ∈ pre0, plS roll sheet x.f0 0 = none) (hr : chk r.f0 = 0) (hv : plS roll sheet r.f0 0 = some v) :
    ∀ (q p : List S38), pre0 = p ++ q → Ev (fun k => papermilllaw53_PackWhere.l0 k l roll sheet (pre0.length : Int) v (p.length : Int)) true := by
  intro q
  induction q with
  | nil =>
    intro p h
    refine Ev.step (fun k => papermilllaw53_PackWhere.l0.eq_2 ..) ?_
    refine Ev.neg (nlt_end h) ?_
    have := inner l roll sheet (by omega) r hr pre0 post0 h0 v r.f0 [] rfl hv
    simpa [sumS] using this
  | cons x q ih =>
    intro p h
    have hl2 : l = p ++ x :: (q ++ r :: post0) := by rw [h0, h]; simp
    have e : rd_T38 l (p.length : Int) = x := by rw [hl2]; exact rd38_at p _ x
    refine Ev.step (fun k => papermilllaw53_PackWhere.l0.eq_2 ..) ?_
    refine Ev.pos (lt_at h) (Ev.pos (by omega) (Ev.pos (lt_at hl2) ?_))
    rw [e]
    refine Ev.bind (times_eq roll sheet x.f0 (by have := hp x (by rw [hl2]; simp); omega)) ?_
    have := (plS_none roll sheet x.f0 0).1 (hv0 x (by rw [h]; simp))
    rw [this]
    refine Ev.neg (by omega) ?_
    rw [wrap_next hl2 (by omega)]
    exact ih (p ++ [x]) (app_one h)
theorem PackWhere : PackWhere_Pure := by
  intro l roll sheet _ _ _
  refine Ev.rounds ?_
  unfold papermilllaw53_PackWhere.f
  rcases short_cases l with h | ⟨h, h1, h2⟩
  · exact Ev.bind h (Ev.neg (by decide) (Ev.sb (fun _ => rfl) (Ev.c rfl)))
  · refine Ev.bind h (Ev.pos rfl (Ev.bind (pack_where l roll sheet (by omega)) ?_))
    unfold whS wrS
    by_cases he : errS l = 0
    · rw [if_pos he]
      rcases fnd_cases roll sheet l 0 with hf | ⟨pre, r, post, v, h3, h4, h5, h6⟩
      · rw [hf]
        exact Ev.neg (by decide) (Ev.pos rfl (Ev.pos rfl (Ev.sb (fun _ => rfl) (Ev.c rfl))))
      · rw [h6]
        have hc := errS_all he r (by rw [h3]; simp)
        have hb := plS_bd roll sheet r.f0 (chk_zero hc).2 0 v h5
        have hlt := lt_at h3
        refine Ev.pos rfl (Ev.neg (by show ¬ (0 + (pre.length : Int)) < 0; omega) (Ev.neg (by show ¬ (0 + (pre.length : Int)) ≥ _; omega) (Ev.neg (by show ¬ v < 0; omega) ?_)))
        show Ev (fun n => papermilllaw53_PackWhere.l0 n l roll sheet (0 + (pre.length : Int)) v 0) true
        rw [Int.zero_add]
        exact outer l roll sheet h1 h2 v pre r post h3 h4 hc h5 pre [] rfl
    · rw [if_neg he]
      exact Ev.neg he (Ev.pos rfl (Ev.pos rfl (Ev.sb (fun _ => rfl) (Ev.c rfl))))
end Go.Proofs.Ytakoklgmhglpbaa.Pure
