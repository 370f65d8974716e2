/- The law PackCounts in plain Lean: for every ream and every two numbers, within their kinds' bounds, the program's count, rolls and pallets are the reference's. -/
import Derived.Test.YtakoklgmhglpbaaStPackCounts
import Derived.Test.YtakoklgmhglpbaaPb
namespace Go.Proofs.Ytakoklgmhglpbaa.Pure
open Go.RowKit Go.Proofs.Ytakoklgmhglpbaa.Opn Go.Proofs.Ytakoklgmhglpbaa.Q Go.Proofs.Ytakoklgmhglpbaa.Gd Go.Proofs.YtakoklgmhglpbaaW.PrintWords Go.Proofs.Ytakoklgmhglpbaa.Pl
def countS (l : List S43) : Int × Int := if chk l = 0 then (sumS l, 0) else (0, chk l)
theorem pack_count (l : List S43) : Ev (fun k => pack_Count.f k l) (countS l) := by
  unfold pack_Count.f countS
  refine Ev.sb (fun n => check_eq l) ?_
  by_cases h : chk l = 0
  · rw [if_pos h]
    exact Ev.pos h (Ev.bind (count_eq h) (Ev.c rfl))
  · rw [if_neg h]
    exact Ev.neg h (Ev.c rfl)
theorem ref_count_l0 (l : List S43) (hl : l.length ≤ 512) (hv : ∀ x ∈ l, Ok x) : ∀ (post pre : List S43), l = pre ++ post → Ev (fun k => papermillref53_Count.l0 k (sumS pre) (pre.length : Int) l) (sumS l, 0) := by
  intro post
  induction post with
  | nil =>
    intro pre h
    refine Ev.step (fun k => papermillref53_Count.l0.eq_2 ..) ?_
    exact Ev.neg (nlt_end h) (Ev.c (by rw [h]; simp))
  | cons x post ih =>
    intro pre h
    refine Ev.step (fun k => papermillref53_Count.l0.eq_2 ..) ?_
    have e : rd_T43 l (pre.length : Int) = x := by rw [h]; exact rd43_at pre post x
    have hx : Ok x := hv x (by rw [h]; simp)
    have hpre : ∀ y ∈ pre, Ok y := fun y hy => hv y (by rw [h]; simp [hy])
    have hb := sumS_bd hpre
    have hb2 := sz_bd hx
    have hlen : pre.length + 1 ≤ 512 := by have := congrArg List.length h; simp at this; omega
    refine Ev.pos (lt_at h) (Ev.pos (by omega) ?_)
    rw [e]
    refine Ev.sb (fun n => size_eq hx) ?_
    rw [wrap_next h (by omega)]
    have e2 : wrap64 (sumS pre + sz x) = sumS (pre ++ [x]) := by
      rw [sumS_app]
      simp only [sumS]
      unfold wrap64
      omega
    rw [e2]
    exact ih (pre ++ [x]) (app_one h)
theorem ref_count (l : List S43) (hl : l.length ≤ 9223372036854775807) : Ev (fun k => papermillref53_Count.f k l) (countS l) := by
  unfold papermillref53_Count.f countS
  refine Ev.bind (all_eq l hl) ?_
  by_cases h : chk l = 0
  · rw [if_pos h]
    obtain ⟨h1, h2⟩ := chk_zero h
    exact Ev.pos h (ref_count_l0 l h1 h2 l [] rfl)
  · rw [if_neg h]
    exact Ev.neg h (Ev.c rfl)

/-- The rolls with sheets. -/
def rollS : List S43 → List Int → List Int
  | [], o => o
  | x :: l, o => if sz x = 0 ∨ x.f0 ∈ o then rollS l o else rollS l (o ++ [x.f0])
def rollsS (l : List S43) : List Int × Int := if chk l = 0 then (rollS l [], 0) else ([], chk l)
theorem rollS_len : ∀ (l : List S43) (o : List Int), (rollS l o).length ≤ o.length + l.length := by
  intro l
  induction l with
  | nil => intro o; simp [rollS]
  | cons x l ih =>
    intro o
    simp only [rollS]
    split
    · have := ih o; simp only [List.length_cons]; omega
    · have := ih (o ++ [x.f0]); simp only [List.length_append, List.length_cons, List.length_nil] at *; omega
theorem index_l0 (o : List Int) (y : Int) (ho : o.length ≤ 1000000) : ∀ (post pre : List Int), o = pre ++ post → ∃ v, Ev (fun k => slices_Index_int_int.l0 k o y (o.length : Int) (pre.length : Int)) v ∧ (v ≥ 0 ↔ y ∈ post) := by
  intro post
  induction post with
  | nil =>
    intro pre h
    refine ⟨-1, Ev.step (fun k => slices_Index_int_int.l0.eq_2 ..) (Ev.neg (nlt_end h) (Ev.c rfl)), by simp⟩
  | cons x post ih =>
    intro pre h
    have e : rd o (pre.length : Int) = x := by rw [h]; exact rd_at pre post x
    by_cases hx : y = x
    · refine ⟨(pre.length : Int), Ev.step (fun k => slices_Index_int_int.l0.eq_2 ..) ?_, ?_⟩
      · exact Ev.pos (lt_at h) (Ev.pos (by omega) (Ev.pos (lt_at h) (Ev.pos (by rw [e]; exact hx) (Ev.c rfl))))
      · exact ⟨fun _ => by rw [hx]; exact List.mem_cons_self, fun _ => by omega⟩
    · obtain ⟨v, h1, h2⟩ := ih (pre ++ [x]) (app_one h)
      refine ⟨v, Ev.step (fun k => slices_Index_int_int.l0.eq_2 ..) ?_, ?_⟩
      · refine Ev.pos (lt_at h) (Ev.pos (by omega) (Ev.pos (lt_at h) (Ev.neg (by rw [e]; exact hx) ?_)))
        rw [wrap_next h (by omega)]
        exact h1
      · rw [h2, List.mem_cons]
        exact ⟨Or.inr, fun h => h.resolve_left hx⟩
theorem contains_eq (o : List Int) (y : Int) (ho : o.length ≤ 1000000) : Ev (fun k => slices_Contains_int_int.f k o y) (decide (y ∈ o)) := by
  obtain ⟨v, h1, h2⟩ := index_l0 o y ho o [] rfl
  unfold slices_Contains_int_int.f slices_Index_int_int.f
  refine Ev.bind h1 (Ev.c ?_)
  by_cases h : y ∈ o
  · simp [h2.2 h, h]
  · simp only [h, decide_false]
    exact decide_eq_false (fun hv => h (h2.1 hv))
theorem pack_rolls_l0 (l : List S43) (hl : l.length ≤ 512) : ∀ (post pre : List S43) (o : List Int), l = pre ++ post → o.length ≤ pre.length → Ev (fun k => pack_Rolls.l0 k o l (l.length : Int) (pre.length : Int)) (rollS post o, 0) := by
  intro post
  induction post with
  | nil =>
    intro pre o h ho
    refine Ev.step (fun k => pack_Rolls.l0.eq_2 ..) ?_
    exact Ev.neg (nlt_end h) (Ev.c rfl)
  | cons x post ih =>
    intro pre o h ho
    have e : rd_T43 l (pre.length : Int) = x := by rw [h]; exact rd43_at pre post x
    have hlen : pre.length + 1 ≤ 512 := by have := congrArg List.length h; simp at this; omega
    refine Ev.step (fun k => pack_Rolls.l0.eq_2 ..) ?_
    refine Ev.pos (lt_at h) (Ev.pos (by omega) (Ev.pos (lt_at h) ?_))
    rw [e, wrap_next h (by omega)]
    refine Ev.sb (a := decide (x.f1.f1 = x.f1.f0)) (fun n => by unfold pack_none.f; rw [Bool.beq_eq_decide_eq]) ?_
    simp only [rollS]
    by_cases h0 : x.f1.f1 = x.f1.f0
    · refine Ev.pos (by simp [h0]) ?_
      rw [if_pos (Or.inl (by unfold sz; omega))]
      exact ih (pre ++ [x]) o (app_one h) (by simp only [List.length_append, List.length_singleton]; omega)
    · refine Ev.neg (by simp [h0]) (Ev.bind (contains_eq o x.f0 (by omega)) ?_)
      by_cases h1 : x.f0 ∈ o
      · refine Ev.pos (by simp [h1]) ?_
        rw [if_pos (Or.inr h1)]
        exact ih (pre ++ [x]) o (app_one h) (by simp only [List.length_append, List.length_singleton]; omega)
      · refine Ev.neg (by simp [h1]) (Ev.pos (by omega) ?_)
        rw [if_neg (fun hh => hh.elim (fun hs => by unfold sz at hs; omega) h1)]
        exact ih (pre ++ [x]) (o ++ [x.f0]) (app_one h) (by simp only [List.length_append, List.length_singleton]; omega)
theorem pack_rolls (l : List S43) : Ev (fun k => pack_Rolls.f k l) (rollsS l) := by
  unfold pack_Rolls.f rollsS
  refine Ev.sb (fun n => check_eq l) ?_
  by_cases h : chk l = 0
  · rw [if_pos h]
    obtain ⟨h1, _⟩ := chk_zero h
    exact Ev.pos h (pack_rolls_l0 l h1 l [] [] rfl (Nat.le_refl _))
  · rw [if_neg h]
    exact Ev.neg h (Ev.c rfl)
theorem ref_rolls_inner (l : List S43) (i : Int) (x : S43) (hi : 0 ≤ i) (hi2 : i < l.length) (e : rd_T43 l i = x) (o : List Int) (ho : o.length ≤ 512) (res : List Int × Int) :
    ∀ (post pre : List Int) (b : Bool), o = pre ++ post → (b = true ∨ x.f0 ∈ post → Ev (fun k => papermillref53_Rolls.l0 k o (wrap64 (i + 1)) l) res) → (b = false → ¬ x.f0 ∈ post → Ev (fun k => papermillref53_Rolls.l0 k (o ++ [x.f0]) (wrap64 (i + 1)) l) res) →
      Ev (fun k => papermillref53_Rolls.l1 k o i b (pre.length : Int) l) res := by
  intro post
  induction post with
  | nil =>
    intro pre b h ha hb
    refine Ev.step (fun k => papermillref53_Rolls.l1.eq_2 ..) ?_
    refine Ev.neg (nlt_end h) ?_
    cases b with
    | true => exact Ev.pos rfl (ha (Or.inl rfl))
    | false =>
      refine Ev.neg (by decide) (Ev.pos hi (Ev.pos hi2 (Ev.pos (by omega) ?_)))
      rw [e]
      exact hb rfl (by simp)
  | cons y post ih =>
    intro pre b h ha hb
    have ey : rd o (pre.length : Int) = y := by rw [h]; exact rd_at pre post y
    refine Ev.step (fun k => papermillref53_Rolls.l1.eq_2 ..) ?_
    refine Ev.pos (lt_at h) ?_
    rw [wrap_next h (by omega)]
    cases b with
    | true => exact Ev.pos rfl (ih (pre ++ [y]) true (app_one h) (fun _ => ha (Or.inl rfl)) (fun hh => by cases hh))
    | false =>
      refine Ev.neg (by decide) (Ev.pos (by omega) (Ev.pos hi (Ev.pos hi2 ?_)))
      rw [ey, e]
      refine ih (pre ++ [y]) (y == x.f0) (app_one h) (fun hh => ha (Or.inr ?_)) (fun h1 h2 => hb rfl ?_)
      · rcases hh with hh | hh
        · rw [beq_iff_eq] at hh; rw [← hh]; exact List.mem_cons_self
        · exact List.mem_cons_of_mem _ hh
      · rw [List.mem_cons]
        rintro (hh | hh)
        · rw [hh, beq_self_eq_true] at h1; cases h1
        · exact h2 hh
theorem ref_rolls_l0 (l : List S43) (hl : l.length ≤ 512) (hv : ∀ x ∈ l, Ok x) : ∀ (post pre : List S43) (o : List Int), l = pre ++ post → o.length ≤ pre.length → Ev (fun k => papermillref53_Rolls.l0 k o (pre.length : Int) l) (rollS post o, 0) := by
  intro post
  induction post with
  | nil =>
    intro pre o h ho
    refine Ev.step (fun k => papermillref53_Rolls.l0.eq_2 ..) ?_
    exact Ev.neg (nlt_end h) (Ev.c rfl)
  | cons x post ih =>
    intro pre o h ho
    have e : rd_T43 l (pre.length : Int) = x := by rw [h]; exact rd43_at pre post x
    have hx : Ok x := hv x (by rw [h]; simp)
    have hlen : pre.length + 1 ≤ 512 := by have := congrArg List.length h; simp at this; omega
    refine Ev.step (fun k => papermillref53_Rolls.l0.eq_2 ..) ?_
    refine Ev.pos (lt_at h) (Ev.pos (by omega) ?_)
    rw [e]
    refine Ev.sb (fun n => size_eq hx) ?_
    have hA := ih (pre ++ [x]) o (app_one h) (by simp only [List.length_append, List.length_singleton]; omega)
    have hB := ih (pre ++ [x]) (o ++ [x.f0]) (app_one h) (by simp only [List.length_append, List.length_singleton]; omega)
    refine ref_rolls_inner l (pre.length : Int) x (by omega) (lt_at h) e o (by omega) _ o [] (sz x == 0) rfl (fun hh => ?_) (fun h1 h2 => ?_)
    · rw [wrap_next h (by omega)]
      simp only [rollS]
      rw [if_pos (hh.imp (fun hs => by simpa using hs) id)]
      exact hA
    · rw [wrap_next h (by omega)]
      simp only [rollS]
      rw [if_neg (fun hh => hh.elim (fun hs => by rw [hs] at h1; simp at h1) h2)]
      exact hB
theorem ref_rolls (l : List S43) (hl : l.length ≤ 9223372036854775807) : Ev (fun k => papermillref53_Rolls.f k l) (rollsS l) := by
  unfold papermillref53_Rolls.f rollsS
  refine Ev.bind (all_eq l hl) ?_
  by_cases h : chk l = 0
  · rw [if_pos h]
    obtain ⟨h1, h2⟩ := chk_zero h
    exact Ev.pos h (ref_rolls_l0 l h1 h2 l [] [] rfl (Nat.le_refl _))
  · rw [if_neg h]
    exact Ev.neg h (Ev.c rfl)
theorem pallets_some (a b : Int) : ∃ r, pack_Pallets.f a b = some r ∧ papermillref53_Pallets.f a b = some r := by
  unfold pack_Pallets.f papermillref53_Pallets.f
  by_cases h1 : a < 0
  · exact ⟨_, by rw [if_pos h1], by rw [if_pos h1]⟩
  by_cases h2 : a > 512
  · exact ⟨_, by rw [if_neg h1, if_pos h2], by rw [if_neg h1, if_pos h2]⟩
  by_cases h3 : b < 1
  · exact ⟨_, by rw [if_neg h1, if_neg h2, if_pos h3], by rw [if_neg h1, if_neg h2, if_pos h3]⟩
  by_cases h4 : b > 512
  · exact ⟨_, by rw [if_neg h1, if_neg h2, if_neg h3, if_pos h4], by rw [if_neg h1, if_neg h2, if_neg h3, if_pos h4]⟩
  · exact ⟨_, by rw [if_neg h1, if_neg h2, if_neg h3, if_neg h4, if_neg (by omega)], by rw [if_neg h1, if_neg h2, if_neg h3, if_neg h4, if_neg (by omega)]⟩
theorem PackCounts : PackCounts_Pure := by
  intro r x hr _
  refine Ev.rounds ?_
  unfold papermilllaw53_PackCounts.f
  by_cases h : (r.f0.length : Int) > 520
  · exact Ev.pos h (Ev.sb (fun _ => rfl) (Ev.c rfl))
  · have hl : r.f0.length ≤ 9223372036854775807 := by omega
    obtain ⟨q, q1, q2⟩ := pallets_some x.f0 x.f1
    refine Ev.neg h (Ev.bind (pack_count r.f0) (Ev.bind (ref_count r.f0 hl) (Ev.bind (pack_rolls r.f0) (Ev.bind (ref_rolls r.f0 hl) (Ev.sb (fun _ => q1) (Ev.sb (fun _ => q2) ?_))))))
    have hlen : (rollsS r.f0).1.length ≤ 520 := by
      unfold rollsS
      split
      · have := rollS_len r.f0 []
        simp only [List.length_nil] at this
        show (rollS r.f0 []).length ≤ 520
        omega
      · exact Nat.zero_le _
    refine Ev.pos rfl (Ev.pos rfl (Ev.bind (ints_refl _ (by omega)) (Ev.pos rfl (Ev.pos rfl (Ev.pos rfl (Ev.pos rfl (Ev.pos rfl (Ev.sb (fun _ => rfl) (Ev.c rfl)))))))))
end Go.Proofs.Ytakoklgmhglpbaa.Pure
