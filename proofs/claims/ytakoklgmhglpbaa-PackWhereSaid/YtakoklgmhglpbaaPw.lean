/- Plain laws on places: what pack.Where, its reference, and the laws' own counts come to. -/
import Derived.Test.YtakoklgmhglpbaaQ7
import Derived.Test.YtakoklgmhglpbaaQ15
import Derived.Test.YtakoklgmhglpbaaPl
namespace Go.Proofs.Ytakoklgmhglpbaa.Pl
open Go.RowKit Go.Proofs.Ytakoklgmhglpbaa.Opn Go.Proofs.Ytakoklgmhglpbaa.Q Go.Proofs.Ytakoklgmhglpbaa.Gd Go.Proofs.YtakoklgmhglpbaaW.PrintWords

/-- Does a batch hold a sheet of a roll. -/
def hits (roll sheet : Int) (x : S43) : Prop := x.f0 = roll ∧ x.f1.f0 ≤ sheet ∧ sheet < x.f1.f1
instance (roll sheet : Int) (x : S43) : Decidable (hits roll sheet x) := by unfold hits; exact inferInstance
/-- The first place of a sheet, counted from c on. -/
def plS (roll sheet : Int) : List S43 → Int → Option Int
  | [], _ => none
  | x :: l, c => if hits roll sheet x then some (c + sheet - x.f1.f0) else plS roll sheet l (c + sz x)
/-- How often a sheet is there. -/
def cnt (roll sheet : Int) : List S43 → Nat
  | [] => 0
  | x :: l => (if hits roll sheet x then 1 else 0) + cnt roll sheet l
theorem cnt_app (roll sheet : Int) (a b : List S43) : cnt roll sheet (a ++ b) = cnt roll sheet a + cnt roll sheet b := by
  induction a with
  | nil => simp [cnt]
  | cons x a ih => simp only [List.cons_append, cnt, ih]; omega
theorem cnt_le (roll sheet : Int) (l : List S43) : cnt roll sheet l ≤ l.length := by
  induction l with
  | nil => simp [cnt]
  | cons x l ih => simp only [cnt, List.length_cons]; split <;> omega
theorem plS_none (roll sheet : Int) (l : List S43) : ∀ c, plS roll sheet l c = none ↔ cnt roll sheet l = 0 := by
  induction l with
  | nil => intro c; simp [plS, cnt]
  | cons x l ih =>
    intro c
    simp only [plS, cnt]
    by_cases h : hits roll sheet x
    · simp [h]
    · rw [if_neg h, if_neg h, ih, Nat.zero_add]
theorem plS_bd (roll sheet : Int) (l : List S43) (hv : ∀ x ∈ l, Ok x) : ∀ c v, plS roll sheet l c = some v → c ≤ v ∧ v < c + sumS l := by
  induction l with
  | nil => intro c v h; simp [plS] at h
  | cons x l ih =>
    intro c v h
    have hb := sumS_bd fun y hy => hv y (List.mem_cons_of_mem _ hy)
    have hx := sz_bd (hv x List.mem_cons_self)
    simp only [plS] at h
    split at h
    · rename_i hh
      obtain ⟨_, h1, h2⟩ := hh
      have := Option.some.inj h
      simp only [sumS]
      unfold sz at *
      omega
    · have := ih (fun y hy => hv y (List.mem_cons_of_mem _ hy)) _ _ h
      simp only [sumS]
      omega

def plR : Option Int → Int × Bool
  | some v => (v, true)
  | none => (0, false)
theorem place_l0 (roll sheet : Int) (l : List S43) (hl : l.length ≤ 512) (hv : ∀ x ∈ l, Ok x) : ∀ (post pre : List S43), l = pre ++ post →
    Ev (fun k => pack_place.l0 k roll sheet (sumS pre) l (l.length : Int) (pre.length : Int)) (plR (plS roll sheet post (sumS pre))) := by
  intro post
  induction post with
  | nil =>
    intro pre h
    refine Ev.step (fun k => pack_place.l0.eq_2 ..) ?_
    exact Ev.neg (nlt_end h) (Ev.c rfl)
  | cons x post ih =>
    intro pre h
    have e : rd_T43 l (pre.length : Int) = x := by rw [h]; exact rd43_at pre post x
    have hx : Ok x := hv x (by rw [h]; simp)
    have hpre : ∀ y ∈ pre, Ok y := fun y hy => hv y (by rw [h]; simp [hy])
    have hb := sumS_bd hpre
    have hb2 := sz_bd hx
    have hlen : pre.length + 1 ≤ 512 := by have := congrArg List.length h; simp at this; omega
    have e2 : wrap64 (sumS pre + wrap64 (x.f1.f1 - x.f1.f0)) = sumS (pre ++ [x]) := by
      rw [sumS_app]
      simp only [sumS]
      unfold sz at *
      have : wrap64 (x.f1.f1 - x.f1.f0) = x.f1.f1 - x.f1.f0 := by unfold wrap64; omega
      rw [this]
      unfold wrap64
      omega
    have hnext := ih (pre ++ [x]) (app_one h)
    have e3 : sumS (pre ++ [x]) = sumS pre + sz x := by rw [sumS_app]; simp [sumS]
    rw [e3] at hnext e2
    refine Ev.step (fun k => pack_place.l0.eq_2 ..) ?_
    refine Ev.pos (lt_at h) (Ev.pos (by omega) (Ev.pos (lt_at h) ?_))
    rw [e, wrap_next h (by omega), e2]
    by_cases h1 : x.f0 = roll
    · refine Ev.pos h1 ?_
      by_cases h2 : x.f1.f0 ≤ sheet
      · refine Ev.pos h2 ?_
        by_cases h3 : sheet < x.f1.f1
        · refine Ev.pos h3 (Ev.c ?_)
          have := hx.f0; have := hx.t
          simp only [plS]
          rw [if_pos ⟨h1, h2, h3⟩]
          show _ = (_, true)
          congr 1
          have w1 : wrap64 (sumS pre + sheet) = sumS pre + sheet := by unfold wrap64; omega
          rw [w1]
          unfold wrap64
          omega
        · refine Ev.neg h3 ?_
          simp only [plS]
          rw [if_neg (fun hh => h3 hh.2.2)]
          exact hnext
      · refine Ev.neg h2 ?_
        simp only [plS]
        rw [if_neg (fun hh => h2 hh.2.1)]
        exact hnext
    · refine Ev.neg h1 ?_
      simp only [plS]
      rw [if_neg (fun hh => h1 hh.1)]
      exact hnext
theorem place_eq (roll sheet : Int) {l : List S43} (h : chk l = 0) : Ev (fun k => pack_place.f k l roll sheet) (plR (plS roll sheet l 0)) := by
  obtain ⟨h1, h2⟩ := chk_zero h
  exact place_l0 roll sheet l h1 h2 l [] rfl

/-- The error of the first ream that has one; 0 if there is none. -/
def errS : List S38 → Int
  | [] => 0
  | r :: l => if chk r.f0 = 0 then errS l else chk r.f0
def fndS (roll sheet : Int) : List S38 → Int → Int × Int × Int
  | [], _ => (0, 0, 7)
  | r :: l, i => match plS roll sheet r.f0 0 with | some v => (i, v, 0) | none => fndS roll sheet l (i + 1)
def wrS (e : Int) (r : Int × Int × Int) : Int × Int × Int := if e = 0 then r else (0, 0, e)
def whS (l : List S38) (roll sheet : Int) : Int × Int × Int := wrS (errS l) (fndS roll sheet l 0)
theorem errS_all {l : List S38} (h : errS l = 0) : ∀ r ∈ l, chk r.f0 = 0 := by
  induction l with
  | nil => intro r hr; cases hr
  | cons r l ih =>
    simp only [errS] at h
    split at h
    · rename_i h1
      intro x hx
      rcases List.mem_cons.1 hx with rfl | hx
      · exact h1
      · exact ih h x hx
    · rename_i h1
      exact absurd h h1
theorem errS_of {l : List S38} (h : ∀ r ∈ l, chk r.f0 = 0) : errS l = 0 := by
  induction l with
  | nil => rfl
  | cons r l ih =>
    simp only [errS]
    rw [if_pos (h r List.mem_cons_self)]
    exact ih fun x hx => h x (List.mem_cons_of_mem _ hx)
theorem where_l1 (l : List S38) (roll sheet : Int) (hl : l.length ≤ 512) (hv : ∀ r ∈ l, chk r.f0 = 0) : ∀ (post pre : List S38), l = pre ++ post → Ev (fun k => pack_Where.l1 k roll sheet l (l.length : Int) (pre.length : Int)) (fndS roll sheet post (pre.length : Int)) := by
  intro post
  induction post with
  | nil =>
    intro pre h
    refine Ev.step (fun k => pack_Where.l1.eq_2 ..) ?_
    exact Ev.neg (nlt_end h) (Ev.c rfl)
  | cons x post ih =>
    intro pre h
    have e : rd_T38 l (pre.length : Int) = x := by rw [h]; exact rd38_at pre post x
    refine Ev.step (fun k => pack_Where.l1.eq_2 ..) ?_
    refine Ev.pos (lt_at h) (Ev.pos (by omega) (Ev.pos (lt_at h) ?_))
    rw [e]
    refine Ev.bind (place_eq roll sheet (hv x (by rw [h]; simp))) ?_
    simp only [fndS]
    cases hp : plS roll sheet x.f0 0 with
    | some v => exact Ev.pos rfl (Ev.c rfl)
    | none =>
      refine Ev.neg (by simp [plR]) ?_
      rw [wrap_next h (by omega)]
      have := ih (pre ++ [x]) (app_one h)
      rw [show ((pre ++ [x]).length : Int) = (pre.length : Int) + 1 by simp] at this ⊢
      exact this
theorem where_l0 (l : List S38) (roll sheet : Int) (hl : l.length ≤ 512) : ∀ (post pre : List S38), l = pre ++ post → (∀ r ∈ pre, chk r.f0 = 0) → Ev (fun k => pack_Where.l0 k l roll sheet l (l.length : Int) (pre.length : Int)) (wrS (errS post) (fndS roll sheet l 0)) := by
  intro post
  induction post with
  | nil =>
    intro pre h hp
    refine Ev.step (fun k => pack_Where.l0.eq_2 ..) ?_
    refine Ev.neg (nlt_end h) ?_
    show Ev _ (fndS roll sheet l 0)
    exact where_l1 l roll sheet hl (by rw [h]; simpa using hp) l [] rfl
  | cons x post ih =>
    intro pre h hp
    have e : rd_T38 l (pre.length : Int) = x := by rw [h]; exact rd38_at pre post x
    refine Ev.step (fun k => pack_Where.l0.eq_2 ..) ?_
    refine Ev.pos (lt_at h) (Ev.pos (by omega) (Ev.pos (lt_at h) ?_))
    rw [e]
    refine Ev.sb (fun n => check_eq x.f0) ?_
    by_cases hc : chk x.f0 = 0
    · refine Ev.pos hc ?_
      rw [show errS (x :: post) = errS post by simp [errS, hc], wrap_next h (by omega)]
      exact ih (pre ++ [x]) (app_one h) (fun r hr => by
        rcases List.mem_append.1 hr with hr | hr
        · exact hp r hr
        · obtain rfl := List.mem_singleton.1 hr; exact hc)
    · refine Ev.neg hc ?_
      rw [show errS (x :: post) = chk x.f0 by simp [errS, hc]]
      exact Ev.c (by unfold wrS; rw [if_neg hc])
theorem pack_where (l : List S38) (roll sheet : Int) (hl : l.length ≤ 512) : Ev (fun k => pack_Where.f k l roll sheet) (whS l roll sheet) := by
  unfold pack_Where.f whS
  exact Ev.neg (by omega) (where_l0 l roll sheet hl l [] rfl (fun r hr => by cases hr))

theorem short_cases (l : List S38) : Ev (fun k => papermilllaw53_short.f k l) false ∨ (Ev (fun k => papermilllaw53_short.f k l) true ∧ l.length ≤ 60 ∧ ∀ r ∈ l, r.f0.length ≤ 60) := by
  unfold papermilllaw53_short.f
  by_cases h : (l.length : Int) > 60
  · exact Or.inl (Ev.pos h (Ev.c rfl))
  · have key : ∀ (post pre : List S38), l = pre ++ post → Ev (fun k => papermilllaw53_short.l0 k l (pre.length : Int)) false ∨ (Ev (fun k => papermilllaw53_short.l0 k l (pre.length : Int)) true ∧ ∀ r ∈ post, r.f0.length ≤ 60) := by
      intro post
      induction post with
      | nil =>
        intro pre hp
        refine Or.inr ⟨Ev.step (fun k => papermilllaw53_short.l0.eq_2 ..) ?_, fun r hr => by cases hr⟩
        exact Ev.neg (nlt_end hp) (Ev.c rfl)
      | cons x post ih =>
        intro pre hp
        have e : rd_T38 l (pre.length : Int) = x := by rw [hp]; exact rd38_at pre post x
        by_cases hx : (x.f0.length : Int) > 60
        · refine Or.inl (Ev.step (fun k => papermilllaw53_short.l0.eq_2 ..) ?_)
          exact Ev.pos (lt_at hp) (Ev.pos (by omega) (Ev.pos (by rw [e]; exact hx) (Ev.c rfl)))
        · have hn := wrap_next hp (by omega)
          rcases ih (pre ++ [x]) (app_one hp) with h1 | ⟨h1, h2⟩
          · refine Or.inl (Ev.step (fun k => papermilllaw53_short.l0.eq_2 ..) ?_)
            refine Ev.pos (lt_at hp) (Ev.pos (by omega) (Ev.neg (by rw [e]; exact hx) ?_))
            rw [hn]; exact h1
          · refine Or.inr ⟨Ev.step (fun k => papermilllaw53_short.l0.eq_2 ..) ?_, fun r hr => ?_⟩
            · refine Ev.pos (lt_at hp) (Ev.pos (by omega) (Ev.neg (by rw [e]; exact hx) ?_))
              rw [hn]; exact h1
            · rcases List.mem_cons.1 hr with rfl | hr
              · omega
              · exact h2 r hr
    rcases key l [] rfl with h1 | ⟨h1, h2⟩
    · exact Or.inl (Ev.neg h h1)
    · exact Or.inr ⟨Ev.neg h h1, by omega, h2⟩

theorem times_l0 (roll sheet : Int) (l : List S43) (hl : l.length ≤ 1000000) : ∀ (post pre : List S43), l = pre ++ post →
    Ev (fun k => papermilllaw53_times.l0 k l roll sheet (cnt roll sheet pre : Int) (pre.length : Int)) (cnt roll sheet l : Int) := by
  intro post
  induction post with
  | nil =>
    intro pre h
    refine Ev.step (fun k => papermilllaw53_times.l0.eq_2 ..) ?_
    exact Ev.neg (nlt_end h) (Ev.c (by rw [h]; simp))
  | cons x post ih =>
    intro pre h
    have e : rd_T43 l (pre.length : Int) = x := by rw [h]; exact rd43_at pre post x
    have hb := cnt_le roll sheet pre
    have hlen : pre.length + 1 ≤ 1000000 := by have := congrArg List.length h; simp at this; omega
    have hnext := ih (pre ++ [x]) (app_one h)
    have e3 : cnt roll sheet (pre ++ [x]) = cnt roll sheet pre + (if hits roll sheet x then 1 else 0) := by rw [cnt_app]; simp [cnt]
    rw [e3] at hnext
    refine Ev.step (fun k => papermilllaw53_times.l0.eq_2 ..) ?_
    refine Ev.pos (lt_at h) (Ev.pos (by omega) ?_)
    rw [e, wrap_next h (by omega)]
    by_cases h1 : x.f0 = roll
    · refine Ev.pos h1 ?_
      by_cases h2 : x.f1.f0 ≤ sheet
      · refine Ev.pos h2 ?_
        by_cases h3 : sheet < x.f1.f1
        · refine Ev.pos h3 ?_
          rw [if_pos ⟨h1, h2, h3⟩] at hnext
          have w : wrap64 ((cnt roll sheet pre : Int) + 1) = ((cnt roll sheet pre + 1 : Nat) : Int) := by unfold wrap64; omega
          rw [w]
          exact hnext
        · refine Ev.neg h3 ?_
          rw [if_neg (fun hh => h3 hh.2.2)] at hnext
          exact hnext
      · refine Ev.neg h2 ?_
        rw [if_neg (fun hh => h2 hh.2.1)] at hnext
        exact hnext
    · refine Ev.neg h1 ?_
      rw [if_neg (fun hh => h1 hh.1)] at hnext
      exact hnext
theorem times_eq (roll sheet : Int) (l : List S43) (hl : l.length ≤ 1000000) : Ev (fun k => papermilllaw53_times.f k l roll sheet) (cnt roll sheet l : Int) := times_l0 roll sheet l hl l [] rfl
end Go.Proofs.Ytakoklgmhglpbaa.Pl
