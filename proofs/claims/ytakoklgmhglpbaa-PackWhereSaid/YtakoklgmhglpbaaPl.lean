/- Plain laws on batches: what the checks of pack and of its reference come to, for every list no longer than a slice can be. -/
import Derived.Test.YtakoklgmhglpbaaQ3
import Derived.Test.YtakoklgmhglpbaaQ11
import Derived.Test.YtakoklgmhglpbaaGd
namespace Go.Proofs.Ytakoklgmhglpbaa.Pl
open Go.RowKit Go.Proofs.Ytakoklgmhglpbaa.Opn Go.Proofs.Ytakoklgmhglpbaa.Q Go.Proofs.Ytakoklgmhglpbaa.Gd Go.Proofs.YtakoklgmhglpbaaW.PrintWords

section
variable {α β : Type}
theorem Ev.pos {c : Prop} [Decidable c] {a b : Nat → Option α} {r : α} (h : c) (k : Ev a r) : Ev (fun n => if c then a n else b n) r := Ev.congr (fun n => by rw [if_pos h]) k
theorem Ev.neg {c : Prop} [Decidable c] {a b : Nat → Option α} {r : α} (h : ¬ c) (k : Ev b r) : Ev (fun n => if c then a n else b n) r := Ev.congr (fun n => by rw [if_neg h]) k
theorem Ev.sb {a : β} {o : Nat → Option β} {f : Nat → β → Option α} {r : α} (h : ∀ n, o n = some a) (k : Ev (fun n => f n a) r) : Ev (fun n => (o n).bind (f n)) r := Ev.congr (fun n => by rw [h n, Option.bind_some]) k
theorem Ev.c {r : α} {a : α} (h : a = r) : Ev (fun _ => some a) r := h ▸ Ev.now a
end

theorem rd43_at (pre post : List S43) (x : S43) : rd_T43 (pre ++ x :: post) (pre.length : Int) = x := by simp [rd_T43]
theorem rd38_at (pre post : List S38) (x : S38) : rd_T38 (pre ++ x :: post) (pre.length : Int) = x := by simp [rd_T38]
theorem rd_at (pre post : List Int) (x : Int) : rd (pre ++ x :: post) (pre.length : Int) = x := by simp [rd]
theorem wrap_next {α : Type} {l pre post : List α} {x : α} (h : l = pre ++ x :: post) (hl : l.length ≤ 9223372036854775807) : wrap64 ((pre.length : Int) + 1) = ((pre ++ [x]).length : Int) := by
  subst h
  simp only [List.length_append, List.length_cons, List.length_nil] at hl ⊢
  unfold wrap64
  omega
theorem lt_at {α : Type} {l pre post : List α} {x : α} (h : l = pre ++ x :: post) : (pre.length : Int) < (l.length : Int) := by
  subst h
  simp only [List.length_append, List.length_cons]
  omega
theorem app_one {α : Type} {l pre post : List α} {x : α} (h : l = pre ++ x :: post) : l = (pre ++ [x]) ++ post := by simp [h]
theorem nlt_end {α : Type} {l pre : List α} (h : l = pre ++ []) : ¬ (pre.length : Int) < (l.length : Int) := by
  subst h
  simp

theorem valid_ref (x : S43) : papermillref53_valid.f x.f0 x.f1.f0 x.f1.f1 = some (validB x) := valid_eq x

/-- The error of a list of batches. -/
def chk (l : List S43) : Int := if (l.length : Int) > 512 then 8 else if (l.any fun x => !validB x) = true then 1 else 0
theorem check_eq (l : List S43) : pack_check.f l = some (chk l) := by
  unfold pack_check.f chk
  split
  · rfl
  · split <;> rfl
theorem all_l0 (l : List S43) (hl : l.length ≤ 9223372036854775807) : ∀ (post pre : List S43), l = pre ++ post → Ev (fun k => papermillref53_all.l0 k l (pre.length : Int)) (if (post.any fun x => !validB x) = true then 1 else 0) := by
  intro post
  induction post with
  | nil =>
    intro pre h
    refine Ev.step (fun k => papermillref53_all.l0.eq_2 ..) ?_
    exact Ev.neg (nlt_end h) (Ev.c rfl)
  | cons x post ih =>
    intro pre h
    refine Ev.step (fun k => papermillref53_all.l0.eq_2 ..) ?_
    have e : rd_T43 l (pre.length : Int) = x := by rw [h]; exact rd43_at pre post x
    refine Ev.pos (lt_at h) (Ev.pos (by omega) (Ev.sb (a := validB x) (fun n => by rw [e]; exact valid_ref x) ?_))
    cases hv : validB x with
    | true =>
      refine Ev.pos rfl ?_
      rw [wrap_next h hl]
      have := ih (pre ++ [x]) (app_one h)
      simpa [hv] using this
    | false => exact Ev.neg (by decide) (Ev.c (by simp [hv]))
theorem all_eq (l : List S43) (hl : l.length ≤ 9223372036854775807) : Ev (fun k => papermillref53_all.f k l) (chk l) := by
  unfold chk
  by_cases h : (l.length : Int) > 512
  · exact Ev.congr (fun k => by unfold papermillref53_all.f; rw [if_pos h]) (Ev.c (by rw [if_pos h]))
  · refine Ev.congr (f := fun k => papermillref53_all.l0 k l ((([] : List S43)).length : Int)) (fun k => by unfold papermillref53_all.f; rw [if_neg h]; rfl) ?_
    rw [if_neg h]
    exact all_l0 l hl l [] rfl

structure Ok (x : S43) : Prop where
  r1 : 1 ≤ x.f0
  r2 : x.f0 ≤ 1000000
  f0 : 0 ≤ x.f1.f0
  ft : x.f1.f0 ≤ x.f1.f1
  t : x.f1.f1 ≤ 17179869184
theorem ok_of {x : S43} (h : validB x = true) : Ok x := by
  simp only [validB, Bool.and_eq_true, decide_eq_true_eq] at h
  exact ⟨h.1, h.2.1, h.2.2.1, h.2.2.2.1, h.2.2.2.2⟩
theorem of_ok {x : S43} (h : Ok x) : validB x = true := by
  simp only [validB, Bool.and_eq_true, decide_eq_true_eq]
  exact ⟨h.r1, h.r2, h.f0, h.ft, h.t⟩
theorem chk_zero {l : List S43} (h : chk l = 0) : l.length ≤ 512 ∧ ∀ x ∈ l, Ok x := by
  unfold chk at h
  split at h
  · omega
  · rename_i h1
    refine ⟨by omega, fun x hx => ?_⟩
    split at h
    · omega
    · rename_i h2
      rw [Bool.not_eq_true, List.any_eq_false] at h2
      have := h2 x hx
      exact ok_of (by simpa using this)
theorem chk_of {l : List S43} (h1 : l.length ≤ 512) (h2 : ∀ x ∈ l, Ok x) : chk l = 0 := by
  unfold chk
  rw [if_neg (by omega), if_neg]
  rw [Bool.not_eq_true, List.any_eq_false]
  intro x hx
  simp [of_ok (h2 x hx)]

/-- The sheets of a batch, of a list. -/
def sz (x : S43) : Int := x.f1.f1 - x.f1.f0
def sumS : List S43 → Int
  | [] => 0
  | x :: l => sz x + sumS l
theorem sumS_app (a b : List S43) : sumS (a ++ b) = sumS a + sumS b := by
  induction a with
  | nil => simp [sumS]
  | cons x a ih => simp only [List.cons_append, sumS, ih]; omega
theorem sz_bd {x : S43} (h : Ok x) : 0 ≤ sz x ∧ sz x ≤ 17179869184 := by
  have := h.f0; have := h.ft; have := h.t
  unfold sz
  omega
theorem sumS_bd {l : List S43} (h : ∀ x ∈ l, Ok x) : 0 ≤ sumS l ∧ sumS l ≤ l.length * 17179869184 := by
  induction l with
  | nil => simp [sumS]
  | cons x l ih =>
    have h1 := sz_bd (h x List.mem_cons_self)
    have h2 := ih fun y hy => h y (List.mem_cons_of_mem _ hy)
    simp only [sumS, List.length_cons]
    omega
theorem size_eq {x : S43} (h : Ok x) : papermillref53_size.f x.f0 x.f1.f0 x.f1.f1 = some (sz x) := by
  have := h.f0; have := h.ft; have := h.t
  unfold papermillref53_size.f sz
  congr 1
  unfold wrap64
  omega
theorem count_l0 (l : List S43) (hl : l.length ≤ 512) (hv : ∀ x ∈ l, Ok x) : ∀ (post pre : List S43), l = pre ++ post → Ev (fun k => pack_count.l0 k (sumS pre) l (l.length : Int) (pre.length : Int)) (sumS l) := by
  intro post
  induction post with
  | nil =>
    intro pre h
    refine Ev.step (fun k => pack_count.l0.eq_2 ..) ?_
    exact Ev.neg (nlt_end h) (Ev.c (by rw [h]; simp))
  | cons x post ih =>
    intro pre h
    refine Ev.step (fun k => pack_count.l0.eq_2 ..) ?_
    have e : rd_T43 l (pre.length : Int) = x := by rw [h]; exact rd43_at pre post x
    have hx : Ok x := hv x (by rw [h]; simp)
    have hpre : ∀ y ∈ pre, Ok y := fun y hy => hv y (by rw [h]; simp [hy])
    have hb := sumS_bd hpre
    have hb2 := sz_bd hx
    have hlen : pre.length + 1 ≤ 512 := by have := congrArg List.length h; simp at this; omega
    refine Ev.pos (lt_at h) (Ev.pos (by omega) (Ev.pos (lt_at h) ?_))
    rw [e, wrap_next h (by omega)]
    have e2 : wrap64 (sumS pre + wrap64 (x.f1.f1 - x.f1.f0)) = sumS (pre ++ [x]) := by
      rw [sumS_app]
      simp only [sumS]
      unfold sz at *
      have : wrap64 (x.f1.f1 - x.f1.f0) = x.f1.f1 - x.f1.f0 := by unfold wrap64; omega
      rw [this]
      unfold wrap64
      omega
    rw [e2]
    exact ih (pre ++ [x]) (app_one h)
theorem count_eq {l : List S43} (h : chk l = 0) : Ev (fun k => pack_count.f k l) (sumS l) := by
  obtain ⟨h1, h2⟩ := chk_zero h
  exact count_l0 l h1 h2 l [] rfl
end Go.Proofs.Ytakoklgmhglpbaa.Pl
