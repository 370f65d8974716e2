/- Plain laws on graphs: the checks, comparisons and the least free node, for every list no longer than a slice can be. -/
import Derived.Test.YtaldnhlojllanaaQ5
import Derived.Test.YtaldnhlojllanaaGd
namespace Go.Proofs.Ytaldnhlojllanaa.Pl
open Go.RowKit Go.Proofs.Ytaldnhlojllanaa.Opn Go.Proofs.Ytaldnhlojllanaa.Q Go.Proofs.Ytaldnhlojllanaa.Gd Go.Proofs.YtaldnhlojllanaaW.PrintWords

section
variable {α β : Type}
theorem Ev.pos {c : Prop} [Decidable c] {a b : Nat → Option α} {r : α} (h : c) (k : Ev a r) : Ev (fun n => if c then a n else b n) r := Ev.congr (fun n => by rw [if_pos h]) k
theorem Ev.neg {c : Prop} [Decidable c] {a b : Nat → Option α} {r : α} (h : ¬ c) (k : Ev b r) : Ev (fun n => if c then a n else b n) r := Ev.congr (fun n => by rw [if_neg h]) k
theorem Ev.sb {a : β} {o : Nat → Option β} {f : Nat → β → Option α} {r : α} (h : ∀ n, o n = some a) (k : Ev (fun n => f n a) r) : Ev (fun n => (o n).bind (f n)) r := Ev.congr (fun n => by rw [h n, Option.bind_some]) k
theorem Ev.c {r : α} {a : α} (h : a = r) : Ev (fun _ => some a) r := h ▸ Ev.now a
end

theorem rd42_at (pre post : List S42) (x : S42) : rd_T42 (pre ++ x :: post) (pre.length : Int) = x := by simp [rd_T42]
theorem wrap_next {α : Type} {l pre post : List α} {x : α} (h : l = pre ++ x :: post) (hl : l.length ≤ 9223372036854775807) : wrap64 ((pre.length : Int) + 1) = ((pre ++ [x]).length : Int) := by
  subst h
  simp only [List.length_append, List.length_cons, List.length_nil] at hl ⊢
  unfold wrap64
  omega
theorem wrap_nat {n j : Nat} (h : j < n) (hn : n ≤ 9223372036854775807) : wrap64 ((j : Int) + 1) = ((j + 1 : Nat) : Int) := by
  unfold wrap64
  omega
theorem lt_at {α : Type} {l pre post : List α} {x : α} (h : l = pre ++ x :: post) : (pre.length : Int) < (l.length : Int) := by
  subst h
  simp only [List.length_append, List.length_cons]
  omega
theorem app_one {α : Type} {l pre post : List α} {x : α} (h : l = pre ++ x :: post) : l = (pre ++ [x]) ++ post := by simp [h]
theorem nlt_end {α : Type} {l pre : List α} (h : l = pre ++ []) : ¬ (pre.length : Int) < (l.length : Int) := by
  subst h
  simp
theorem mem_at {α : Type} {l pre post : List α} {x : α} (h : l = pre ++ x :: post) : x ∈ l := by simp [h]

/-- Is an arc outside the nodes. -/
def bad (N : Int) (x : S42) : Bool := decide (x.f0 < 0) || (decide (x.f0 ≥ N) || (decide (x.f1 < 0) || decide (x.f1 ≥ N)))
/-- The error of a graph. -/
def chk (N : Int) (l : List S42) : Int := if N < 0 ∨ N > 64 then 1 else if (l.length : Int) > 512 then 8 else if l.any (bad N) = true then 7 else 0
theorem check_l0 (N : Int) (l l' : List S42) (hl : l.length ≤ 9223372036854775807) : ∀ (post pre : List S42), l = pre ++ post → Ev (fun k => graph_Check.l0 k l (l.length : Int) (pre.length : Int) N l') (if post.any (bad N) = true then 7 else 0) := by
  intro post
  induction post with
  | nil =>
    intro pre h
    refine Ev.step (fun k => graph_Check.l0.eq_2 ..) ?_
    exact Ev.neg (nlt_end h) (Ev.c rfl)
  | cons x post ih =>
    intro pre h
    refine Ev.step (fun k => graph_Check.l0.eq_2 ..) ?_
    have e : rd_T42 l (pre.length : Int) = x := by rw [h]; exact rd42_at pre post x
    refine Ev.pos (lt_at h) (Ev.pos (by omega) (Ev.pos (lt_at h) ?_))
    rw [e, wrap_next h hl]
    have ih := ih (pre ++ [x]) (app_one h)
    by_cases c1 : x.f0 < 0
    · exact Ev.pos c1 (Ev.c (by simp [bad, c1]))
    by_cases c2 : x.f0 ≥ N
    · exact Ev.neg c1 (Ev.pos c2 (Ev.c (by simp [bad, c2])))
    by_cases c3 : x.f1 < 0
    · exact Ev.neg c1 (Ev.neg c2 (Ev.pos c3 (Ev.c (by simp [bad, c3]))))
    by_cases c4 : x.f1 ≥ N
    · exact Ev.neg c1 (Ev.neg c2 (Ev.neg c3 (Ev.pos c4 (Ev.c (by simp [bad, c4])))))
    have hb : bad N x = false := by simp [bad]; omega
    rw [List.any_cons, hb, Bool.false_or]
    exact Ev.neg c1 (Ev.neg c2 (Ev.neg c3 (Ev.neg c4 ih)))
theorem check_eq (N : Int) (l : List S42) (hl : l.length ≤ 9223372036854775807) : Ev (fun k => graph_Check.f k N l) (chk N l) := by
  unfold chk graph_Check.f
  by_cases c0 : N < 0
  · refine Ev.pos c0 (Ev.step (fun k => graph_Check.j0.eq_2 ..) (Ev.pos rfl (Ev.c ?_)))
    rw [if_pos (Or.inl c0)]
  refine Ev.neg c0 (Ev.step (fun k => graph_Check.j0.eq_2 ..) ?_)
  by_cases c1 : N > 64
  · refine Ev.pos (by simpa using c1) (Ev.c ?_)
    rw [if_pos (Or.inr c1)]
  refine Ev.neg (by simpa using c1) ?_
  rw [if_neg (by omega)]
  by_cases c2 : (l.length : Int) > 512
  · exact Ev.pos c2 (Ev.c (by rw [if_pos c2]))
  refine Ev.neg c2 ?_
  rw [if_neg c2]
  exact check_l0 N l l hl l [] rfl
theorem chk_fit {N : Int} {l : List S42} (h : chk N l = 0) : Fit N l := by
  unfold chk at h
  split at h
  · omega
  · rename_i h1
    split at h
    · omega
    · rename_i h2
      split at h
      · omega
      · rename_i h3
        rw [Bool.not_eq_true, List.any_eq_false] at h3
        refine ⟨by omega, by omega, by omega, fun x hx => ?_⟩
        have := h3 x hx
        simp [bad] at this
        omega
theorem fit_chk {N : Int} {l : List S42} (h : Fit N l) : chk N l = 0 := by
  obtain ⟨h1, h2, h3, h4⟩ := h
  unfold chk
  rw [if_neg (by omega), if_neg (by omega), if_neg]
  rw [Bool.not_eq_true, List.any_eq_false]
  intro x hx
  have := h4 x hx
  simp [bad]
  omega

/-! ### Lists equal to themselves -/
theorem ints_l0 (l : List Int) (hl : l.length ≤ 9223372036854775807) : ∀ (post pre : List Int), l = pre ++ post → Ev (fun k => papermillref10_Ints.l0 k l l (pre.length : Int)) true := by
  intro post
  induction post with
  | nil =>
    intro pre h
    refine Ev.step (fun k => papermillref10_Ints.l0.eq_2 ..) ?_
    exact Ev.neg (nlt_end h) (Ev.c rfl)
  | cons x post ih =>
    intro pre h
    refine Ev.step (fun k => papermillref10_Ints.l0.eq_2 ..) ?_
    refine Ev.pos (lt_at h) (Ev.pos (by omega) (Ev.pos (lt_at h) (Ev.pos rfl ?_)))
    rw [wrap_next h hl]
    exact ih (pre ++ [x]) (app_one h)
theorem ints_eq (l : List Int) (hl : l.length ≤ 9223372036854775807) : Ev (fun k => papermillref10_Ints.f k l l) true := by
  unfold papermillref10_Ints.f
  exact Ev.pos rfl (ints_l0 l hl l [] rfl)
theorem bools_l0 (l : List Bool) (hl : l.length ≤ 9223372036854775807) : ∀ (post pre : List Bool), l = pre ++ post → Ev (fun k => papermillref10_Bools.l0 k l l (pre.length : Int)) true := by
  intro post
  induction post with
  | nil =>
    intro pre h
    refine Ev.step (fun k => papermillref10_Bools.l0.eq_2 ..) ?_
    exact Ev.neg (nlt_end h) (Ev.c rfl)
  | cons x post ih =>
    intro pre h
    refine Ev.step (fun k => papermillref10_Bools.l0.eq_2 ..) ?_
    refine Ev.pos (lt_at h) (Ev.pos (by omega) (Ev.pos (lt_at h) (Ev.neg (by simp) ?_)))
    rw [wrap_next h hl]
    exact ih (pre ++ [x]) (app_one h)
theorem bools_eq (l : List Bool) (hl : l.length ≤ 9223372036854775807) : Ev (fun k => papermillref10_Bools.f k l l) true := by
  unfold papermillref10_Bools.f
  exact Ev.pos rfl (bools_l0 l hl l [] rfl)
theorem same_l0 (N : Int) (l : List S42) (hl : l.length ≤ 9223372036854775807) : ∀ (post pre : List S42), l = pre ++ post → Ev (fun k => papermillref10_Same.l0 k (pre.length : Int) N l N l) true := by
  intro post
  induction post with
  | nil =>
    intro pre h
    refine Ev.step (fun k => papermillref10_Same.l0.eq_2 ..) ?_
    exact Ev.neg (nlt_end h) (Ev.c rfl)
  | cons x post ih =>
    intro pre h
    refine Ev.step (fun k => papermillref10_Same.l0.eq_2 ..) ?_
    refine Ev.pos (lt_at h) (Ev.pos (by omega) (Ev.pos (lt_at h) (Ev.neg (by simp) ?_)))
    rw [wrap_next h hl]
    exact ih (pre ++ [x]) (app_one h)
theorem same_eq (N : Int) (l : List S42) (hl : l.length ≤ 9223372036854775807) : Ev (fun k => papermillref10_Same.f k N l N l) true := by
  unfold papermillref10_Same.f
  exact Ev.pos rfl (Ev.step (fun k => papermillref10_Same.j0.eq_2 ..) (Ev.neg (by simp) (same_l0 N l hl l [] rfl)))

/-! ### The closed examples -/
set_option maxRecDepth 100000 in
theorem awake_at : papermilllaw10_awake.f 40 = some true := by kernel_rfl
theorem awake_eq : Ev (fun k => papermilllaw10_awake.f k) true := Ev.of (fun k => papermilllaw10_awake.mono k) awake_at

/-! ### The least free node -/
structure Least (l : List S42) (d : List Bool) (n : Nat) (r : Int) : Prop where
  h : (r = -1 ∧ ∀ i, i < n → oFree l d i = false) ∨ ∃ i : Nat, r = (i : Int) ∧ i < n ∧ oFree l d i = true ∧ ∀ j, j < i → oFree l d j = false
theorem oNext_spec (l : List S42) (d : List Bool) : ∀ (j : Nat) (nx : Int), (oNext l d j nx = nx ∧ ∀ i, i < j → oFree l d i = false) ∨ ∃ i : Nat, oNext l d j nx = (i : Int) ∧ i < j ∧ oFree l d i = true ∧ ∀ i', i' < i → oFree l d i' = false
  | 0, nx => Or.inl ⟨rfl, fun _ h => absurd h (Nat.not_lt_zero _)⟩
  | j + 1, nx => by
    unfold oNext
    cases hf : oFree l d j with
    | true =>
      rw [if_pos rfl]
      right
      rcases oNext_spec l d j (j : Int) with ⟨h1, h2⟩ | ⟨i, h1, h2, h3, h4⟩
      · exact ⟨j, h1, Nat.lt_succ_self _, hf, h2⟩
      · exact ⟨i, h1, by omega, h3, h4⟩
    | false =>
      rw [if_neg (by decide)]
      rcases oNext_spec l d j nx with ⟨h1, h2⟩ | ⟨i, h1, h2, h3, h4⟩
      · refine Or.inl ⟨h1, fun i hi => ?_⟩
        by_cases e : i = j
        · rw [e]; exact hf
        · exact h2 i (by omega)
      · exact Or.inr ⟨i, h1, by omega, h3, h4⟩
theorem oNext_least (l : List S42) (d : List Bool) (n : Nat) : Least l d n (oNext l d n (-1)) := ⟨oNext_spec l d n (-1)⟩
end Go.Proofs.Ytaldnhlojllanaa.Pl
