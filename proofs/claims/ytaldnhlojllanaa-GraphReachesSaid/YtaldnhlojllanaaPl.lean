/- Plain laws on graphs: the checks, comparisons and the least free node, for every list no longer than a slice can be. -/
import Derived.Test.YtaldnhlojllanaaQ8
import Derived.Test.YtaldnhlojllanaaGd
namespace Go.Proofs.Ytaldnhlojllanaa.Pl
open Go.RowKit Go.Proofs.Ytaldnhlojllanaa.Opn Go.Proofs.Ytaldnhlojllanaa.Q Go.Proofs.Ytaldnhlojllanaa.Gd Go.Proofs.YtaldnhlojllanaaW.PrintWords

section
variable {α β : Type}
theorem Ev.pos {c : Prop} [Decidable c] {a b : Nat → Option α} {r : α} (h : c) (k : Ev a r) : Ev (fun n => if c then a n else b n) r := Ev.congr (fun n => by rw [if_pos h]) k
theorem Ev.neg {c : Prop} [Decidable c] {a b : Nat → Option α} {r : α} (h : ¬ c) (k : Ev b r) : Ev (fun n => if c then a n else b n) r := Ev.congr (fun n => by rw [if_neg h]) k
theorem Ev.sb {a : β} {o : Nat → Option β} {f : Nat → β → Option α} {r : α} (h : ∀ n, o n = some a) (k : Ev (fun n => f n a) r) : Ev (fun n => (o n).bind (f n)) r := Ev.congr (fun n => by rw [h n, Option.bind_some]) k
theorem Ev.c {r : α} {a : α} (h : a = r) : Ev (fun _ => some a) r := h ▸ Ev.now a
end

theorem rd42_at (pre post : List S42) (x : S42) : rd_T42 (pre ++ x :: post) (pre.length : Int) = x := by simp [rd_T42]
theorem wrap_next {α : Type} {l pre post : List α} {x : α} (h : l = pre ++ x :: post) (hl : l.length ≤ 9223372036854775807) : wrap64 ((pre.length : Int) + 1) = ((pre ++ [x]).length : Int) := by
  subst h
  simp only [List.length_append, List.length_cons, List.length_nil] at hl ⊢
  unfold wrap64
  omega
theorem wrap_nat {n j : Nat} (h : j < n) (hn : n ≤ 9223372036854775807) : wrap64 ((j : Int) + 1) = ((j + 1 : Nat) : Int) := by
  unfold wrap64
  omega
theorem lt_at {α : Type} {l pre post : List α} {x : α} (h : l = pre ++ x :: post) : (pre.length : Int) < (l.length : Int) := by
  subst h
  simp only [List.length_append, List.length_cons]
  omega
theorem app_one {α : Type} {l pre post : List α} {x : α} (h : l = pre ++ x :: post) : l = (pre ++ [x]) ++ post := by simp [h]
theorem nlt_end {α : Type} {l pre : List α} (h : l = pre ++ []) : ¬ (pre.length : Int) < (l.length : Int) := by
  subst h
  simp
theorem mem_at {α : Type} {l pre post : List α} {x : α} (h : l = pre ++ x :: post) : x ∈ l := by simp [h]

/-- Is an arc outside the nodes. -/
def bad (N : Int) (x : S42) : Bool := decide (x.f0 < 0) || (decide (x.f0 ≥ N) || (decide (x.f1 < 0) || decide (x.f1 ≥ N)))
/-- The error of a graph. -/
def chk (N : Int) (l : List S42) : Int := if N < 0 ∨ N > 64 then 1 else if (l.length : Int) > 512 then 8 else if l.any (bad N) = true then 7 else 0
theorem check_l0 (N : Int) (l l' : List S42) (hl : l.length ≤ 9223372036854775807) : ∀ (post pre : List S42), l = pre ++ post → Ev (fun k => graph_Check.l0 k l (l.length : Int) (pre.length : Int) N l') (if post.any (bad N) = true then 7 else 0) := by
  intro post
  induction post with
  | nil =>
    intro pre h
    refine Ev.step (fun k => graph_Check.l0.eq_2 ..) ?_
    exact Ev.neg (nlt_end h) (Ev.c rfl)
  | cons x post ih =>
    intro pre h
    refine Ev.step (fun k => graph_Check.l0.eq_2 ..) ?_
    have e : rd_T42 l (pre.length : Int) = x := by rw [h]; exact rd42_at pre post x
    refine Ev.pos (lt_at h) (Ev.pos (by omega) (Ev.pos (lt_at h) ?_))
    rw [e, wrap_next h hl]
    have ih := ih (pre ++ [x]) (app_one h)
    by_cases c1 : x.f0 < 0
    · exact Ev.pos c1 (Ev.c (by simp [bad, c1]))
    by_cases c2 : x.f0 ≥ N
    · exact Ev.neg c1 (Ev.pos c2 (Ev.c (by simp [bad, c2])))
    by_cases c3 : x.f1 < 0
    · exact Ev.neg c1 (Ev.neg c2 (Ev.pos c3 (Ev.c (by simp [bad, c3]))))
    by_cases c4 : x.f1 ≥ N
    · exact Ev.neg c1 (Ev.neg c2 (Ev.neg c3 (Ev.pos c4 (Ev.c (by simp [bad, c4])))))
    have hb : bad N x = false := by simp [bad]; omega
    rw [List.any_cons, hb, Bool.false_or]
    exact Ev.neg c1 (Ev.neg c2 (Ev.neg c3 (Ev.neg c4 ih)))
theorem check_eq (N : Int) (l : List S42) (hl : l.length ≤ 9223372036854775807) : Ev (fun k => graph_Check.f k N l) (chk N l) := by
  unfold chk graph_Check.f
  by_cases c0 : N < 0
  · refine Ev.pos c0 (Ev.step (fun k => graph_Check.j0.eq_2 ..) (Ev.pos rfl (Ev.c ?_)))
    rw [if_pos (Or.inl c0)]
  refine Ev.neg c0 (Ev.step (fun k => graph_Check.j0.eq_2 ..) ?_)
  by_cases c1 : N > 64
  · refine Ev.pos (by simpa using c1) (Ev.c ?_)
    rw [if_pos (Or.inr c1)]
  refine Ev.neg (by simpa using c1) ?_
  rw [if_neg (by omega)]
  by_cases c2 : (l.length : Int) > 512
  · exact Ev.pos c2 (Ev.c (by rw [if_pos c2]))
  refine Ev.neg c2 ?_
  rw [if_neg c2]
  exact check_l0 N l l hl l [] rfl
theorem rcheck_l0 (N : Int) (l : List S42) (hl : l.length ≤ 9223372036854775807) : ∀ (post pre : List S42), l = pre ++ post → Ev (fun k => papermillref10_Check.l0 k (pre.length : Int) N l) (if post.any (bad N) = true then 7 else 0) := by
  intro post
  induction post with
  | nil =>
    intro pre h
    refine Ev.step (fun k => papermillref10_Check.l0.eq_2 ..) ?_
    exact Ev.neg (nlt_end h) (Ev.c rfl)
  | cons x post ih =>
    intro pre h
    refine Ev.step (fun k => papermillref10_Check.l0.eq_2 ..) ?_
    have e : rd_T42 l (pre.length : Int) = x := by rw [h]; exact rd42_at pre post x
    refine Ev.pos (lt_at h) (Ev.pos (by omega) ?_)
    rw [e, wrap_next h hl]
    have ih := ih (pre ++ [x]) (app_one h)
    by_cases c1 : x.f0 < 0
    · exact Ev.pos c1 (Ev.c (by simp [bad, c1]))
    by_cases c2 : x.f0 ≥ N
    · exact Ev.neg c1 (Ev.pos c2 (Ev.c (by simp [bad, c2])))
    by_cases c3 : x.f1 < 0
    · exact Ev.neg c1 (Ev.neg c2 (Ev.pos c3 (Ev.c (by simp [bad, c3]))))
    by_cases c4 : x.f1 ≥ N
    · exact Ev.neg c1 (Ev.neg c2 (Ev.neg c3 (Ev.pos c4 (Ev.c (by simp [bad, c4])))))
    have hb : bad N x = false := by simp [bad]; omega
    rw [List.any_cons, hb, Bool.false_or]
    exact Ev.neg c1 (Ev.neg c2 (Ev.neg c3 (Ev.neg c4 ih)))
theorem rcheck_eq (N : Int) (l : List S42) (hl : l.length ≤ 9223372036854775807) : Ev (fun k => papermillref10_Check.f k N l) (chk N l) := by
  unfold chk papermillref10_Check.f
  by_cases c0 : N < 0
  · refine Ev.pos c0 (Ev.step (fun k => papermillref10_Check.j0.eq_2 ..) (Ev.pos rfl (Ev.c ?_)))
    rw [if_pos (Or.inl c0)]
  refine Ev.neg c0 (Ev.step (fun k => papermillref10_Check.j0.eq_2 ..) ?_)
  by_cases c1 : N > 64
  · refine Ev.pos (by simpa using c1) (Ev.c ?_)
    rw [if_pos (Or.inr c1)]
  refine Ev.neg (by simpa using c1) ?_
  rw [if_neg (by omega)]
  by_cases c2 : (l.length : Int) > 512
  · exact Ev.pos c2 (Ev.c (by rw [if_pos c2]))
  refine Ev.neg c2 ?_
  rw [if_neg c2]
  exact rcheck_l0 N l hl l [] rfl
theorem chk_fit {N : Int} {l : List S42} (h : chk N l = 0) : Fit N l := by
  unfold chk at h
  split at h
  · omega
  · rename_i h1
    split at h
    · omega
    · rename_i h2
      split at h
      · omega
      · rename_i h3
        rw [Bool.not_eq_true, List.any_eq_false] at h3
        refine ⟨by omega, by omega, by omega, fun x hx => ?_⟩
        have := h3 x hx
        simp [bad] at this
        omega
theorem fit_chk {N : Int} {l : List S42} (h : Fit N l) : chk N l = 0 := by
  obtain ⟨h1, h2, h3, h4⟩ := h
  unfold chk
  rw [if_neg (by omega), if_neg (by omega), if_neg]
  rw [Bool.not_eq_true, List.any_eq_false]
  intro x hx
  have := h4 x hx
  simp [bad]
  omega

/-! ### Lists equal to themselves -/
theorem ints_l0 (l : List Int) (hl : l.length ≤ 9223372036854775807) : ∀ (post pre : List Int), l = pre ++ post → Ev (fun k => papermillref10_Ints.l0 k l l (pre.length : Int)) true := by
  intro post
  induction post with
  | nil =>
    intro pre h
    refine Ev.step (fun k => papermillref10_Ints.l0.eq_2 ..) ?_
    exact Ev.neg (nlt_end h) (Ev.c rfl)
  | cons x post ih =>
    intro pre h
    refine Ev.step (fun k => papermillref10_Ints.l0.eq_2 ..) ?_
    refine Ev.pos (lt_at h) (Ev.pos (by omega) (Ev.pos (lt_at h) (Ev.pos rfl ?_)))
    rw [wrap_next h hl]
    exact ih (pre ++ [x]) (app_one h)
theorem ints_eq (l : List Int) (hl : l.length ≤ 9223372036854775807) : Ev (fun k => papermillref10_Ints.f k l l) true := by
  unfold papermillref10_Ints.f
  exact Ev.pos rfl (ints_l0 l hl l [] rfl)
theorem bools_l0 (l : List Bool) (hl : l.length ≤ 9223372036854775807) : ∀ (post pre : List Bool), l = pre ++ post → Ev (fun k => papermillref10_Bools.l0 k l l (pre.length : Int)) true := by
  intro post
  induction post with
  | nil =>
    intro pre h
    refine Ev.step (fun k => papermillref10_Bools.l0.eq_2 ..) ?_
    exact Ev.neg (nlt_end h) (Ev.c rfl)
  | cons x post ih =>
    intro pre h
    refine Ev.step (fun k => papermillref10_Bools.l0.eq_2 ..) ?_
    refine Ev.pos (lt_at h) (Ev.pos (by omega) (Ev.pos (lt_at h) (Ev.neg (by simp) ?_)))
    rw [wrap_next h hl]
    exact ih (pre ++ [x]) (app_one h)
theorem bools_eq (l : List Bool) (hl : l.length ≤ 9223372036854775807) : Ev (fun k => papermillref10_Bools.f k l l) true := by
  unfold papermillref10_Bools.f
  exact Ev.pos rfl (bools_l0 l hl l [] rfl)
theorem same_l0 (N : Int) (l : List S42) (hl : l.length ≤ 9223372036854775807) : ∀ (post pre : List S42), l = pre ++ post → Ev (fun k => papermillref10_Same.l0 k (pre.length : Int) N l N l) true := by
  intro post
  induction post with
  | nil =>
    intro pre h
    refine Ev.step (fun k => papermillref10_Same.l0.eq_2 ..) ?_
    exact Ev.neg (nlt_end h) (Ev.c rfl)
  | cons x post ih =>
    intro pre h
    refine Ev.step (fun k => papermillref10_Same.l0.eq_2 ..) ?_
    refine Ev.pos (lt_at h) (Ev.pos (by omega) (Ev.pos (lt_at h) (Ev.neg (by simp) ?_)))
    rw [wrap_next h hl]
    exact ih (pre ++ [x]) (app_one h)
theorem same_eq (N : Int) (l : List S42) (hl : l.length ≤ 9223372036854775807) : Ev (fun k => papermillref10_Same.f k N l N l) true := by
  unfold papermillref10_Same.f
  exact Ev.pos rfl (Ev.step (fun k => papermillref10_Same.j0.eq_2 ..) (Ev.neg (by simp) (same_l0 N l hl l [] rfl)))

/-! ### The closed examples -/
set_option maxRecDepth 100000 in
theorem awake_at : papermilllaw10_awake.f 40 = some true := by kernel_rfl
theorem awake_eq : Ev (fun k => papermilllaw10_awake.f k) true := Ev.of (fun k => papermilllaw10_awake.mono k) awake_at

/-! ### The least free node -/
structure Least (l : List S42) (d : List Bool) (n : Nat) (r : Int) : Prop where
  h : (r = -1 ∧ ∀ i, i < n → oFree l d i = false) ∨ ∃ i : Nat, r = (i : Int) ∧ i < n ∧ oFree l d i = true ∧ ∀ j, j < i → oFree l d j = false
theorem oNext_spec (l : List S42) (d : List Bool) : ∀ (j : Nat) (nx : Int), (oNext l d j nx = nx ∧ ∀ i, i < j → oFree l d i = false) ∨ ∃ i : Nat, oNext l d j nx = (i : Int) ∧ i < j ∧ oFree l d i = true ∧ ∀ i', i' < i → oFree l d i' = false
  | 0, nx => Or.inl ⟨rfl, fun _ h => absurd h (Nat.not_lt_zero _)⟩
  | j + 1, nx => by
    unfold oNext
    cases hf : oFree l d j with
    | true =>
      rw [if_pos rfl]
      right
      rcases oNext_spec l d j (j : Int) with ⟨h1, h2⟩ | ⟨i, h1, h2, h3, h4⟩
      · exact ⟨j, h1, Nat.lt_succ_self _, hf, h2⟩
      · exact ⟨i, h1, by omega, h3, h4⟩
    | false =>
      rw [if_neg (by decide)]
      rcases oNext_spec l d j nx with ⟨h1, h2⟩ | ⟨i, h1, h2, h3, h4⟩
      · refine Or.inl ⟨h1, fun i hi => ?_⟩
        by_cases e : i = j
        · rw [e]; exact hf
        · exact h2 i (by omega)
      · exact Or.inr ⟨i, h1, by omega, h3, h4⟩
theorem oNext_least (l : List S42) (d : List Bool) (n : Nat) : Least l d n (oNext l d n (-1)) := ⟨oNext_spec l d n (-1)⟩
theorem free_l1 (l : List S42) (d : List Bool) (N : Int) (j : Nat) (r : Int) (hF : Fit N l) (hd : (d.length : Int) = N) : ∀ (post pre : List S42) (ok : Bool), l = pre ++ post → ((ok && !(post.any (arcHit d (j : Int)))) = true → r = (j : Int)) → ((ok && !(post.any (arcHit d (j : Int)))) = false → Ev (fun k => papermillref10_free.l0 k d (wrap64 ((j : Int) + 1)) N l) r) → Ev (fun k => papermillref10_free.l1 k d (j : Int) ok (pre.length : Int) N l) r := by
  intro post
  induction post with
  | nil =>
    intro pre ok h ht hf
    refine Ev.step (fun k => papermillref10_free.l1.eq_2 ..) (Ev.neg (nlt_end h) ?_)
    cases ok with
    | true => exact Ev.pos rfl (Ev.c (ht rfl).symm)
    | false => exact Ev.neg (by decide) (hf rfl)
  | cons x post ih =>
    intro pre ok h ht hf
    have e : rd_T42 l (pre.length : Int) = x := by rw [h]; exact rd42_at pre post x
    have hx := hF.2.2.2 x (mem_at h)
    have hl := hF.2.2.1
    refine Ev.step (fun k => papermillref10_free.l1.eq_2 ..) (Ev.pos (lt_at h) (Ev.pos (by omega) ?_))
    rw [e, wrap_next h (by omega)]
    by_cases c1 : x.f1 = (j : Int)
    · refine Ev.pos c1 (Ev.pos hx.1.1 (Ev.pos (by omega) ?_))
      cases hv : rdOf false d x.f0 with
      | true =>
        have ha : arcHit d (j : Int) x = false := by unfold arcHit; rw [show d.getD x.f0.toNat false = true from hv]; simp
        refine Ev.pos rfl (ih (pre ++ [x]) ok (app_one h) (fun q => ht ?_) (fun q => hf ?_))
        · rw [List.any_cons, ha, Bool.false_or]; exact q
        · rw [List.any_cons, ha, Bool.false_or]; exact q
      | false =>
        have ha : arcHit d (j : Int) x = true := by unfold arcHit; rw [show d.getD x.f0.toNat false = false from hv]; simp [c1]
        refine Ev.neg (by decide) (ih (pre ++ [x]) false (app_one h) (fun q => by simp at q) (fun q => hf ?_))
        rw [List.any_cons, ha]; simp
    · have ha : arcHit d (j : Int) x = false := by unfold arcHit; simp [c1]
      refine Ev.neg c1 (ih (pre ++ [x]) ok (app_one h) (fun q => ht ?_) (fun q => hf ?_))
      · rw [List.any_cons, ha, Bool.false_or]; exact q
      · rw [List.any_cons, ha, Bool.false_or]; exact q
theorem free_l0 (l : List S42) (d : List Bool) (N : Int) (n : Nat) (r : Int) (hF : Fit N l) (hN : N = (n : Int)) (hd : d.length = n) (hr : Least l d n r) : ∀ (m j : Nat), j + m = n → (∀ i, i < j → oFree l d i = false) → Ev (fun k => papermillref10_free.l0 k d (j : Int) N l) r := by
  intro m
  induction m with
  | zero =>
    intro j hj hi
    refine Ev.step (fun k => papermillref10_free.l0.eq_2 ..) (Ev.neg (by omega) (Ev.c ?_))
    rcases hr.h with ⟨h1, _⟩ | ⟨i, _, h2, h3, _⟩
    · exact h1.symm
    · rw [hi i (by omega)] at h3; simp at h3
  | succ m ih =>
    intro j hj hi
    refine Ev.step (fun k => papermillref10_free.l0.eq_2 ..) (Ev.pos (by omega) (Ev.pos (by omega) (Ev.pos (by omega) ?_)))
    have hN64 := hF.2.1
    have hv : rdOf false d (j : Int) = d.getD j false := by simp [rdOf]
    refine free_l1 l d N j r hF (by omega) l [] (!(rdOf false d (j : Int))) rfl (fun q => ?_) (fun q => ?_)
    · rw [hv] at q
      have q : oFree l d j = true := q
      rcases hr.h with ⟨_, h2⟩ | ⟨i, h1, h2, h3, h4⟩
      · rw [h2 j (by omega)] at q; simp at q
      · by_cases e : i < j
        · rw [hi i e] at h3; simp at h3
        · by_cases e2 : j < i
          · rw [h4 j e2] at q; simp at q
          · rw [h1]; omega
    · rw [hv] at q
      have q : oFree l d j = false := q
      rw [wrap_nat (n := n) (by omega) (by omega)]
      refine ih (j + 1) (by omega) (fun i h => ?_)
      by_cases e : i = j
      · rw [e]; exact q
      · exact hi i (by omega)
theorem free_eq (l : List S42) (d : List Bool) (N : Int) (n : Nat) (hF : Fit N l) (hN : N = (n : Int)) (hd : d.length = n) : Ev (fun k => papermillref10_free.f k N l d) (oNext l d n (-1)) :=
  free_l0 l d N n _ hF hN hd (oNext_least l d n) n 0 (by omega) (fun _ h => absurd h (Nat.not_lt_zero _))
/-- The order is found, and the reference finds the same. -/
theorem order_both (l : List S42) (N : Int) (n : Nat) (hF : Fit N l) (hN : N = (n : Int)) : ∀ (m : Nat) (d : List Bool) (out : List Int), out.length + m = n → d.length = n → ∃ r, Ev (fun k => oRun l N k d out) r ∧ Ev (fun k => papermillref10_Order.l0 k d out N l) r ∧ r.1.length ≤ n ∧ (r.2 = 0 ∨ (r.2 = 11 ∧ r.1 = [])) := by
  intro m
  induction m with
  | zero =>
    intro d out ho _
    refine ⟨(out, 0), Ev.step (fun k => oRun.eq_2 ..) (Ev.neg (by omega) (Ev.c rfl)), Ev.step (fun k => papermillref10_Order.l0.eq_2 ..) (Ev.neg (by omega) (Ev.c rfl)), by show out.length ≤ n; omega, Or.inl rfl⟩
  | succ m ih =>
    intro d out ho hd
    have hf := free_eq l d N n hF hN hd
    have hn : N.toNat = n := by omega
    have h64 := hF.2.1
    have hin := oNext_in l d n (-1)
    by_cases c : oNext l d n (-1) < 0
    · refine ⟨([], 11), Ev.step (fun k => oRun.eq_2 ..) (Ev.pos (by omega) ?_), Ev.step (fun k => papermillref10_Order.l0.eq_2 ..) (Ev.pos (by omega) (Ev.bind hf (Ev.pos c (Ev.c rfl)))), Nat.zero_le _, Or.inr ⟨rfl, rfl⟩⟩
      rw [hn]
      exact Ev.pos c (Ev.c rfl)
    · obtain ⟨r, h1, h2, h3⟩ := ih (d.set (oNext l d n (-1)).toNat true) (out ++ [oNext l d n (-1)]) (by rw [List.length_append, List.length_singleton]; omega) (by rw [List.length_set]; exact hd)
      refine ⟨r, Ev.step (fun k => oRun.eq_2 ..) (Ev.pos (by omega) ?_), Ev.step (fun k => papermillref10_Order.l0.eq_2 ..) (Ev.pos (by omega) (Ev.bind hf (Ev.neg c (Ev.pos (by omega) (Ev.pos (by omega) (Ev.pos (by omega) h2)))))), h3⟩
      rw [hn]
      exact Ev.neg c h1
theorem order_eq (N : Int) (l : List S42) (hl : l.length ≤ 9223372036854775807) : ∃ r, Ev (fun k => graph_Order.f k N l) r ∧ Ev (fun k => papermillref10_Order.f k N l) r ∧ r.1.length ≤ 64 ∧ (chk N l ≠ 0 → r = ([], chk N l)) ∧ (r.2 ≠ 0 → r.1 = []) := by
  unfold graph_Order.f papermillref10_Order.f
  by_cases c : chk N l = 0
  · have hF := chk_fit c
    have h1 := hF.1
    have h2 := hF.2.1
    obtain ⟨r, a, b, hlen, hz⟩ := order_both l N N.toNat hF (by omega) N.toNat (List.replicate N.toNat false) [] (by simp) (by simp)
    refine ⟨r, Ev.bind (check_eq N l hl) ?_, Ev.bind (rcheck_eq N l hl) ?_, by omega, fun h => absurd c h, fun h => by rcases hz with h0 | h0; exact absurd h0 h; exact h0.2⟩
    · exact Ev.pos c a
    · exact Ev.pos c (Ev.pos h1 (Ev.pos (by omega) b))
  · refine ⟨([], chk N l), Ev.bind (check_eq N l hl) (Ev.neg c (Ev.c rfl)), Ev.bind (rcheck_eq N l hl) (Ev.neg c (Ev.c rfl)), by simp, fun _ => rfl, fun _ => rfl⟩
end Go.Proofs.Ytaldnhlojllanaa.Pl
