/- Plain laws on reams: pack.Reams and the reference's come to one and the same function of the batches and the number of sheets, for lists no longer than a slice can be. -/
import Derived.Test.YtakoklgmhglpbaaQ4
import Derived.Test.YtakoklgmhglpbaaQ12
import Derived.Test.YtakoklgmhglpbaaPl
namespace Go.Proofs.Ytakoklgmhglpbaa.Pl
open Go.RowKit Go.Proofs.Ytakoklgmhglpbaa.Opn Go.Proofs.Ytakoklgmhglpbaa.Q Go.Proofs.Ytakoklgmhglpbaa.Gd Go.Proofs.YtakoklgmhglpbaaW.PrintWords

/-- The reams, the open parts, the sheets that are missing. -/
structure St where
  o : List S38
  p : List S43
  m : Int
/-- One batch (of the roll r, from f to t) is packed; n: more than its sheets. -/
def go (per : Int) : Nat → St → Int → Int → Int → St
  | 0, s, _, _, _ => s
  | n + 1, s, r, f, t => if t - f ≥ s.m then go per n ⟨s.o ++ [⟨s.p ++ [⟨r, ⟨f, f + s.m⟩⟩]⟩], [], per⟩ r (f + s.m) t else if t - f > 0 then ⟨s.o, s.p ++ [⟨r, ⟨f, t⟩⟩], s.m - (t - f)⟩ else s
def goAll (per : Int) : List S43 → St → St
  | [], s => s
  | x :: l, s => goAll per l (go per (sz x).toNat s x.f0 x.f1.f0 x.f1.f1)

/-- What has been packed: c sheets, q parts open at the most. -/
structure Inv (per c : Int) (q : Nat) (s : St) : Prop where
  m1 : 1 ≤ s.m
  m2 : s.m ≤ per
  c : (s.o.length : Int) * per + (per - s.m) = c
  q : s.p.length ≤ q

theorem go_inv (per : Int) : ∀ (n : Nat) (s : St) (r f t c : Int) (q : Nat), (t - f).toNat ≤ n → f ≤ t → Inv per c q s → Inv per (c + (t - f)) (q + 1) (go per n s r f t) := by
  intro n
  induction n with
  | zero =>
    intro s r f t c q hn hf h
    have : t - f = 0 := by omega
    refine ⟨h.m1, h.m2, by rw [this, Int.add_zero]; exact h.c, Nat.le_succ_of_le h.q⟩
  | succ n ih =>
    intro s r f t c q hn hf h
    unfold go
    have h1 := h.m1
    have h2 := h.m2
    have h3 := h.c
    by_cases c1 : t - f ≥ s.m
    · rw [if_pos c1]
      have := ih ⟨s.o ++ [⟨s.p ++ [⟨r, ⟨f, f + s.m⟩⟩]⟩], [], per⟩ r (f + s.m) t (c + s.m) q (by omega) (by omega) ⟨by show 1 ≤ per; omega, Int.le_refl _, by
        show ((s.o ++ [_]).length : Int) * per + (per - per) = c + s.m
        rw [List.length_append, List.length_singleton, Int.natCast_add, Int.add_mul]
        simp only [Int.natCast_one, Int.one_mul]
        omega, Nat.zero_le _⟩
      have e : c + s.m + (t - (f + s.m)) = c + (t - f) := by omega
      rw [e] at this
      exact this
    · rw [if_neg c1]
      by_cases c2 : t - f > 0
      · rw [if_pos c2]
        exact ⟨by show 1 ≤ s.m - (t - f); omega, by show s.m - (t - f) ≤ per; omega, by show (s.o.length : Int) * per + (per - (s.m - (t - f))) = _; omega, by show (s.p ++ [_]).length ≤ _; rw [List.length_append, List.length_singleton]; have := h.q; omega⟩
      · rw [if_neg c2]
        exact ⟨h1, h2, by omega, Nat.le_succ_of_le h.q⟩
theorem inv_out {per c : Int} {q : Nat} {s : St} (h : Inv per c q s) (hc : c < 513 * per) : s.o.length ≤ 512 := by
  have h1 := h.m1
  have h2 := h.m2
  have h3 := h.c
  rcases Nat.lt_or_ge 512 s.o.length with h' | h'
  · exfalso
    have : (513 : Int) * per ≤ (s.o.length : Int) * per := Int.mul_le_mul_of_nonneg_right (by omega) (by omega)
    omega
  · exact h'
theorem go_one (per : Int) (n : Nat) (s : St) (r t : Int) (h1 : 1 ≤ s.m) : go per n s r t t = s := by
  cases n with
  | zero => rfl
  | succ n =>
    unfold go
    rw [if_neg (by omega), if_neg (by omega)]

/-! ### the reference -/
theorem ref_l2 (l : List S43) (per i : Int) (hper : per ≤ 17179869184) (res : List S38 × List S43 × Int) :
    ∀ (n : Nat) (s : St) (r f t c : Int) (q : Nat), (t - f).toNat ≤ n → 0 ≤ f → f ≤ t → t ≤ 17179869184 → Inv per c q s → q ≤ 512 → c + (t - f) < 513 * per →
      Ev (fun k => papermillref53_Reams.l1 k l per (go per n s r f t).o (go per n s r f t).p (go per n s r f t).m (wrap64 (i + 1))) res →
      Ev (fun k => papermillref53_Reams.l2 k l per s.o s.p s.m i r f t) res := by
  intro n
  induction n with
  | zero =>
    intro s r f t c q hn h0 hf ht h hq hc hE
    have h1 := h.m1
    have hft : t = f := by omega
    refine Ev.step (fun k => papermillref53_Reams.l2.eq_2 ..) ?_
    have hw : wrap64 (t - f) = 0 := by subst hft; simp [wrap64]
    refine Ev.sb (a := 0) (fun n => by unfold papermillref53_size.f; rw [hw]) (Ev.neg (by omega) (Ev.sb (a := 0) (fun n => by unfold papermillref53_size.f; rw [hw]) (Ev.neg (by omega) hE)))
  | succ n ih =>
    intro s r f t c q hn h0 hf ht h hq hc hE
    have h1 := h.m1
    have h2 := h.m2
    have h3 := h.c
    have hq' := h.q
    have ho := inv_out h (by omega)
    have hw : wrap64 (t - f) = t - f := by unfold wrap64; omega
    refine Ev.step (fun k => papermillref53_Reams.l2.eq_2 ..) ?_
    refine Ev.sb (a := t - f) (fun n => by unfold papermillref53_size.f; rw [hw]) ?_
    by_cases c1 : t - f ≥ s.m
    · have hg : go per (n + 1) s r f t = go per n ⟨s.o ++ [⟨s.p ++ [⟨r, ⟨f, f + s.m⟩⟩]⟩], [], per⟩ r (f + s.m) t := by
        show (if t - f ≥ s.m then _ else _) = _
        rw [if_pos c1]
      rw [hg] at hE
      refine Ev.pos c1 (Ev.pos (by omega) (Ev.pos (by omega) ?_))
      have hw2 : wrap64 (f + s.m) = f + s.m := by unfold wrap64; omega
      rw [hw2]
      refine ih ⟨s.o ++ [⟨s.p ++ [⟨r, ⟨f, f + s.m⟩⟩]⟩], [], per⟩ r (f + s.m) t (c + s.m) q (by omega) (by omega) (by omega) ht ⟨by show 1 ≤ per; omega, Int.le_refl _, by
        show ((s.o ++ [_]).length : Int) * per + (per - per) = c + s.m
        rw [List.length_append, List.length_singleton, Int.natCast_add, Int.add_mul]
        simp only [Int.natCast_one, Int.one_mul]
        omega, Nat.zero_le _⟩ hq (by omega) hE
    · refine Ev.neg c1 (Ev.sb (a := t - f) (fun n => by unfold papermillref53_size.f; rw [hw]) ?_)
      by_cases c2 : t - f > 0
      · have hg : go per (n + 1) s r f t = ⟨s.o, s.p ++ [⟨r, ⟨f, t⟩⟩], s.m - (t - f)⟩ := by
          show (if t - f ≥ s.m then _ else _) = _
          rw [if_neg c1, if_pos c2]
        rw [hg] at hE
        refine Ev.pos c2 (Ev.pos (by omega) (Ev.sb (a := t - f) (fun n => by unfold papermillref53_size.f; rw [hw]) ?_))
        have hw2 : wrap64 (s.m - (t - f)) = s.m - (t - f) := by unfold wrap64; omega
        rw [hw2]
        exact hE
      · have hg : go per (n + 1) s r f t = s := by
          show (if t - f ≥ s.m then _ else _) = _
          rw [if_neg c1, if_neg c2]
        rw [hg] at hE
        exact Ev.neg c2 hE

theorem sumS_pre {l pre post : List S43} (h : l = pre ++ post) (hv : ∀ x ∈ l, Ok x) : 0 ≤ sumS pre ∧ sumS pre + sumS post = sumS l ∧ 0 ≤ sumS post := by
  subst h
  refine ⟨(sumS_bd fun y hy => hv y (List.mem_append_left _ hy)).1, (sumS_app _ _).symm, (sumS_bd fun y hy => hv y (List.mem_append_right _ hy)).1⟩

theorem ref_l1 (l : List S43) (per : Int) (hper : per ≤ 17179869184) (hl : l.length ≤ 512) (hv : ∀ x ∈ l, Ok x) (hS : sumS l < 513 * per) :
    ∀ (post pre : List S43) (s : St), l = pre ++ post → Inv per (sumS pre) pre.length s → Ev (fun k => papermillref53_Reams.l1 k l per s.o s.p s.m (pre.length : Int)) ((goAll per post s).o, (goAll per post s).p, 0) := by
  intro post
  induction post with
  | nil =>
    intro pre s h hi
    refine Ev.step (fun k => papermillref53_Reams.l1.eq_2 ..) ?_
    exact Ev.neg (nlt_end h) (Ev.c rfl)
  | cons x post ih =>
    intro pre s h hi
    refine Ev.step (fun k => papermillref53_Reams.l1.eq_2 ..) ?_
    have e : rd_T43 l (pre.length : Int) = x := by rw [h]; exact rd43_at pre post x
    have hx : Ok x := hv x (by rw [h]; simp)
    have hlen : pre.length + 1 ≤ 512 := by have := congrArg List.length h; simp at this; omega
    have h4 := sumS_pre h hv
    have h5 := sumS_pre (app_one h) hv
    have e5 : sumS (pre ++ [x]) = sumS pre + sz x := by rw [sumS_app]; simp [sumS]
    refine Ev.pos (lt_at h) (Ev.pos (by omega) ?_)
    rw [e]
    refine ref_l2 l per _ hper _ (sz x).toNat s x.f0 x.f1.f0 x.f1.f1 (sumS pre) pre.length (Nat.le_refl _) hx.f0 hx.ft hx.t hi (by omega) ?_ ?_
    · unfold sz at e5; omega
    · rw [wrap_next h (by omega)]
      refine ih (pre ++ [x]) _ (app_one h) ?_
      have := go_inv per (sz x).toNat s x.f0 x.f1.f0 x.f1.f1 (sumS pre) pre.length (Nat.le_refl _) hx.ft hi
      rw [e5, List.length_append, List.length_singleton]
      exact this

/-- The reams of batches, what is left, the error. -/
def reamsS (l : List S43) (per : Int) : List S38 × List S43 × Int :=
  if chk l = 0 then (if per < 1 ∨ per > 17179869184 then ([], [], 1) else if sumS l / per > 512 then ([], [], 8) else ((goAll per l ⟨[], [], per⟩).o, (goAll per l ⟨[], [], per⟩).p, 0)) else ([], [], chk l)

theorem ref_sum (l : List S43) (per : Int) (hl : l.length ≤ 512) (hv : ∀ x ∈ l, Ok x) (res : List S38 × List S43 × Int)
    (hE : Ev (fun k => if per = 0 then none else if wrap64 (Int.tdiv (sumS l) per) > 512 then some (([] : List S38), ([] : List S43), 8) else papermillref53_Reams.l1 k l per [] [] per 0) res) :
    ∀ (post pre : List S43), l = pre ++ post → Ev (fun k => papermillref53_Reams.l0 k l per (sumS pre) (pre.length : Int)) res := by
  intro post
  induction post with
  | nil =>
    intro pre h
    refine Ev.step (fun k => papermillref53_Reams.l0.eq_2 ..) ?_
    refine Ev.neg (nlt_end h) ?_
    have e : sumS pre = sumS l := by rw [h]; simp
    rw [e]
    exact hE
  | cons x post ih =>
    intro pre h
    refine Ev.step (fun k => papermillref53_Reams.l0.eq_2 ..) ?_
    have e : rd_T43 l (pre.length : Int) = x := by rw [h]; exact rd43_at pre post x
    have hx : Ok x := hv x (by rw [h]; simp)
    have hpre : ∀ y ∈ pre, Ok y := fun y hy => hv y (by rw [h]; simp [hy])
    have hb := sumS_bd hpre
    have hb2 := sz_bd hx
    have hlen : pre.length + 1 ≤ 512 := by have := congrArg List.length h; simp at this; omega
    refine Ev.pos (lt_at h) (Ev.pos (by omega) (Ev.sb (a := sz x) (fun n => by rw [e]; exact size_eq hx) ?_))
    rw [wrap_next h (by omega)]
    have e2 : wrap64 (sumS pre + sz x) = sumS (pre ++ [x]) := by
      rw [sumS_app]
      simp only [sumS]
      unfold wrap64
      omega
    rw [e2]
    exact ih (pre ++ [x]) (app_one h)

theorem div_bd {s per : Int} (_hs : 0 ≤ s) (hper : 1 ≤ per) (h : ¬ s / per > 512) : s < 513 * per := by
  have h1 := Int.mul_ediv_add_emod s per
  have h2 := Int.emod_lt_of_pos s (show 0 < per by omega)
  have h3 : per * (s / per) ≤ per * 512 := Int.mul_le_mul_of_nonneg_left (by omega) (by omega)
  omega
theorem wrap_div {s per : Int} (hs : 0 ≤ s) (hs2 : s ≤ 8796093022208) (hper : 1 ≤ per) : wrap64 (Int.tdiv s per) = s / per := by
  rw [Int.tdiv_eq_ediv_of_nonneg hs]
  have h1 : 0 ≤ s / per := Int.ediv_nonneg hs (by omega)
  have h2 : s / per ≤ s := Int.ediv_le_self _ hs
  unfold wrap64
  omega
theorem inv_start {per : Int} (h : 1 ≤ per) : Inv per (sumS []) 0 ⟨[], [], per⟩ := ⟨h, Int.le_refl _, by simp [sumS], Nat.le_refl _⟩

theorem ref_reams (l : List S43) (per : Int) (hl : l.length ≤ 9223372036854775807) : Ev (fun k => papermillref53_Reams.f k l per) (reamsS l per) := by
  unfold papermillref53_Reams.f reamsS
  refine Ev.bind (all_eq l hl) ?_
  by_cases h0 : chk l = 0
  · rw [if_pos h0]
    refine Ev.pos h0 ?_
    obtain ⟨h1, h2⟩ := chk_zero h0
    have hb := sumS_bd h2
    by_cases h3 : per < 1
    · rw [if_pos (Or.inl h3)]
      refine Ev.pos h3 ?_
      refine Ev.step (fun k => papermillref53_Reams.j0.eq_2 ..) ?_
      exact Ev.pos rfl (Ev.c rfl)
    · refine Ev.neg h3 ?_
      refine Ev.step (fun k => papermillref53_Reams.j0.eq_2 ..) ?_
      by_cases h4 : per > 17179869184
      · rw [if_pos (Or.inr h4)]
        exact Ev.pos (by simpa using h4) (Ev.c rfl)
      · rw [if_neg (by omega)]
        refine Ev.neg (by simpa using h4) ?_
        refine ref_sum l per h1 h2 _ ?_ l [] rfl
        refine Ev.neg (by omega) ?_
        rw [wrap_div hb.1 (by omega) (by omega)]
        by_cases h5 : sumS l / per > 512
        · rw [if_pos h5]
          exact Ev.pos h5 (Ev.c rfl)
        · rw [if_neg h5]
          refine Ev.neg h5 ?_
          exact ref_l1 l per (by omega) h1 h2 (div_bd hb.1 (by omega) h5) l [] ⟨[], [], per⟩ rfl (inv_start (by omega))
  · rw [if_neg h0]
    exact Ev.neg h0 (Ev.c rfl)

/-! ### the program -/
theorem pack_l1 (l : List S43) (per i : Int) (hper : per ≤ 17179869184) (res : List S38 × List S43 × Int) :
    ∀ (n : Nat) (s : St) (r f t c : Int) (q : Nat), (t - f).toNat ≤ n → 0 ≤ f → f ≤ t → t ≤ 17179869184 → Inv per c q s → q ≤ 512 → c + (t - f) < 513 * per →
      Ev (fun k => pack_Reams.l0 k per (go per n s r f t).o (go per n s r f t).p (go per n s r f t).m l (l.length : Int) (wrap64 (i + 1))) res →
      Ev (fun k => pack_Reams.l1 k per s.o s.p s.m l (l.length : Int) i r f t) res := by
  intro n
  induction n with
  | zero =>
    intro s r f t c q hn h0 hf ht h hq hc hE
    have hft : t = f := by omega
    refine Ev.step (fun k => pack_Reams.l1.eq_2 ..) ?_
    exact Ev.sb (a := true) (fun n => by unfold pack_none.f; rw [hft]; simp) (Ev.pos rfl hE)
  | succ n ih =>
    intro s r f t c q hn h0 hf ht h hq hc hE
    have h1 := h.m1
    have h2 := h.m2
    have h3 := h.c
    have hq' := h.q
    have ho := inv_out h (by omega)
    have hw : wrap64 (t - f) = t - f := by unfold wrap64; omega
    refine Ev.step (fun k => pack_Reams.l1.eq_2 ..) ?_
    by_cases hft : t = f
    · subst hft
      rw [go_one per _ s r t h1] at hE
      exact Ev.sb (a := true) (fun n => by unfold pack_none.f; simp) (Ev.pos rfl hE)
    · refine Ev.sb (a := false) (fun n => by unfold pack_none.f; simp [hft]) (Ev.neg (by decide) (Ev.pos (by omega) ?_))
      refine Ev.sb (fun n => rfl) ?_
      rw [hw]
      by_cases c1 : t - f ≥ s.m
      · have hg : go per (n + 1) s r f t = go per n ⟨s.o ++ [⟨s.p ++ [⟨r, ⟨f, f + s.m⟩⟩]⟩], [], per⟩ r (f + s.m) t := by
          show (if t - f ≥ s.m then _ else _) = _
          rw [if_pos c1]
        rw [hg] at hE
        have hm : mn s.m (t - f) = s.m := by unfold mn; split <;> omega
        have hw2 : wrap64 (f + s.m) = f + s.m := by unfold wrap64; omega
        have hw3 : wrap64 (s.m - s.m) = 0 := by unfold wrap64; omega
        rw [hm, hw2, hw3]
        refine Ev.pos rfl (Ev.pos (by omega) ?_)
        refine ih ⟨s.o ++ [⟨s.p ++ [⟨r, ⟨f, f + s.m⟩⟩]⟩], [], per⟩ r (f + s.m) t (c + s.m) q (by omega) (by omega) (by omega) ht ⟨by show 1 ≤ per; omega, Int.le_refl _, by
          show ((s.o ++ [_]).length : Int) * per + (per - per) = c + s.m
          rw [List.length_append, List.length_singleton, Int.natCast_add, Int.add_mul]
          simp only [Int.natCast_one, Int.one_mul]
          omega, Nat.zero_le _⟩ hq (by omega) hE
      · have hg : go per (n + 1) s r f t = ⟨s.o, s.p ++ [⟨r, ⟨f, t⟩⟩], s.m - (t - f)⟩ := by
          show (if t - f ≥ s.m then _ else _) = _
          rw [if_neg c1, if_pos (by omega)]
        rw [hg] at hE
        have hm : mn s.m (t - f) = t - f := by unfold mn; split <;> omega
        have hw2 : wrap64 (f + (t - f)) = t := by unfold wrap64; omega
        have hw3 : wrap64 (s.m - (t - f)) = s.m - (t - f) := by unfold wrap64; omega
        rw [hm, hw2, hw3]
        refine Ev.neg (by omega) ?_
        refine Ev.step (fun k => pack_Reams.l1.eq_2 ..) ?_
        exact Ev.sb (a := true) (fun n => by unfold pack_none.f; simp) (Ev.pos rfl hE)

theorem pack_l0 (l : List S43) (per : Int) (hper : per ≤ 17179869184) (hl : l.length ≤ 512) (hv : ∀ x ∈ l, Ok x) (hS : sumS l < 513 * per) :
    ∀ (post pre : List S43) (s : St), l = pre ++ post → Inv per (sumS pre) pre.length s → Ev (fun k => pack_Reams.l0 k per s.o s.p s.m l (l.length : Int) (pre.length : Int)) ((goAll per post s).o, (goAll per post s).p, 0) := by
  intro post
  induction post with
  | nil =>
    intro pre s h hi
    refine Ev.step (fun k => pack_Reams.l0.eq_2 ..) ?_
    exact Ev.neg (nlt_end h) (Ev.c rfl)
  | cons x post ih =>
    intro pre s h hi
    refine Ev.step (fun k => pack_Reams.l0.eq_2 ..) ?_
    have e : rd_T43 l (pre.length : Int) = x := by rw [h]; exact rd43_at pre post x
    have hx : Ok x := hv x (by rw [h]; simp)
    have hlen : pre.length + 1 ≤ 512 := by have := congrArg List.length h; simp at this; omega
    have h4 := sumS_pre h hv
    have h5 := sumS_pre (app_one h) hv
    have e5 : sumS (pre ++ [x]) = sumS pre + sz x := by rw [sumS_app]; simp [sumS]
    refine Ev.pos (lt_at h) (Ev.pos (by omega) (Ev.pos (lt_at h) ?_))
    rw [e]
    refine pack_l1 l per _ hper _ (sz x).toNat s x.f0 x.f1.f0 x.f1.f1 (sumS pre) pre.length (Nat.le_refl _) hx.f0 hx.ft hx.t hi (by omega) ?_ ?_
    · unfold sz at e5; omega
    · rw [wrap_next h (by omega)]
      refine ih (pre ++ [x]) _ (app_one h) ?_
      have := go_inv per (sz x).toNat s x.f0 x.f1.f0 x.f1.f1 (sumS pre) pre.length (Nat.le_refl _) hx.ft hi
      rw [e5, List.length_append, List.length_singleton]
      exact this

theorem pack_reams (l : List S43) (per : Int) : Ev (fun k => pack_Reams.f k l per) (reamsS l per) := by
  unfold pack_Reams.f reamsS
  refine Ev.sb (fun n => check_eq l) ?_
  by_cases h0 : chk l = 0
  · rw [if_pos h0]
    refine Ev.pos h0 ?_
    obtain ⟨h1, h2⟩ := chk_zero h0
    have hb := sumS_bd h2
    by_cases h3 : per < 1
    · rw [if_pos (Or.inl h3)]
      refine Ev.pos h3 ?_
      refine Ev.step (fun k => pack_Reams.j0.eq_2 ..) ?_
      exact Ev.pos rfl (Ev.c rfl)
    · refine Ev.neg h3 ?_
      refine Ev.step (fun k => pack_Reams.j0.eq_2 ..) ?_
      by_cases h4 : per > 17179869184
      · rw [if_pos (Or.inr h4)]
        exact Ev.pos (by simpa using h4) (Ev.c rfl)
      · rw [if_neg (by omega)]
        refine Ev.neg (by simpa using h4) ?_
        refine Ev.bind (count_eq h0) ?_
        refine Ev.neg (by omega) ?_
        rw [wrap_div hb.1 (by omega) (by omega)]
        by_cases h5 : sumS l / per > 512
        · rw [if_pos h5]
          exact Ev.pos h5 (Ev.c rfl)
        · rw [if_neg h5]
          refine Ev.neg h5 ?_
          exact pack_l0 l per (by omega) h1 h2 (div_bd hb.1 (by omega) h5) l [] ⟨[], [], per⟩ rfl (inv_start (by omega))
  · rw [if_neg h0]
    exact Ev.neg h0 (Ev.c rfl)
end Go.Proofs.Ytakoklgmhglpbaa.Pl
