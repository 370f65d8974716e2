/- What is known of the reams of batches: how many there are, what each holds, what is left. -/
import Derived.Test.YtakoklgmhglpbaaPr
namespace Go.Proofs.Ytakoklgmhglpbaa.Pl
open Go.RowKit Go.Proofs.Ytakoklgmhglpbaa.Q Go.Proofs.YtakoklgmhglpbaaW.PrintWords
/-- Every part is valid and not empty; a ream holds per sheets, and no more parts than batches. -/
structure Full (per : Int) (n : Nat) (r : S38) : Prop where
  v : ∀ x ∈ r.f0, Ok x ∧ 0 < sz x
  s : sumS r.f0 = per
  n : r.f0.length ≤ n
structure Good (per : Int) (q : Nat) (u : St) : Prop where
  o : ∀ r ∈ u.o, Full per q r
  v : ∀ x ∈ u.p, Ok x ∧ 0 < sz x
  s : sumS u.p = per - u.m
  n : u.p.length ≤ q
  m1 : 1 ≤ u.m
  m2 : u.m ≤ per
theorem Good.le {per : Int} {n n' : Nat} {s : St} (h : Good per n s) (hn : n ≤ n') : Good per n' s :=
  ⟨fun r hr => let g := h.o r hr; ⟨g.v, g.s, Nat.le_trans g.n hn⟩, h.v, h.s, Nat.le_trans h.n hn, h.m1, h.m2⟩
theorem sumS_one (x : S43) : sumS [x] = sz x := by simp [sumS]
theorem go_good (per : Int) (r : Int) (hr1 : 1 ≤ r) (hr2 : r ≤ 1000000) (t : Int) (ht : t ≤ 17179869184) (q : Nat) : ∀ (n : Nat) (s : St) (f : Int), (t - f).toNat ≤ n → 0 ≤ f → f ≤ t →
    (∀ x ∈ s.o, Full per (q + 1) x) → (∀ x ∈ s.p, Ok x ∧ 0 < sz x) → sumS s.p = per - s.m → s.p.length ≤ q → 1 ≤ s.m → s.m ≤ per → Good per (q + 1) (go per n s r f t) := by
  intro n
  induction n with
  | zero =>
    intro s f hn h0 hf ho hv hs hq h1 h2
    exact ⟨ho, hv, hs, Nat.le_succ_of_le hq, h1, h2⟩
  | succ n ih =>
    intro s f hn h0 hf ho hv hs hq h1 h2
    unfold go
    by_cases c1 : t - f ≥ s.m
    · rw [if_pos c1]
      have hsz : sz ⟨r, ⟨f, f + s.m⟩⟩ = s.m := by unfold sz; show f + s.m - f = s.m; omega
      refine ih ⟨s.o ++ [⟨s.p ++ [⟨r, ⟨f, f + s.m⟩⟩]⟩], [], per⟩ (f + s.m) (by omega) (by omega) (by omega) (fun x hx => ?_) (fun x hx => by cases hx) (by show (0 : Int) = per - per; omega) (Nat.zero_le _) (by show 1 ≤ per; omega) (Int.le_refl _)
      rcases List.mem_append.1 hx with hx | hx
      · exact ho x hx
      · obtain rfl := List.mem_singleton.1 hx
        refine ⟨fun y hy => ?_, ?_, ?_⟩
        · rcases List.mem_append.1 hy with hy | hy
          · exact hv y hy
          · obtain rfl := List.mem_singleton.1 hy
            exact ⟨⟨hr1, hr2, h0, by show f ≤ f + s.m; omega, by show f + s.m ≤ _; omega⟩, by rw [hsz]; omega⟩
        · rw [sumS_app, sumS_one, hsz, hs]; omega
        · rw [List.length_append, List.length_singleton]; omega
    · rw [if_neg c1]
      by_cases c2 : t - f > 0
      · rw [if_pos c2]
        have hsz : sz ⟨r, ⟨f, t⟩⟩ = t - f := rfl
        refine ⟨ho, fun y hy => ?_, ?_, ?_, by show 1 ≤ s.m - (t - f); omega, by show s.m - (t - f) ≤ per; omega⟩
        · rcases List.mem_append.1 hy with hy | hy
          · exact hv y hy
          · obtain rfl := List.mem_singleton.1 hy
            exact ⟨⟨hr1, hr2, h0, hf, ht⟩, by rw [hsz]; omega⟩
        · show sumS (s.p ++ [_]) = per - (s.m - (t - f))
          rw [sumS_app, sumS_one, hsz, hs]; omega
        · show (s.p ++ [_]).length ≤ _
          rw [List.length_append, List.length_singleton]; omega
      · rw [if_neg c2]
        exact ⟨ho, hv, hs, Nat.le_succ_of_le hq, h1, h2⟩
theorem goAll_good (per : Int) : ∀ (l : List S43) (s : St) (q : Nat), (∀ x ∈ l, Ok x) → Good per q s → Good per (q + l.length) (goAll per l s) := by
  intro l
  induction l with
  | nil => intro s q _ h; exact h
  | cons x l ih =>
    intro s q hv h
    have hx := hv x List.mem_cons_self
    have h1 : Good per (q + 1) (go per (sz x).toNat s x.f0 x.f1.f0 x.f1.f1) :=
      go_good per x.f0 hx.r1 hx.r2 x.f1.f1 hx.t q (sz x).toNat s x.f1.f0 (Nat.le_refl _) hx.f0 hx.ft (h.le (Nat.le_succ q)).o h.v h.s h.n h.m1 h.m2
    have := ih _ (q + 1) (fun y hy => hv y (List.mem_cons_of_mem _ hy)) h1
    show Good per (q + (l.length + 1)) _
    rw [show q + (l.length + 1) = q + 1 + l.length by omega]
    exact this
theorem good_start {per : Int} (h : 1 ≤ per) : Good per 0 ⟨[], [], per⟩ := ⟨fun r hr => absurd hr (List.not_mem_nil), fun x hx => absurd hx (List.not_mem_nil), by show (0 : Int) = per - per; omega, Nat.le_refl _, h, Int.le_refl _⟩
theorem goAll_inv (per : Int) : ∀ (l : List S43) (s : St) (c : Int) (q : Nat), (∀ x ∈ l, Ok x) → Inv per c q s → Inv per (c + sumS l) (q + l.length) (goAll per l s) := by
  intro l
  induction l with
  | nil => intro s c q _ h; show Inv per (c + 0) q s; rw [Int.add_zero]; exact h
  | cons x l ih =>
    intro s c q hv h
    have hx := hv x List.mem_cons_self
    have h1 := go_inv per (sz x).toNat s x.f0 x.f1.f0 x.f1.f1 c q (Nat.le_refl _) hx.ft h
    have := ih _ _ _ (fun y hy => hv y (List.mem_cons_of_mem _ hy)) h1
    show Inv per (c + (sz x + sumS l)) (q + (l.length + 1)) _
    rw [show q + (l.length + 1) = q + 1 + l.length by omega, show c + (sz x + sumS l) = c + (x.f1.f1 - x.f1.f0) + sumS l by unfold sz; omega]
    exact this
/-- The reams are few, and so are their parts. -/
theorem reams_small (l : List S43) (per : Int) : (reamsS l per).1.length ≤ 512 ∧ (∀ r ∈ (reamsS l per).1, r.f0.length ≤ 512) ∧ (reamsS l per).2.1.length ≤ 512 := by
  unfold reamsS
  split
  · rename_i h0
    obtain ⟨h1, h2⟩ := chk_zero h0
    split
    · exact ⟨Nat.zero_le _, fun r hr => absurd hr (List.not_mem_nil), Nat.zero_le _⟩
    · split
      · exact ⟨Nat.zero_le _, fun r hr => absurd hr (List.not_mem_nil), Nat.zero_le _⟩
      · rename_i h3 h4
        have hper : 1 ≤ per := by omega
        have hi := goAll_inv per l ⟨[], [], per⟩ 0 0 h2 (inv_start hper)
        have hg := goAll_good per l ⟨[], [], per⟩ 0 h2 (good_start hper)
        have hb := sumS_bd h2
        rw [Nat.zero_add] at hg
        exact ⟨inv_out hi (by have := div_bd hb.1 hper h4; omega), fun r hr => Nat.le_trans (hg.o r hr).n h1, Nat.le_trans hg.n h1⟩
  · exact ⟨Nat.zero_le _, fun r hr => absurd hr (List.not_mem_nil), Nat.zero_le _⟩
end Go.Proofs.Ytakoklgmhglpbaa.Pl
