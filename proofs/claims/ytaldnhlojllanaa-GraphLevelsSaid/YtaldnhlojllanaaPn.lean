/- Plain laws on the reference's order: it is the program's, for every graph. -/
import Derived.Test.YtaldnhlojllanaaPl
import Derived.Test.YtaldnhlojllanaaQ7
namespace Go.Proofs.Ytaldnhlojllanaa.Pl
open Go.RowKit Go.Proofs.Ytaldnhlojllanaa.Opn Go.Proofs.Ytaldnhlojllanaa.Q Go.Proofs.Ytaldnhlojllanaa.Gd Go.Proofs.YtaldnhlojllanaaW.PrintWords

theorem free_l1 (l : List S42) (d : List Bool) (N : Int) (j : Nat) (r : Int) (hF : Fit N l) (hd : (d.length : Int) = N) : ∀ (post pre : List S42) (ok : Bool), l = pre ++ post → ((ok && !(post.any (arcHit d (j : Int)))) = true → r = (j : Int)) → ((ok && !(post.any (arcHit d (j : Int)))) = false → Ev (fun k => papermillref10_free.l0 k d (wrap64 ((j : Int) + 1)) N l) r) → Ev (fun k => papermillref10_free.l1 k d (j : Int) ok (pre.length : Int) N l) r := by
  intro post
  induction post with
  | nil =>
    intro pre ok h ht hf
    refine Ev.step (fun k => papermillref10_free.l1.eq_2 ..) (Ev.neg (nlt_end h) ?_)
    cases ok with
    | true => exact Ev.pos rfl (Ev.c (ht rfl).symm)
    | false => exact Ev.neg (by decide) (hf rfl)
  | cons x post ih =>
    intro pre ok h ht hf
    have e : rd_T42 l (pre.length : Int) = x := by rw [h]; exact rd42_at pre post x
    have hx := hF.2.2.2 x (mem_at h)
    have hl := hF.2.2.1
    refine Ev.step (fun k => papermillref10_free.l1.eq_2 ..) (Ev.pos (lt_at h) (Ev.pos (by omega) ?_))
    rw [e, wrap_next h (by omega)]
    by_cases c1 : x.f1 = (j : Int)
    · refine Ev.pos c1 (Ev.pos hx.1.1 (Ev.pos (by omega) ?_))
      cases hv : rdOf false d x.f0 with
      | true =>
        have ha : arcHit d (j : Int) x = false := by unfold arcHit; rw [show d.getD x.f0.toNat false = true from hv]; simp
        refine Ev.pos rfl (ih (pre ++ [x]) ok (app_one h) (fun q => ht ?_) (fun q => hf ?_))
        · rw [List.any_cons, ha, Bool.false_or]; exact q
        · rw [List.any_cons, ha, Bool.false_or]; exact q
      | false =>
        have ha : arcHit d (j : Int) x = true := by unfold arcHit; rw [show d.getD x.f0.toNat false = false from hv]; simp [c1]
        refine Ev.neg (by decide) (ih (pre ++ [x]) false (app_one h) (fun q => by simp at q) (fun q => hf ?_))
        rw [List.any_cons, ha]; simp
    · have ha : arcHit d (j : Int) x = false := by unfold arcHit; simp [c1]
      refine Ev.neg c1 (ih (pre ++ [x]) ok (app_one h) (fun q => ht ?_) (fun q => hf ?_))
      · rw [List.any_cons, ha, Bool.false_or]; exact q
      · rw [List.any_cons, ha, Bool.false_or]; exact q
theorem free_l0 (l : List S42) (d : List Bool) (N : Int) (n : Nat) (r : Int) (hF : Fit N l) (hN : N = (n : Int)) (hd : d.length = n) (hr : Least l d n r) : ∀ (m j : Nat), j + m = n → (∀ i, i < j → oFree l d i = false) → Ev (fun k => papermillref10_free.l0 k d (j : Int) N l) r := by
  intro m
  induction m with
  | zero =>
    intro j hj hi
    refine Ev.step (fun k => papermillref10_free.l0.eq_2 ..) (Ev.neg (by omega) (Ev.c ?_))
    rcases hr.h with ⟨h1, _⟩ | ⟨i, _, h2, h3, _⟩
    · exact h1.symm
    · rw [hi i (by omega)] at h3; simp at h3
  | succ m ih =>
    intro j hj hi
    refine Ev.step (fun k => papermillref10_free.l0.eq_2 ..) (Ev.pos (by omega) (Ev.pos (by omega) (Ev.pos (by omega) ?_)))
    have hN64 := hF.2.1
    have hv : rdOf false d (j : Int) = d.getD j false := by simp [rdOf]
    refine free_l1 l d N j r hF (by omega) l [] (!(rdOf false d (j : Int))) rfl (fun q => ?_) (fun q => ?_)
    · rw [hv] at q
      have q : oFree l d j = true := q
      rcases hr.h with ⟨_, h2⟩ | ⟨i, h1, h2, h3, h4⟩
      · rw [h2 j (by omega)] at q; simp at q
      · by_cases e : i < j
        · rw [hi i e] at h3; simp at h3
        · by_cases e2 : j < i
          · rw [h4 j e2] at q; simp at q
          · rw [h1]; omega
    · rw [hv] at q
      have q : oFree l d j = false := q
      rw [wrap_nat (n := n) (by omega) (by omega)]
      refine ih (j + 1) (by omega) (fun i h => ?_)
      by_cases e : i = j
      · rw [e]; exact q
      · exact hi i (by omega)
theorem free_eq (l : List S42) (d : List Bool) (N : Int) (n : Nat) (hF : Fit N l) (hN : N = (n : Int)) (hd : d.length = n) : Ev (fun k => papermillref10_free.f k N l d) (oNext l d n (-1)) :=
  free_l0 l d N n _ hF hN hd (oNext_least l d n) n 0 (by omega) (fun _ h => absurd h (Nat.not_lt_zero _))
/-- The order is found, and the reference finds the same. -/
theorem order_both (l : List S42) (N : Int) (n : Nat) (hF : Fit N l) (hN : N = (n : Int)) : ∀ (m : Nat) (d : List Bool) (out : List Int), out.length + m = n → d.length = n → ∃ r, Ev (fun k => oRun l N k d out) r ∧ Ev (fun k => papermillref10_Order.l0 k d out N l) r ∧ r.1.length ≤ n ∧ (r.2 = 0 ∨ (r.2 = 11 ∧ r.1 = [])) := by
  intro m
  induction m with
  | zero =>
    intro d out ho _
    refine ⟨(out, 0), Ev.step (fun k => oRun.eq_2 ..) (Ev.neg (by omega) (Ev.c rfl)), Ev.step (fun k => papermillref10_Order.l0.eq_2 ..) (Ev.neg (by omega) (Ev.c rfl)), by show out.length ≤ n; omega, Or.inl rfl⟩
  | succ m ih =>
    intro d out ho hd
    have hf := free_eq l d N n hF hN hd
    have hn : N.toNat = n := by omega
    have h64 := hF.2.1
    have hin := oNext_in l d n (-1)
    by_cases c : oNext l d n (-1) < 0
    · refine ⟨([], 11), Ev.step (fun k => oRun.eq_2 ..) (Ev.pos (by omega) ?_), Ev.step (fun k => papermillref10_Order.l0.eq_2 ..) (Ev.pos (by omega) (Ev.bind hf (Ev.pos c (Ev.c rfl)))), Nat.zero_le _, Or.inr ⟨rfl, rfl⟩⟩
      rw [hn]
      exact Ev.pos c (Ev.c rfl)
    · obtain ⟨r, h1, h2, h3⟩ := ih (d.set (oNext l d n (-1)).toNat true) (out ++ [oNext l d n (-1)]) (by rw [List.length_append, List.length_singleton]; omega) (by rw [List.length_set]; exact hd)
      refine ⟨r, Ev.step (fun k => oRun.eq_2 ..) (Ev.pos (by omega) ?_), Ev.step (fun k => papermillref10_Order.l0.eq_2 ..) (Ev.pos (by omega) (Ev.bind hf (Ev.neg c (Ev.pos (by omega) (Ev.pos (by omega) (Ev.pos (by omega) h2)))))), h3⟩
      rw [hn]
      exact Ev.neg c h1
theorem order_eq (N : Int) (l : List S42) (hl : l.length ≤ 9223372036854775807) : ∃ r, Ev (fun k => graph_Order.f k N l) r ∧ Ev (fun k => papermillref10_Order.f k N l) r ∧ r.1.length ≤ 64 ∧ (chk N l ≠ 0 → r = ([], chk N l)) ∧ (r.2 ≠ 0 → r.1 = []) := by
  unfold graph_Order.f papermillref10_Order.f
  by_cases c : chk N l = 0
  · have hF := chk_fit c
    have h1 := hF.1
    have h2 := hF.2.1
    obtain ⟨r, a, b, hlen, hz⟩ := order_both l N N.toNat hF (by omega) N.toNat (List.replicate N.toNat false) [] (by simp) (by simp)
    refine ⟨r, Ev.bind (check_eq N l hl) ?_, Ev.bind (rcheck_eq N l hl) ?_, by omega, fun h => absurd c h, fun h => by rcases hz with h0 | h0; exact absurd h0 h; exact h0.2⟩
    · exact Ev.pos c a
    · exact Ev.pos c (Ev.pos h1 (Ev.pos (by omega) b))
  · refine ⟨([], chk N l), Ev.bind (check_eq N l hl) (Ev.neg c (Ev.c rfl)), Ev.bind (rcheck_eq N l hl) (Ev.neg c (Ev.c rfl)), by simp, fun _ => rfl, fun _ => rfl⟩
end Go.Proofs.Ytaldnhlojllanaa.Pl
