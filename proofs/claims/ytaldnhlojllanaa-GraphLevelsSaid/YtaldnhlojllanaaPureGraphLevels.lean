/- The plain law of GraphLevels: the levels of any graph, and the graph reversed, are the reference's, or the errors are. -/
import Derived.Test.YtaldnhlojllanaaPv
import Derived.Test.YtaldnhlojllanaaPc
import Derived.Test.YtaldnhlojllanaaPn
import Derived.Test.YtaldnhlojllanaaStGraphLevels
namespace Go.Proofs.Ytaldnhlojllanaa.Pure
open Go.RowKit Go.Proofs.Ytaldnhlojllanaa.Opn Go.Proofs.Ytaldnhlojllanaa.Q Go.Proofs.Ytaldnhlojllanaa.Gd Go.Proofs.YtaldnhlojllanaaW.PrintWords Go.Proofs.Ytaldnhlojllanaa.Pl
theorem rlevels_l1 (l : List S42) (N : Int) (n : Nat) (hF : Fit N l) (hN : N = (n : Int)) (H : List Int) (hH : IsLev l n H) (j : Int) : ∀ (post pre : List S42) (L : List Int), l = pre ++ post → L.length = n → (∀ v, v < n → 0 ≤ lv L v ∧ lv L v ≤ lv H v) → ∃ L' : List Int, L'.length = n ∧ (∀ v, v < n → lv L v ≤ lv L' v ∧ lv L' v ≤ lv H v) ∧ (∀ x ∈ post, lv L x.f0.toNat + 1 ≤ lv L' x.f1.toNat) ∧ ∀ r, Ev (fun k => papermillref10_Levels.l0 k L' (wrap64 (j + 1)) N l) r → Ev (fun k => papermillref10_Levels.l1 k L j (pre.length : Int) N l) r := by
  have h64 := hF.2.1
  intro post
  induction post with
  | nil =>
    intro pre L h hl hb
    exact ⟨L, hl, fun v hv => ⟨Int.le_refl _, (hb v hv).2⟩, fun _ hx => absurd hx (by simp), fun r hk => Ev.step (fun k => papermillref10_Levels.l1.eq_2 ..) (Ev.neg (nlt_end h) hk)⟩
  | cons x post ih =>
    intro pre L h hl hb
    have e : rd_T42 l (pre.length : Int) = x := by rw [h]; exact rd42_at pre post x
    have hxm := mem_at h
    have hx := hF.2.2.2 x hxm
    have hll := hF.2.2.1
    have hup := hH.up x hxm
    have h0 := hb x.f0.toNat (by omega)
    have h1 := hb x.f1.toNat (by omega)
    have r0 := hH.rng x.f0.toNat (by omega)
    have hw : mx (rd L x.f1) (wrap64 (rd L x.f0 + 1)) = if lv L x.f1.toNat ≤ lv L x.f0.toNat + 1 then lv L x.f0.toNat + 1 else lv L x.f1.toNat := by
      have e0 : rd L x.f0 = lv L x.f0.toNat := rfl
      have e1 : rd L x.f1 = lv L x.f1.toNat := rfl
      have : wrap64 (lv L x.f0.toNat + 1) = lv L x.f0.toNat + 1 := by unfold wrap64; omega
      rw [e0, e1, this, mx_eq]
    obtain ⟨a, ha⟩ : ∃ a, a = mx (rd L x.f1) (wrap64 (rd L x.f0 + 1)) := ⟨_, rfl⟩
    rw [← ha] at hw
    have hs : ∀ v, v < n → lv L v ≤ lv (L.set x.f1.toNat a) v ∧ lv (L.set x.f1.toNat a) v ≤ lv H v := fun v hv => by
      rw [lv_set (by omega)]
      have := hb v hv
      split
      · rename_i e2; subst e2; rw [hw]; split <;> omega
      · omega
    obtain ⟨L', g1, g2, g3, g4⟩ := ih (pre ++ [x]) (L.set x.f1.toNat a) (app_one h) (by rw [List.length_set]; exact hl) fun v hv => by have := hs v hv; have := hb v hv; omega
    refine ⟨L', g1, fun v hv => by have := g2 v hv; have := hs v hv; omega, fun y hy => ?_, fun r hk => ?_⟩
    · rcases List.mem_cons.1 hy with rfl | hy
      · have h3 := g2 y.f1.toNat (by omega)
        rw [lv_set (by omega), if_pos rfl] at h3
        rw [hw] at h3
        split at h3 <;> omega
      · have h3 := g3 y hy
        have hyr := hF.2.2.2 y (by rw [h]; simp [hy])
        have := hs y.f0.toNat (by omega)
        omega
    · refine Ev.step (fun k => papermillref10_Levels.l1.eq_2 ..) (Ev.pos (lt_at h) (Ev.pos (by omega) ?_))
      rw [e, wrap_next h (by omega), ← ha]
      exact Ev.pos hx.2.1 (Ev.pos (by omega) (Ev.pos hx.1.1 (Ev.pos (by omega) (g4 r hk))))
theorem lv_ext {L H : List Int} {n : Nat} (hl : L.length = n) (hh : H.length = n) (h : ∀ v, v < n → lv L v = lv H v) : L = H := by
  apply List.ext_getElem (by omega)
  intro i h1 h2
  have := h i (by omega)
  unfold lv at this
  simpa [List.getD_eq_getElem?_getD, h1, h2] using this
theorem rlevels_l0 (l : List S42) (N : Int) (n : Nat) (hF : Fit N l) (hN : N = (n : Int)) (H : List Int) (hH : IsLev l n H) : ∀ (m j : Nat) (L : List Int), j + m = n → L.length = n → (∀ v, v < n → 0 ≤ lv L v ∧ lv L v ≤ lv H v ∧ (lv H v ≤ lv L v ∨ (j : Int) ≤ lv L v)) → Ev (fun k => papermillref10_Levels.l0 k L (j : Int) N l) (H, 0) := by
  have h64 := hF.2.1
  intro m
  induction m with
  | zero =>
    intro j L hj hl hb
    have e : L = H := lv_ext hl hH.len fun v hv => by have := hb v hv; have := hH.rng v hv; omega
    exact Ev.step (fun k => papermillref10_Levels.l0.eq_2 ..) (Ev.neg (by omega) (Ev.c (by rw [e])))
  | succ m ih =>
    intro j L hj hl hb
    obtain ⟨L', g1, g2, g3, g4⟩ := rlevels_l1 l N n hF hN H hH (j : Int) l [] L rfl hl fun v hv => ⟨(hb v hv).1, (hb v hv).2.1⟩
    refine Ev.step (fun k => papermillref10_Levels.l0.eq_2 ..) (Ev.pos (by omega) (g4 _ ?_))
    rw [wrap_nat (n := n) (by omega) (by omega)]
    refine ih (j + 1) L' (by omega) g1 fun v hv => ?_
    have h1 := hb v hv
    have h2 := g2 v hv
    refine ⟨by omega, h2.2, ?_⟩
    by_cases c : 0 < lv H v
    · obtain ⟨x, hx, hx1, hx2⟩ := hH.from' v hv c
      have hxr := hF.2.2.2 x hx
      have h3 := g3 x hx
      have h4 := hb x.f0.toNat (by omega)
      rw [hx1] at h3
      omega
    · left; omega
theorem rreverse_l0 (N : Int) (l : List S42) (hl : l.length ≤ 512) : ∀ (post pre : List S42), l = pre ++ post → Ev (fun k => papermillref10_Reverse.l0 k (pre.length : Int) N l N (pre.map sw)) (N, l.map sw, 0) := by
  intro post
  induction post with
  | nil =>
    intro pre h
    have e : pre = l := by rw [h]; simp
    refine Ev.step (fun k => papermillref10_Reverse.l0.eq_2 ..) (Ev.neg (nlt_end h) (Ev.c (by rw [e])))
  | cons x post ih =>
    intro pre h
    have e : rd_T42 l (pre.length : Int) = x := by rw [h]; exact rd42_at pre post x
    have hlt := lt_at h
    refine Ev.step (fun k => papermillref10_Reverse.l0.eq_2 ..) (Ev.pos hlt (Ev.pos (by omega) (Ev.pos (by rw [List.length_map]; omega) ?_)))
    rw [e, wrap_next h (by omega)]
    have := ih (pre ++ [x]) (app_one h)
    rw [List.map_append] at this
    exact this
theorem rreverse_eq (N : Int) (l : List S42) (hl : l.length ≤ 9223372036854775807) : Ev (fun k => papermillref10_Reverse.f k N l) (if chk N l = 0 then (N, l.map sw, 0) else (0, [], chk N l)) := by
  unfold papermillref10_Reverse.f
  by_cases c : chk N l = 0
  · rw [if_pos c]
    exact Ev.bind (rcheck_eq N l hl) (Ev.pos c (rreverse_l0 N l (chk_fit c).2.2.1 l [] rfl))
  · rw [if_neg c]
    exact Ev.bind (rcheck_eq N l hl) (Ev.neg c (Ev.c rfl))
theorem rlevels_eq (N : Int) (l : List S42) (hl : l.length ≤ 9223372036854775807) : ∃ r, Ev (fun k => graph_Levels.f k N l) r ∧ Ev (fun k => papermillref10_Levels.f k N l) r ∧ r.1.length ≤ 64 := by
  obtain ⟨r, o, h1, h2, h3, h4, h5, h6⟩ := levels_spec N l hl
  obtain ⟨q, g1, g2, _⟩ := order_eq N l hl
  have hq := Ev.unique g1 h2
  subst hq
  refine ⟨r, h1, ?_, h5⟩
  unfold papermillref10_Levels.f
  refine Ev.bind g2 ?_
  by_cases c : q.2 = 0
  · obtain ⟨c1, _, hL⟩ := h6 c
    have hF := chk_fit c1
    have hN := hF.1
    have h64 := hF.2.1
    have := rlevels_l0 l N N.toNat hF (by omega) r.1 hL N.toNat 0 (List.replicate N.toNat 0) (by omega) (by simp) fun v hv => by
      have := hL.rng v hv
      rw [lv_rep]
      omega
    refine Ev.pos c (Ev.pos hN (Ev.pos (by omega) ?_))
    have e : r = (r.1, 0) := by rw [← c, ← h3]
    rw [e]
    exact this
  · have e : r = ([], q.2) := by rw [← h4 c, ← h3]
    exact Ev.neg c (Ev.c e.symm)
theorem GraphLevels : GraphLevels_Pure := by
  intro x0 _
  refine Ev.rounds ?_
  unfold papermilllaw10_GraphLevels.f
  refine Ev.sb (fun n => rfl) ?_
  by_cases c : (x0.f1.length : Int) > 600
  · exact Ev.pos (by simpa using c) (Ev.bind awake_eq (Ev.c rfl))
  have hl : x0.f1.length ≤ 9223372036854775807 := by omega
  obtain ⟨r, h1, h2, h3⟩ := rlevels_eq x0.f0 x0.f1 hl
  refine Ev.neg (by simpa using c) (Ev.bind h1 (Ev.bind h2 (Ev.bind (reverse_eq _ _ hl) (Ev.bind (rreverse_eq _ _ hl) (Ev.bind (ints_eq _ (by omega)) (Ev.pos rfl (Ev.pos rfl (Ev.bind (same_eq _ _ ?_) (Ev.pos rfl (Ev.pos rfl (Ev.bind awake_eq (Ev.c rfl))))))))))))
  split
  · show (x0.f1.map sw).length ≤ _
    rw [List.length_map]; exact hl
  · exact Nat.zero_le _
end Go.Proofs.Ytaldnhlojllanaa.Pure
