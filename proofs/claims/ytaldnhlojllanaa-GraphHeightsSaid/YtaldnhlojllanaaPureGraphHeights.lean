/- The plain law of GraphHeights: each arc leads up, each level above 0 is reached from the one below, for every graph. -/
import Derived.Test.YtaldnhlojllanaaPv
import Derived.Test.YtaldnhlojllanaaStGraphHeights
namespace Go.Proofs.Ytaldnhlojllanaa.Pure
open Go.RowKit Go.Proofs.Ytaldnhlojllanaa.Opn Go.Proofs.Ytaldnhlojllanaa.Q Go.Proofs.Ytaldnhlojllanaa.Gd Go.Proofs.YtaldnhlojllanaaW.PrintWords Go.Proofs.Ytaldnhlojllanaa.Pl
/-- The nodes that an arc lifts. -/
def Lif (L : List Int) (n : Nat) (pre : List S42) (b : List Bool) : Prop := b.length = n ∧ ∀ v, mkd b v ↔ ∃ x ∈ pre, x.f1.toNat = v ∧ lv L v = lv L x.f0.toNat + 1
theorem heights_l1 (l : List S42) (N : Int) (n : Nat) (hF : Fit N l) (hN : N = (n : Int)) (L : List Int) (hL : IsLev l n L) (b : List Bool) (hb : Lif L n l b) : ∀ (m j : Nat), j + m = n → Ev (fun k => papermilllaw10_GraphHeights.l1 k L b (j : Int) N l) true := by
  have h64 := hF.2.1
  have hl := hL.len
  intro m
  induction m with
  | zero =>
    intro j hj
    exact Ev.step (fun k => papermilllaw10_GraphHeights.l1.eq_2 ..) (Ev.neg (by omega) (Ev.bind awake_eq (Ev.c rfl)))
  | succ m ih =>
    intro j hj
    have ih := ih (j + 1) (by omega)
    have hr := hL.rng j (by omega)
    have e : rd L (j : Int) = lv L j := rfl
    have hbl := hb.1
    have hiff : mkd b j ↔ 0 < lv L j := by
      rw [hb.2]
      refine ⟨fun ⟨x, hx, _, h2⟩ => ?_, fun hp => ?_⟩
      · have hxr := hF.2.2.2 x hx
        have := hL.rng x.f0.toNat (by omega)
        omega
      · obtain ⟨x, hx, h1, h2⟩ := hL.from' j (by omega) hp
        exact ⟨x, hx, h1, h2⟩
    refine Ev.step (fun k => papermilllaw10_GraphHeights.l1.eq_2 ..) (Ev.pos (by omega) (Ev.pos (by omega) (Ev.pos (by omega) (Ev.neg (by rw [e]; omega) (Ev.pos (by omega) (Ev.neg ?_ ?_))))))
    · rw [e]
      have e2 : rdOf false b (j : Int) = decide (lv L j > 0) := by
        have : (rdOf false b (j : Int) = true) ↔ lv L j > 0 := hiff
        rw [Bool.eq_iff_iff, this]; simp
      rw [e2]; simp
    · rw [wrap_nat (n := n) (by omega) (by omega)]
      exact ih
theorem heights_l0 (l : List S42) (N : Int) (n : Nat) (hF : Fit N l) (hN : N = (n : Int)) (L : List Int) (hL : IsLev l n L) : ∀ (post pre : List S42) (b : List Bool), l = pre ++ post → Lif L n pre b → Ev (fun k => papermilllaw10_GraphHeights.l0 k L b (pre.length : Int) N l) true := by
  have h64 := hF.2.1
  have hll := hF.2.2.1
  have hl := hL.len
  intro post
  induction post with
  | nil =>
    intro pre b h hb
    have e : pre = l := by rw [h]; simp
    rw [e] at hb
    exact Ev.step (fun k => papermilllaw10_GraphHeights.l0.eq_2 ..) (Ev.neg (nlt_end h) (heights_l1 l N n hF hN L hL b hb n 0 (by omega)))
  | cons x post ih =>
    intro pre b h hb
    have e : rd_T42 l (pre.length : Int) = x := by rw [h]; exact rd42_at pre post x
    have hxm := mem_at h
    have hx := hF.2.2.2 x hxm
    have hup := hL.up x hxm
    have hbl := hb.1
    have r0 := hL.rng x.f0.toNat (by omega)
    have r1 := hL.rng x.f1.toNat (by omega)
    have e0 : rd L x.f0 = lv L x.f0.toNat := rfl
    have e1 : rd L x.f1 = lv L x.f1.toNat := rfl
    have hw : wrap64 (lv L x.f0.toNat + 1) = lv L x.f0.toNat + 1 := by unfold wrap64; omega
    refine Ev.step (fun k => papermilllaw10_GraphHeights.l0.eq_2 ..) (Ev.pos (lt_at h) (Ev.pos (by omega) ?_))
    rw [e, wrap_next h (by omega), e0, e1, hw]
    refine Ev.pos hx.1.1 (Ev.pos (by omega) (Ev.pos hx.2.1 (Ev.pos (by omega) (Ev.neg (by omega) ?_))))
    by_cases c : lv L x.f0.toNat + 1 = lv L x.f1.toNat
    · refine Ev.pos c (Ev.pos (by omega) (ih (pre ++ [x]) _ (app_one h) ⟨by rw [List.length_set]; exact hbl, fun v => ⟨fun hv => ?_, fun ⟨y, hy, h1, h2⟩ => ?_⟩⟩))
      · rcases mk_of_set hv with rfl | hv
        · exact ⟨x, by simp, rfl, c.symm⟩
        · obtain ⟨y, hy, h1, h2⟩ := (hb.2 v).1 hv
          exact ⟨y, List.mem_append_left _ hy, h1, h2⟩
      · rcases List.mem_append.1 hy with hy | hy
        · exact mk_set ((hb.2 v).2 ⟨y, hy, h1, h2⟩)
        · rw [List.mem_singleton] at hy
          subst hy
          rw [← h1]
          exact mk_set_self (by omega)
    · refine Ev.neg c (ih (pre ++ [x]) b (app_one h) ⟨hbl, fun v => ⟨fun hv => ?_, fun ⟨y, hy, h1, h2⟩ => ?_⟩⟩)
      · obtain ⟨y, hy, h1, h2⟩ := (hb.2 v).1 hv
        exact ⟨y, List.mem_append_left _ hy, h1, h2⟩
      · rcases List.mem_append.1 hy with hy | hy
        · exact (hb.2 v).2 ⟨y, hy, h1, h2⟩
        · rw [List.mem_singleton] at hy
          subst hy
          rw [← h1] at h2
          exact absurd h2.symm c
theorem GraphHeights : GraphHeights_Pure := by
  intro x0 _
  refine Ev.rounds ?_
  unfold papermilllaw10_GraphHeights.f
  refine Ev.sb (fun n => rfl) ?_
  by_cases c : (x0.f1.length : Int) > 600
  · exact Ev.pos (by simpa using c) (Ev.bind awake_eq (Ev.c rfl))
  refine Ev.neg (by simpa using c) (Ev.bind (rcheck_eq _ _ (by omega)) ?_)
  by_cases c1 : chk x0.f0 x0.f1 = 0
  · refine Ev.pos c1 ?_
    obtain ⟨r, o, h1, h2, h3, h4, _, h6⟩ := levels_spec x0.f0 x0.f1 (by omega)
    refine Ev.bind h1 (Ev.bind h2 ?_)
    have hF := chk_fit c1
    have hN := hF.1
    have h64 := hF.2.1
    by_cases c2 : o.2 = 0
    · obtain ⟨_, _, hL⟩ := h6 c2
      have hl := hL.len
      refine Ev.pos (by rw [h3]; exact c2) (Ev.pos c2 (Ev.pos (by omega) (Ev.pos hN (Ev.pos (by omega) ?_))))
      exact heights_l0 x0.f1 x0.f0 x0.f0.toNat hF (by omega) r.1 hL x0.f1 [] _ rfl ⟨by simp, fun v => ⟨fun h => absurd h mk_rep, fun ⟨y, hy, _⟩ => absurd hy (by simp)⟩⟩
    · exact Ev.neg (by rw [h3]; exact c2) (Ev.pos h3 (Ev.pos (by rw [h4 c2]; rfl) (Ev.bind awake_eq (Ev.c rfl))))
  · exact Ev.neg c1 (Ev.bind awake_eq (Ev.c rfl))
end Go.Proofs.Ytaldnhlojllanaa.Pure
