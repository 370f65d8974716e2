/- Plain laws on cycles: what graph.Cycle returns, for every graph that passes the check. -/
import Derived.Test.YtaldnhlojllanaaPe
import Derived.Test.YtaldnhlojllanaaQ3
namespace Go.Proofs.Ytaldnhlojllanaa.Pl
open Go.RowKit Go.Proofs.Ytaldnhlojllanaa.Opn Go.Proofs.Ytaldnhlojllanaa.Q Go.Proofs.Ytaldnhlojllanaa.Gd Go.Proofs.YtaldnhlojllanaaW.PrintWords

theorem cyc_l2 (l : List S42) (N : Int) (n : Nat) (hF : Fit N l) (hN : N = (n : Int)) (d : List Int) (hd : d.length = n) (out : List Int) (fi a : Int) (r : List Int × Int) : ∀ (post pre : List S42) (b : Int), l = pre ++ post → (b = -1 ∨ (0 ≤ b ∧ b < n)) →
    Ev (fun k => graph_Cycle.l2 k out fi d a (post.foldl (bstep d a) b) N fi l (l.length : Int) (l.length : Int) N l) r → Ev (fun k => graph_Cycle.l2 k out fi d a b N fi l (l.length : Int) (pre.length : Int) N l) r := by
  intro post
  induction post with
  | nil =>
    intro pre b h _ hk
    have e : pre = l := by rw [h]; simp
    rw [e]
    exact hk
  | cons x post ih =>
    intro pre b h hb hk
    have e : rd_T42 l (pre.length : Int) = x := by rw [h]; exact rd42_at pre post x
    have hx := hF.2.2.2 x (mem_at h)
    have hl := hF.2.2.1
    have hlt := lt_at h
    rw [List.foldl_cons] at hk
    have hb' : bstep d a b x = x.f1 ∨ bstep d a b x = b := by
      unfold bstep
      repeat' split
      all_goals first | exact Or.inl rfl | exact Or.inr rfl
    have ih := ih (pre ++ [x]) (bstep d a b x) (app_one h) (by rcases hb' with hb' | hb' <;> rw [hb'] <;> omega) hk
    refine Ev.step (fun k => graph_Cycle.l2.eq_2 ..) (Ev.pos hlt (Ev.pos (by omega) (Ev.pos hlt ?_)))
    rw [e, wrap_next h (by omega)]
    clear hk hb' e
    by_cases c1 : x.f0 = a
    · by_cases c2 : lv d x.f1.toNat ≥ 0
      · refine Ev.pos c1 (Ev.pos hx.2.1 (Ev.pos (by omega) (Ev.pos c2 ?_)))
        by_cases c3 : b < 0
        · have ef : bstep d a b x = x.f1 := by unfold bstep; rw [if_pos c1, if_pos c2, if_pos c3]
          rw [ef] at ih
          exact Ev.pos c3 ih
        · refine Ev.neg c3 (Ev.pos (by omega) (Ev.pos (by omega) ?_))
          by_cases c4 : lv d x.f1.toNat < lv d b.toNat
          · have ef : bstep d a b x = x.f1 := by unfold bstep; rw [if_pos c1, if_pos c2, if_neg c3, if_pos c4]
            rw [ef] at ih
            exact Ev.pos c4 ih
          · by_cases c5 : lv d x.f1.toNat = lv d b.toNat
            · by_cases c6 : x.f1 < b
              · have ef : bstep d a b x = x.f1 := by unfold bstep; rw [if_pos c1, if_pos c2, if_neg c3, if_neg c4, if_pos c5, if_pos c6]
                rw [ef] at ih
                exact Ev.neg c4 (Ev.pos c5 (Ev.pos c6 ih))
              · have ef : bstep d a b x = b := by unfold bstep; rw [if_pos c1, if_pos c2, if_neg c3, if_neg c4, if_pos c5, if_neg c6]
                rw [ef] at ih
                exact Ev.neg c4 (Ev.pos c5 (Ev.neg c6 ih))
            · have ef : bstep d a b x = b := by unfold bstep; rw [if_pos c1, if_pos c2, if_neg c3, if_neg c4, if_neg c5]
              rw [ef] at ih
              exact Ev.neg c4 (Ev.neg c5 ih)
      · have ef : bstep d a b x = b := by unfold bstep; rw [if_pos c1, if_neg c2]
        rw [ef] at ih
        exact Ev.pos c1 (Ev.pos hx.2.1 (Ev.pos (by omega) (Ev.neg c2 ih)))
    · have ef : bstep d a b x = b := by unfold bstep; rw [if_neg c1]
      rw [ef] at ih
      exact Ev.neg c1 ih
/-- One node: the search, and what follows on its answer. -/
theorem cyc_l1 (l : List S42) (N : Int) (n : Nat) (hF : Fit N l) (hN : N = (n : Int)) (d : List Int) (hd : d.length = n) (out : List Int) (ho : out.length < 1000) (fi a : Int) (r : List Int × Int)
    (hk : (pb l d a < 0 ∧ Ev (fun k => graph_Cycle.l0 k out N (wrap64 (fi + 1)) N l) r) ∨ (0 ≤ pb l d a ∧ pb l d a = fi ∧ (out ++ [a], 0) = r) ∨ (0 ≤ pb l d a ∧ pb l d a ≠ fi ∧ Ev (fun k => graph_Cycle.l1 k (out ++ [a]) fi d (pb l d a) N fi N l) r)) :
    Ev (fun k => graph_Cycle.l1 k out fi d a N fi N l) r := by
  refine Ev.step (fun k => graph_Cycle.l1.eq_2 ..) ?_
  refine cyc_l2 l N n hF hN d hd out fi a r l [] (-1) rfl (Or.inl rfl) ?_
  refine Ev.step (fun k => graph_Cycle.l2.eq_2 ..) (Ev.neg (by omega) ?_)
  rcases hk with ⟨h1, h2⟩ | ⟨h1, h2, h3⟩ | ⟨h1, h2, h3⟩
  · exact Ev.pos h1 h2
  · exact Ev.neg (by show ¬ pb l d a < 0; omega) (Ev.pos (by omega) (Ev.sb (fun _ => rfl) (Ev.pos h2 (Ev.neg (by simp; omega) (Ev.c h3)))))
  · exact Ev.neg (by show ¬ pb l d a < 0; omega) (Ev.pos (by omega) (Ev.sb (fun _ => rfl) (Ev.neg h2 h3)))
theorem cyc_walk (l : List S42) (N : Int) (n v : Nat) (hF : Fit N l) (hN : N = (n : Int)) (hv : v < n) : ∀ (k : Nat) (a : Int) (out : List Int), 0 ≤ a → a < n → lv (farD l n v) a.toNat = ((k + 1 : Nat) : Int) → out.length + k < 1000 →
    Ev (fun q => graph_Cycle.l1 q out (v : Int) (farD l n v) a N (v : Int) N l) (out ++ down l (farD l n v) (k + 1) a, 0) := by
  have hD := farD_is l N n v hF hN hv
  intro k
  induction k with
  | zero =>
    intro a out h0 h1 hk ho
    obtain ⟨e1, e2, e3, e4, _⟩ := hD.follow hF hN h0 h1 hk
    refine cyc_l1 l N n hF hN _ hD.len out (by omega) v a _ (Or.inr (Or.inl ⟨by rw [e1]; exact e2, ?_, rfl⟩))
    rw [e1]
    have := hD.zero _ (by omega) e4
    omega
  | succ k ih =>
    intro a out h0 h1 hk ho
    obtain ⟨e1, e2, e3, e4, _⟩ := hD.follow hF hN h0 h1 hk
    refine cyc_l1 l N n hF hN _ hD.len out (by omega) v a _ (Or.inr (Or.inr ⟨by rw [e1]; exact e2, ?_, ?_⟩))
    · rw [e1]
      intro hc
      rw [hc, Int.toNat_natCast, hD.here] at e4
      omega
    · rw [e1]
      have := ih (nx l (farD l n v) a ((k + 1 : Nat) : Int)) (out ++ [a]) e2 e3 e4 (by rw [List.length_append, List.length_singleton]; omega)
      rw [List.append_assoc] at this
      exact this
/-- What Cycle returns: the cycle from the least node that is on one, or the error. -/
def CycR (l : List S42) (n : Nat) (r : List Int × Int) : Prop := (r = ([], 7) ∧ ∀ u, u < n → ¬ OnCyc l u) ∨ ∃ v, v < n ∧ OnCyc l v ∧ (∀ u, u < v → ¬ OnCyc l u) ∧ r = (cyc l n v, 0)
theorem CycR.uniq {l : List S42} {n : Nat} {r r' : List Int × Int} (h : CycR l n r) (h' : CycR l n r') : r = r' := by
  rcases h with ⟨rfl, h2⟩ | ⟨v, h1, h2, h3, rfl⟩
  · rcases h' with ⟨rfl, _⟩ | ⟨v, k1, k2, _⟩
    · rfl
    · exact absurd k2 (h2 v k1)
  · rcases h' with ⟨rfl, k2⟩ | ⟨v', k1, k2, k3, rfl⟩
    · exact absurd h2 (k2 v h1)
    · have : v = v' := by
        rcases Nat.lt_trichotomy v v' with c | c | c
        · exact absurd h2 (k3 v c)
        · exact c
        · exact absurd k2 (h3 v' c)
      rw [this]
theorem cyc_l0 (l : List S42) (N : Int) (n : Nat) (hF : Fit N l) (hN : N = (n : Int)) : ∀ (m j : Nat), j + m = n → (∀ u, u < j → ¬ OnCyc l u) → ∃ r, Ev (fun k => graph_Cycle.l0 k [] N (j : Int) N l) r ∧ CycR l n r := by
  have h64 := hF.2.1
  intro m
  induction m with
  | zero =>
    intro j hj hno
    exact ⟨([], 7), Ev.step (fun k => graph_Cycle.l0.eq_2 ..) (Ev.neg (by omega) (Ev.pos rfl (Ev.c rfl))), Or.inl ⟨rfl, fun u hu => hno u (by omega)⟩⟩
  | succ m ih =>
    intro j hj hno
    have hv : j < n := by omega
    have hD := farD_is l N n j hF hN hv
    have hp := pb_cyc hF hN hv
    by_cases c : OnCyc l j
    · refine ⟨(cyc l n j, 0), Ev.step (fun k => graph_Cycle.l0.eq_2 ..) (Ev.pos (by omega) (Ev.bind (far_eq l N n j hF hN hv) ?_)), Or.inr ⟨j, hv, c, hno, rfl⟩⟩
      have h0 := hp.2 c
      have hr := pb_rng hF hN hv h0
      refine cyc_l1 l N n hF hN _ hD.len [] (by simp) j j _ (Or.inr ?_)
      by_cases e : pb l (farD l n j) j = j
      · refine Or.inl ⟨h0, e, ?_⟩
        unfold cyc
        rw [e, Int.toNat_natCast, hD.here]
        rfl
      · refine Or.inr ⟨h0, e, ?_⟩
        obtain ⟨k, hk⟩ : ∃ k : Nat, lv (farD l n j) (pb l (farD l n j) j).toNat = ((k + 1 : Nat) : Int) := by
          have hne : lv (farD l n j) (pb l (farD l n j) j).toNat ≠ 0 := fun hc => e (by have := hD.zero _ (by omega) hc; omega)
          exact ⟨(lv (farD l n j) (pb l (farD l n j) j).toNat).toNat - 1, by omega⟩
        have := cyc_walk l N n j hF hN hv k (pb l (farD l n j) j) [(j : Int)] h0 hr.1 hk (by simp; omega)
        unfold cyc
        rw [hk, Int.toNat_natCast]
        exact this
    · obtain ⟨r, hr, hR⟩ := ih (j + 1) (by omega) (fun u hu => by
        by_cases e : u = j
        · rw [e]; exact c
        · exact hno u (by omega))
      refine ⟨r, Ev.step (fun k => graph_Cycle.l0.eq_2 ..) (Ev.pos (by omega) (Ev.bind (far_eq l N n j hF hN hv) ?_)), hR⟩
      refine cyc_l1 l N n hF hN _ hD.len [] (by simp) j j _ (Or.inl ⟨by have := mt hp.1 c; omega, ?_⟩)
      rw [wrap_nat (n := n) (by omega) (by omega)]
      exact hr
theorem cycle_eq (N : Int) (l : List S42) (hl : l.length ≤ 9223372036854775807) : ∃ r, Ev (fun k => graph_Cycle.f k N l) r ∧ ((chk N l ≠ 0 ∧ r = ([], chk N l)) ∨ (chk N l = 0 ∧ CycR l N.toNat r)) := by
  by_cases c : chk N l = 0
  · have hF := chk_fit c
    have h1 := hF.1
    obtain ⟨r, hr, hR⟩ := cyc_l0 l N N.toNat hF (by omega) N.toNat 0 (by omega) (fun u hu => absurd hu (Nat.not_lt_zero _))
    refine ⟨r, ?_, Or.inr ⟨c, hR⟩⟩
    unfold graph_Cycle.f
    exact Ev.bind (check_eq N l hl) (Ev.pos c hr)
  · refine ⟨_, ?_, Or.inl ⟨c, rfl⟩⟩
    unfold graph_Cycle.f
    exact Ev.bind (check_eq N l hl) (Ev.neg c (Ev.c rfl))
end Go.Proofs.Ytaldnhlojllanaa.Pl
