/- Plain laws on cycles: what the reference's Cycle returns, for every graph that passes the check. -/
import Derived.Test.YtaldnhlojllanaaPm
import Derived.Test.YtaldnhlojllanaaPg
import Derived.Test.YtaldnhlojllanaaQ7
import Derived.Test.YtaldnhlojllanaaQ6
import Derived.Test.YtaldnhlojllanaaQ7
namespace Go.Proofs.Ytaldnhlojllanaa.Pl
open Go.RowKit Go.Proofs.Ytaldnhlojllanaa.Opn Go.Proofs.Ytaldnhlojllanaa.Q Go.Proofs.Ytaldnhlojllanaa.Gd Go.Proofs.YtaldnhlojllanaaW.PrintWords

theorem rfar_l2 (l : List S42) (N : Int) (n : Nat) (hF : Fit N l) (hN : N = (n : Int)) (j : Nat) (hj : j < n) (r : List Int) : ∀ (post pre : List S42) (d : List Int), l = pre ++ post → d.length = n → Ev (fun k => papermillref10_far.l1 k (post.foldl (fstep (j : Int)) d) (wrap64 ((j : Int) + 1)) N l) r → Ev (fun k => papermillref10_far.l2 k d (j : Int) (pre.length : Int) N l) r := by
  have h64 := hF.2.1
  intro post
  induction post with
  | nil =>
    intro pre d h _ hk
    exact Ev.step (fun k => papermillref10_far.l2.eq_2 ..) (Ev.neg (nlt_end h) hk)
  | cons x post ih =>
    intro pre d h hd hk
    have e : rd_T42 l (pre.length : Int) = x := by rw [h]; exact rd42_at pre post x
    have hx := hF.2.2.2 x (mem_at h)
    have hl := hF.2.2.1
    rw [List.foldl_cons] at hk
    have ih := ih (pre ++ [x]) (fstep (j : Int) d x) (app_one h) (by rw [fstep_len]; exact hd) hk
    refine Ev.step (fun k => papermillref10_far.l2.eq_2 ..) (Ev.pos (lt_at h) (Ev.pos (by omega) ?_))
    rw [e, wrap_next h (by omega)]
    refine Ev.pos hx.2.1 (Ev.pos (by omega) ?_)
    have hw : wrap64 ((j : Int) + 1) = (j : Int) + 1 := by unfold wrap64; omega
    by_cases c1 : lv d x.f1.toNat = (j : Int)
    · by_cases c2 : lv d x.f0.toNat < 0
      · have ef : fstep (j : Int) d x = d.set x.f0.toNat ((j : Int) + 1) := by unfold fstep; rw [if_pos c1, if_pos c2]
        rw [ef] at ih
        refine Ev.pos c1 (Ev.pos hx.1.1 (Ev.pos (by omega) (Ev.pos c2 ?_)))
        rw [hw]
        exact ih
      · have ef : fstep (j : Int) d x = d := by unfold fstep; rw [if_pos c1, if_neg c2]
        rw [ef] at ih
        exact Ev.pos c1 (Ev.pos hx.1.1 (Ev.pos (by omega) (Ev.neg c2 ih)))
    · have ef : fstep (j : Int) d x = d := by unfold fstep; rw [if_neg c1]
      rw [ef] at ih
      exact Ev.neg c1 ih
theorem rfar_l1 (l : List S42) (N : Int) (n : Nat) (hF : Fit N l) (hN : N = (n : Int)) : ∀ (m j : Nat) (d : List Int), j + m = n → d.length = n → Ev (fun k => papermillref10_far.l1 k d (j : Int) N l) (frun l m (j : Int) d) := by
  have h64 := hF.2.1
  intro m
  induction m with
  | zero =>
    intro j d hj _
    exact Ev.step (fun k => papermillref10_far.l1.eq_2 ..) (Ev.neg (by omega) (Ev.c rfl))
  | succ m ih =>
    intro j d hj hd
    refine Ev.step (fun k => papermillref10_far.l1.eq_2 ..) (Ev.pos (by omega) (rfar_l2 l N n hF hN j (by omega) _ l [] d rfl hd ?_))
    rw [wrap_nat (n := n) (by omega) (by omega)]
    exact ih (j + 1) _ (by omega) (by rw [ffold_len]; exact hd)
theorem rfar_l0 (l : List S42) (N : Int) (n dst : Nat) (hF : Fit N l) (hN : N = (n : Int)) (ht : dst < n) : ∀ (m j : Nat) (d : List Int), j + m = n → d.length = n → (∀ i, i < j → lv d i = -1) → Ev (fun k => papermillref10_far.l0 k (dst : Int) d (j : Int) N l) (farD l n dst) := by
  have h64 := hF.2.1
  intro m
  induction m with
  | zero =>
    intro j d hj hd hi
    have e : d = List.replicate n (-1) := lv_ext' hd (by simp) fun v hv => by
      rw [hi v (by omega)]
      unfold lv
      simp [List.getD_eq_getElem?_getD, hv]
    subst e
    refine Ev.step (fun k => papermillref10_far.l0.eq_2 ..) (Ev.neg (by omega) (Ev.pos (by omega) (Ev.pos (by omega) ?_)))
    rw [Int.toNat_natCast]
    exact rfar_l1 l N n hF hN n 0 _ (by omega) (by simp)
  | succ m ih =>
    intro j d hj hd hi
    refine Ev.step (fun k => papermillref10_far.l0.eq_2 ..) (Ev.pos (by omega) (Ev.pos (by omega) (Ev.pos (by omega) ?_)))
    rw [wrap_nat (n := n) (by omega) (by omega), Int.toNat_natCast]
    refine ih (j + 1) _ (by omega) (by rw [List.length_set]; exact hd) fun i h => ?_
    rw [lv_set (by omega)]
    split
    · rfl
    · exact hi i (by omega)
theorem rfar_eq (l : List S42) (N : Int) (n dst : Nat) (hF : Fit N l) (hN : N = (n : Int)) (ht : dst < n) : Ev (fun k => papermillref10_far.f k N l (dst : Int)) (farD l n dst) := by
  have h64 := hF.2.1
  unfold papermillref10_far.f
  refine Ev.pos hF.1 (Ev.pos (by omega) ?_)
  have e : N.toNat = n := by omega
  rw [e]
  exact rfar_l0 l N n dst hF hN ht n 0 _ (by omega) (by simp) fun i h => absurd h (Nat.not_lt_zero _)

/-! ### The least number of arcs of a cycle -/
def rstep (d : List Int) (a : Int) (b : Int) (x : S42) : Int :=
  if x.f0 = a then (if lv d x.f1.toNat + 1 > 0 then (if b = 0 then lv d x.f1.toNat + 1 else (if lv d x.f1.toNat + 1 < b then lv d x.f1.toNat + 1 else b)) else b) else b
def RB (l : List S42) (d : List Int) (a r : Int) : Prop :=
  (r = 0 ∧ ∀ x ∈ l, x.f0 = a → lv d x.f1.toNat < 0) ∨ (0 < r ∧ (∃ x ∈ l, x.f0 = a ∧ lv d x.f1.toNat = r - 1) ∧ ∀ y ∈ l, y.f0 = a → 0 ≤ lv d y.f1.toNat → r - 1 ≤ lv d y.f1.toNat)
theorem RB.next {l : List S42} {d : List Int} {a b : Int} {x : S42} (h : RB l d a b) : RB (l ++ [x]) d a (rstep d a b x) := by
  have grow : ∀ {p : S42 → Prop}, (∀ y ∈ l, p y) → p x → ∀ y ∈ l ++ [x], p y := fun h1 h2 y hy => by
    rcases List.mem_append.1 hy with hy | hy
    · exact h1 y hy
    · rw [List.mem_singleton] at hy; subst hy; exact h2
  have keep : ∀ {r : Int}, (∃ y ∈ l, y.f0 = a ∧ lv d y.f1.toNat = r - 1) → ∃ y ∈ l ++ [x], y.f0 = a ∧ lv d y.f1.toNat = r - 1 := fun ⟨y, hy, h1⟩ => ⟨y, List.mem_append_left _ hy, h1⟩
  have new : x.f0 = a → ∃ y ∈ l ++ [x], y.f0 = a ∧ lv d y.f1.toNat = lv d x.f1.toNat + 1 - 1 := fun h1 => ⟨x, by simp, h1, by omega⟩
  unfold rstep
  by_cases c1 : x.f0 = a
  · rw [if_pos c1]
    by_cases c2 : lv d x.f1.toNat + 1 > 0
    · rw [if_pos c2]
      rcases h with ⟨rfl, h2⟩ | ⟨h1, h2, h3⟩
      · rw [if_pos rfl]
        refine Or.inr ⟨by omega, new c1, grow (fun y hy hy1 hy2 => ?_) fun _ _ => by omega⟩
        have := h2 y hy hy1
        omega
      · rw [if_neg (by omega)]
        by_cases c3 : lv d x.f1.toNat + 1 < b
        · rw [if_pos c3]
          refine Or.inr ⟨by omega, new c1, grow (fun y hy hy1 hy2 => ?_) fun _ _ => by omega⟩
          have := h3 y hy hy1 hy2
          omega
        · rw [if_neg c3]
          exact Or.inr ⟨h1, keep h2, grow h3 fun _ _ => by omega⟩
    · rw [if_neg c2]
      rcases h with ⟨rfl, h2⟩ | ⟨h1, h2, h3⟩
      · exact Or.inl ⟨rfl, grow h2 fun _ => by omega⟩
      · exact Or.inr ⟨h1, keep h2, grow h3 fun _ _ => by omega⟩
  · rw [if_neg c1]
    rcases h with ⟨rfl, h2⟩ | ⟨h1, h2, h3⟩
    · exact Or.inl ⟨rfl, grow h2 fun h => absurd h c1⟩
    · exact Or.inr ⟨h1, keep h2, grow h3 fun h => absurd h c1⟩
theorem round_l0 (l : List S42) (N : Int) (n : Nat) (hF : Fit N l) (hN : N = (n : Int)) (d : List Int) (hd : d.length = n) (hr : ∀ v, v < n → -1 ≤ lv d v ∧ lv d v < n) (a : Int) : ∀ (post pre : List S42) (b : Int), l = pre ++ post → RB pre d a b → ∃ r, Ev (fun k => papermillref10_round.l0 k a d b (pre.length : Int) N l) r ∧ RB l d a r := by
  have h64 := hF.2.1
  intro post
  induction post with
  | nil =>
    intro pre b h hb
    have e : pre = l := by rw [h]; simp
    exact ⟨b, Ev.step (fun k => papermillref10_round.l0.eq_2 ..) (Ev.neg (nlt_end h) (Ev.c rfl)), by rw [← e]; exact hb⟩
  | cons x post ih =>
    intro pre b h hb
    have e : rd_T42 l (pre.length : Int) = x := by rw [h]; exact rd42_at pre post x
    have hx := hF.2.2.2 x (mem_at h)
    have hl := hF.2.2.1
    have hlv := hr x.f1.toNat (by omega)
    obtain ⟨r, h1, h2⟩ := ih (pre ++ [x]) (rstep d a b x) (app_one h) hb.next
    refine ⟨r, Ev.step (fun k => papermillref10_round.l0.eq_2 ..) (Ev.pos (lt_at h) (Ev.pos (by omega) ?_)), h2⟩
    have hw : wrap64 (rd d x.f1 + 1) = lv d x.f1.toNat + 1 := by
      show wrap64 (lv d x.f1.toNat + 1) = _
      unfold wrap64
      omega
    rw [e, wrap_next h (by omega), hw]
    refine Ev.pos hx.2.1 (Ev.pos (by omega) ?_)
    by_cases c1 : x.f0 = a
    · refine Ev.pos c1 ?_
      by_cases c2 : lv d x.f1.toNat + 1 > 0
      · refine Ev.pos c2 ?_
        by_cases c3 : b = 0
        · have ef : rstep d a b x = lv d x.f1.toNat + 1 := by unfold rstep; rw [if_pos c1, if_pos c2, if_pos c3]
          rw [ef] at h1
          exact Ev.pos c3 h1
        · refine Ev.neg c3 ?_
          by_cases c4 : lv d x.f1.toNat + 1 < b
          · have ef : rstep d a b x = lv d x.f1.toNat + 1 := by unfold rstep; rw [if_pos c1, if_pos c2, if_neg c3, if_pos c4]
            rw [ef] at h1
            exact Ev.pos c4 h1
          · have ef : rstep d a b x = b := by unfold rstep; rw [if_pos c1, if_pos c2, if_neg c3, if_neg c4]
            rw [ef] at h1
            exact Ev.neg c4 h1
      · have ef : rstep d a b x = b := by unfold rstep; rw [if_pos c1, if_neg c2]
        rw [ef] at h1
        exact Ev.neg c2 h1
    · have ef : rstep d a b x = b := by unfold rstep; rw [if_neg c1]
      rw [ef] at h1
      exact Ev.neg c1 h1
theorem round_eq (l : List S42) (N : Int) (n v : Nat) (hF : Fit N l) (hN : N = (n : Int)) (hv : v < n) : ∃ r, Ev (fun k => papermillref10_round.f k N l (v : Int) (farD l n v)) r ∧ ((r = 0 ∧ ¬ OnCyc l v) ∨ (OnCyc l v ∧ r = lv (farD l n v) (pb l (farD l n v) v).toNat + 1)) := by
  have hD := farD_is l N n v hF hN hv
  obtain ⟨r, h1, h2⟩ := round_l0 l N n hF hN (farD l n v) hD.len hD.rng (v : Int) l [] 0 rfl (Or.inl ⟨rfl, fun _ h => absurd h (by simp)⟩)
  refine ⟨r, by unfold papermillref10_round.f; exact h1, ?_⟩
  have hp := pb_cyc hF hN hv
  rcases pb_spec hF (farD l n v) (v : Int) with ⟨p1, p2⟩ | ⟨⟨y, hy, hy0, hy1⟩, p2, p3, p4⟩
  · rcases h2 with ⟨rfl, _⟩ | ⟨k1, ⟨x, hx, hx0, hx1⟩, _⟩
    · exact Or.inl ⟨rfl, fun hc => by have := hp.2 hc; omega⟩
    · have := p2 x hx hx0
      omega
  · rcases h2 with ⟨rfl, k2⟩ | ⟨k1, ⟨x, hx, hx0, hx1⟩, k3⟩
    · have := k2 y hy hy0
      rw [hy1] at this
      omega
    · have e1 := k3 y hy hy0 (by rw [hy1]; exact p3)
      rw [hy1] at e1
      have e2 := p4 x hx hx0 (by omega)
      exact Or.inr ⟨hp.1 p2, by omega⟩

/-! ### The walk -/
theorem rd_last (o : List Int) (a : Int) : rd (o ++ [a]) (wrap64 (((o ++ [a]).length : Int) - 1)) = a ∨ ¬ (o ++ [a]).length < 1000 := by
  by_cases h : (o ++ [a]).length < 1000
  · left
    have hl : (o ++ [a]).length = o.length + 1 := by simp
    have hw : wrap64 (((o ++ [a]).length : Int) - 1) = (o.length : Int) := by unfold wrap64; omega
    rw [hw]
    unfold rd
    simp
  · exact Or.inr h
theorem rcyc_l2 (l : List S42) (N : Int) (n : Nat) (hF : Fit N l) (hN : N = (n : Int)) (d : List Int) (hd : d.length = n) (o : List Int) (a : Int) (ho : (o ++ [a]).length < 1000) (j : Int) (r : List Int × Int) : ∀ (post pre : List S42) (b : Int), l = pre ++ post →
    Ev (fun k => papermillref10_Cycle.l1 k d j ((o ++ [a]) ++ [post.foldl (nstep d a j) b]) N l) r → Ev (fun k => papermillref10_Cycle.l2 k d j (o ++ [a]) b (pre.length : Int) N l) r := by
  have hla : rd (o ++ [a]) (wrap64 (((o ++ [a]).length : Int) - 1)) = a := (rd_last o a).resolve_right (fun h => h ho)
  have hlen : (o ++ [a]).length = o.length + 1 := by simp
  have hw : wrap64 (((o ++ [a]).length : Int) - 1) = (o.length : Int) := by unfold wrap64; omega
  rw [hw] at hla
  generalize o ++ [a] = out at hla hlen hw ho ⊢
  intro post
  induction post with
  | nil =>
    intro pre b h hk
    exact Ev.step (fun k => papermillref10_Cycle.l2.eq_2 ..) (Ev.neg (nlt_end h) (Ev.pos (by omega) hk))
  | cons x post ih =>
    intro pre b h hk
    have e : rd_T42 l (pre.length : Int) = x := by rw [h]; exact rd42_at pre post x
    have hx := hF.2.2.2 x (mem_at h)
    have hl := hF.2.2.1
    rw [List.foldl_cons] at hk
    have ih := ih (pre ++ [x]) (nstep d a j b x) (app_one h) hk
    refine Ev.step (fun k => papermillref10_Cycle.l2.eq_2 ..) (Ev.pos (lt_at h) (Ev.pos (by omega) ?_))
    rw [e, wrap_next h (by omega), hw, hla]
    refine Ev.pos (by omega) (Ev.pos (by omega) ?_)
    by_cases c1 : x.f0 = a
    · refine Ev.pos c1 (Ev.pos hx.2.1 (Ev.pos (by omega) ?_))
      by_cases c2 : lv d x.f1.toNat = j
      · refine Ev.pos c2 ?_
        by_cases c3 : b < 0
        · have ef : nstep d a j b x = x.f1 := by unfold nstep; rw [if_pos c1, if_pos c2, if_pos c3]
          rw [ef] at ih
          exact Ev.pos c3 ih
        · refine Ev.neg c3 ?_
          by_cases c4 : x.f1 < b
          · have ef : nstep d a j b x = x.f1 := by unfold nstep; rw [if_pos c1, if_pos c2, if_neg c3, if_pos c4]
            rw [ef] at ih
            exact Ev.pos c4 ih
          · have ef : nstep d a j b x = b := by unfold nstep; rw [if_pos c1, if_pos c2, if_neg c3, if_neg c4]
            rw [ef] at ih
            exact Ev.neg c4 ih
      · have ef : nstep d a j b x = b := by unfold nstep; rw [if_pos c1, if_neg c2]
        rw [ef] at ih
        exact Ev.neg c2 ih
    · have ef : nstep d a j b x = b := by unfold nstep; rw [if_neg c1]
      rw [ef] at ih
      exact Ev.neg c1 ih
/-- One node more: the reference has j + 1 arcs left. -/
theorem rcyc_l1 (l : List S42) (N : Int) (n : Nat) (hF : Fit N l) (hN : N = (n : Int)) (d : List Int) (hd : d.length = n) (o : List Int) (a : Int) (ho : (o ++ [a]).length < 1000) (j : Nat) (hj : j < 1000) (hj0 : 0 < j) (r : List Int × Int)
    (hk : Ev (fun k => papermillref10_Cycle.l1 k d (j : Int) ((o ++ [a]) ++ [nx l d a (j : Int)]) N l) r) : Ev (fun k => papermillref10_Cycle.l1 k d ((j + 1 : Nat) : Int) (o ++ [a]) N l) r := by
  refine Ev.step (fun k => papermillref10_Cycle.l1.eq_2 ..) (Ev.pos (by omega) ?_)
  have hw : wrap64 (((j + 1 : Nat) : Int) - 1) = (j : Int) := by unfold wrap64; omega
  rw [hw]
  exact rcyc_l2 l N n hF hN d hd o a ho (j : Int) r l [] (-1) rfl hk
theorem rcyc_walk (l : List S42) (N : Int) (n v : Nat) (hF : Fit N l) (hN : N = (n : Int)) (hv : v < n) : ∀ (k : Nat) (a : Int) (o : List Int), 0 ≤ a → a < n → lv (farD l n v) a.toNat = ((k + 1 : Nat) : Int) → o.length + k < 900 →
    Ev (fun q => papermillref10_Cycle.l1 q (farD l n v) ((k + 1 : Nat) : Int) (o ++ [a]) N l) (o ++ down l (farD l n v) (k + 1) a, 0) := by
  have hD := farD_is l N n v hF hN hv
  intro k
  induction k with
  | zero =>
    intro a o h0 h1 hk ho
    exact Ev.step (fun k => papermillref10_Cycle.l1.eq_2 ..) (Ev.neg (by omega) (Ev.c rfl))
  | succ k ih =>
    intro a o h0 h1 hk ho
    obtain ⟨e1, e2, e3, e4, _⟩ := hD.follow hF hN h0 h1 hk
    refine rcyc_l1 l N n hF hN _ hD.len o a (by simp; omega) (k + 1) (by omega) (by omega) _ ?_
    have := ih (nx l (farD l n v) a ((k + 1 : Nat) : Int)) (o ++ [a]) e2 e3 e4 (by rw [List.length_append, List.length_singleton]; omega)
    rw [List.append_assoc o [a] (down _ _ _ _)] at this
    exact this
theorem rcyc_l0 (l : List S42) (N : Int) (n : Nat) (hF : Fit N l) (hN : N = (n : Int)) : ∀ (m j : Nat), j + m = n → (∀ u, u < j → ¬ OnCyc l u) → ∃ r, Ev (fun k => papermillref10_Cycle.l0 k (j : Int) N l) r ∧ CycR l n r := by
  have h64 := hF.2.1
  intro m
  induction m with
  | zero =>
    intro j hj hno
    exact ⟨([], 7), Ev.step (fun k => papermillref10_Cycle.l0.eq_2 ..) (Ev.neg (by omega) (Ev.c rfl)), Or.inl ⟨rfl, fun u hu => hno u (by omega)⟩⟩
  | succ m ih =>
    intro j hj hno
    have hv : j < n := by omega
    have hD := farD_is l N n j hF hN hv
    have hp := pb_cyc hF hN hv
    obtain ⟨q, hq, ⟨rfl, c⟩ | ⟨c, hq1⟩⟩ := round_eq l N n j hF hN hv
    · obtain ⟨r, hr, hR⟩ := ih (j + 1) (by omega) (fun u hu => by
        by_cases e : u = j
        · rw [e]; exact c
        · exact hno u (by omega))
      refine ⟨r, Ev.step (fun k => papermillref10_Cycle.l0.eq_2 ..) (Ev.pos (by omega) (Ev.bind (rfar_eq l N n j hF hN hv) (Ev.bind hq (Ev.pos rfl ?_)))), hR⟩
      rw [wrap_nat (n := n) (by omega) (by omega)]
      exact hr
    · have h0 := hp.2 c
      have hr := pb_rng hF hN hv h0
      refine ⟨(cyc l n j, 0), Ev.step (fun k => papermillref10_Cycle.l0.eq_2 ..) (Ev.pos (by omega) (Ev.bind (rfar_eq l N n j hF hN hv) (Ev.bind hq (Ev.neg (by omega) ?_)))), Or.inr ⟨j, hv, c, hno, rfl⟩⟩
      unfold cyc
      obtain ⟨k, hk⟩ : ∃ k : Nat, lv (farD l n j) (pb l (farD l n j) j).toNat = (k : Int) := ⟨_, (Int.toNat_of_nonneg hr.2.1).symm⟩
      rw [hk] at hq1
      subst hq1
      cases k with
      | zero =>
        rw [hk]
        exact Ev.step (fun k => papermillref10_Cycle.l1.eq_2 ..) (Ev.neg (by omega) (Ev.c rfl))
      | succ k =>
        have hnx : nx l (farD l n j) j ((k + 1 : Nat) : Int) = pb l (farD l n j) j := by
          have h := (pb_spec hF (farD l n j) (j : Int)).toNB h0
          rw [hk] at h
          exact (nx_spec hF _ _ _).uniq h
        have hw := rcyc_walk l N n j hF hN hv k (pb l (farD l n j) j) [(j : Int)] h0 hr.1 hk (by simp; omega)
        rw [hk, Int.toNat_natCast]
        refine rcyc_l1 l N n hF hN _ hD.len [] (j : Int) (by simp) (k + 1) (by omega) (by omega) _ ?_
        rw [hnx]
        exact hw
theorem rcycle_eq (N : Int) (l : List S42) (hl : l.length ≤ 9223372036854775807) : ∃ r, Ev (fun k => papermillref10_Cycle.f k N l) r ∧ ((chk N l ≠ 0 ∧ r = ([], chk N l)) ∨ (chk N l = 0 ∧ CycR l N.toNat r)) := by
  by_cases c : chk N l = 0
  · have hF := chk_fit c
    have h1 := hF.1
    obtain ⟨r, hr, hR⟩ := rcyc_l0 l N N.toNat hF (by omega) N.toNat 0 (by omega) (fun u hu => absurd hu (Nat.not_lt_zero _))
    refine ⟨r, ?_, Or.inr ⟨c, hR⟩⟩
    unfold papermillref10_Cycle.f
    exact Ev.bind (rcheck_eq N l hl) (Ev.pos c hr)
  · refine ⟨_, ?_, Or.inl ⟨c, rfl⟩⟩
    unfold papermillref10_Cycle.f
    exact Ev.bind (rcheck_eq N l hl) (Ev.neg c (Ev.c rfl))
theorem cycR_len {l : List S42} {N : Int} {n : Nat} {r : List Int × Int} (hF : Fit N l) (hN : N = (n : Int)) (h : CycR l n r) : r.1.length ≤ n := by
  rcases h with ⟨rfl, _⟩ | ⟨v, h1, h2, _, rfl⟩
  · simp
  · have h0 := (pb_cyc hF hN h1).2 h2
    have hr := pb_rng hF hN h1 h0
    show (cyc l n v).length ≤ n
    unfold cyc
    rw [List.length_cons, down_len]
    omega
end Go.Proofs.Ytaldnhlojllanaa.Pl
