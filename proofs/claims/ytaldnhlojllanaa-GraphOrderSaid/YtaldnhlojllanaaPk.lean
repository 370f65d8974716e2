/- Plain laws on the least cycle: its arcs lead round, its nodes differ, the first one is the least, for every graph that passes the check. -/
import Derived.Test.YtaldnhlojllanaaPe
namespace Go.Proofs.Ytaldnhlojllanaa.Pl
open Go.RowKit Go.Proofs.Ytaldnhlojllanaa.Opn Go.Proofs.Ytaldnhlojllanaa.Q Go.Proofs.Ytaldnhlojllanaa.Gd Go.Proofs.YtaldnhlojllanaaW.PrintWords

def ArcI (l : List S42) (a b : Int) : Prop := ∃ x ∈ l, x.f0 = a ∧ x.f1 = b
theorem arcI_of {l : List S42} {N : Int} (hF : Fit N l) {a b : Int} (ha : 0 ≤ a) (hb : 0 ≤ b) (h : Arc l a.toNat b.toNat) : ArcI l a b := by
  obtain ⟨x, hx, h0, h1⟩ := h
  have := hF.2.2.2 x hx
  exact ⟨x, hx, by omega, by omega⟩
theorem arc_ofI {l : List S42} {a b : Int} (h : ArcI l a b) : Arc l a.toNat b.toNat := by
  obtain ⟨x, hx, h0, h1⟩ := h
  exact ⟨x, hx, by rw [h0], by rw [h1]⟩
/-- A way down to a node: k arcs. -/
structure Way (l : List S42) (n v : Nat) (d : List Int) (k : Nat) (D : List Int) : Prop where
  len : D.length = k
  rng : ∀ i, i < k → 0 ≤ lv D i ∧ lv D i < n
  off : ∀ i, i < k → lv d (lv D i).toNat = (k : Int) - i
  arcs : ∀ i, i + 1 < k → ArcI l (lv D i) (lv D (i + 1))
  last : ∀ i, i + 1 = k → ArcI l (lv D i) v
theorem lv_cons (a : Int) (D : List Int) (i : Nat) : lv (a :: D) (i + 1) = lv D i := by simp [lv]
theorem lv_zero (a : Int) (D : List Int) : lv (a :: D) 0 = a := by simp [lv]
theorem down_way (l : List S42) (N : Int) (n v : Nat) (hF : Fit N l) (hN : N = (n : Int)) (hv : v < n) : ∀ (k : Nat) (a : Int), 0 ≤ a → a < n → lv (farD l n v) a.toNat = ((k + 1 : Nat) : Int) → Way l n v (farD l n v) (k + 1) (down l (farD l n v) (k + 1) a) := by
  have hD := farD_is l N n v hF hN hv
  intro k
  induction k with
  | zero =>
    intro a h0 h1 hk
    obtain ⟨e1, e2, e3, e4, e5⟩ := hD.follow hF hN h0 h1 hk
    have hz := hD.zero _ (by omega) e4
    refine ⟨rfl, fun i hi => ?_, fun i hi => ?_, fun i hi => by omega, fun i hi => ?_⟩
    · obtain rfl : i = 0 := by omega
      exact ⟨h0, h1⟩
    · obtain rfl : i = 0 := by omega
      show lv (farD l n v) a.toNat = _
      rw [hk]; rfl
    · obtain rfl : i = 0 := by omega
      have := arcI_of hF h0 e2 e5
      show ArcI l a v
      rwa [show nx l (farD l n v) a ((0 : Nat) : Int) = (v : Int) from by omega] at this
  | succ k ih =>
    intro a h0 h1 hk
    obtain ⟨e1, e2, e3, e4, e5⟩ := hD.follow hF hN h0 h1 hk
    have hW := ih _ e2 e3 e4
    have e6 := arcI_of hF h0 e2 e5
    rw [show down l (farD l n v) (k + 1 + 1) a = a :: down l (farD l n v) (k + 1) (nx l (farD l n v) a ((k + 1 : Nat) : Int)) from rfl]
    refine ⟨by rw [List.length_cons, down_len], fun i hi => ?_, fun i hi => ?_, fun i hi => ?_, fun i hi => ?_⟩
    · cases i with
      | zero => rw [lv_zero]; exact ⟨h0, h1⟩
      | succ i => rw [lv_cons]; exact hW.rng i (by omega)
    · cases i with
      | zero => rw [lv_zero, hk]; omega
      | succ i => rw [lv_cons, hW.off i (by omega)]; omega
    · cases i with
      | zero => rw [lv_zero, lv_cons]; exact e6
      | succ i => rw [lv_cons, lv_cons]; exact hW.arcs i (by omega)
    · cases i with
      | zero => omega
      | succ i => rw [lv_cons]; exact hW.last i (by omega)
/-- A cycle: its arcs lead round, its nodes differ, none is less than the first one. -/
structure IsCyc (l : List S42) (n : Nat) (c : List Int) : Prop where
  pos : 0 < c.length
  le : c.length ≤ n
  arcs : ∀ i, i + 1 < c.length → ArcI l (lv c i) (lv c (i + 1))
  last : ∀ i, i + 1 = c.length → ArcI l (lv c i) (lv c 0)
  least : ∀ i, i < c.length → lv c 0 ≤ lv c i
  apart : ∀ i j, i < j → j < c.length → lv c i ≠ lv c j
theorem cyc_is (l : List S42) (N : Int) (n v : Nat) (hF : Fit N l) (hN : N = (n : Int)) (hv : v < n) (hc : OnCyc l v) (hl : ∀ u, u < v → ¬ OnCyc l u) : IsCyc l n (cyc l n v) := by
  have hD := farD_is l N n v hF hN hv
  have h0 := (pb_cyc hF hN hv).2 hc
  have hr := pb_rng hF hN hv h0
  unfold cyc
  obtain ⟨m, hm⟩ : ∃ m : Nat, lv (farD l n v) (pb l (farD l n v) v).toNat = (m : Int) := ⟨_, (Int.toNat_of_nonneg hr.2.1).symm⟩
  have hab := arcI_of (a := (v : Int)) hF (by omega) h0 hr.2.2.2
  generalize pb l (farD l n v) v = b at h0 hr hm hab ⊢
  rw [hm, Int.toNat_natCast]
  cases m with
  | zero =>
    have hb : b = (v : Int) := by have := hD.zero _ (by omega) hm; omega
    subst hb
    refine ⟨by simp [down], by simp [down]; omega, fun i hi => ?_, fun i hi => ?_, fun i hi => ?_, fun i j hij hj => ?_⟩
    · simp [down] at hi
    · simp [down] at hi; subst hi; exact hab
    · simp [down] at hi; subst hi; exact Int.le_refl _
    · simp [down] at hj; omega
  | succ k =>
    have hW := down_way l N n v hF hN hv k b h0 hr.1 hm
    have hd0 : lv (down l (farD l n v) (k + 1) b) 0 = b := lv_zero _ _
    generalize down l (farD l n v) (k + 1) b = D at hW hd0 ⊢
    have hlen : ((v : Int) :: D).length = k + 2 := by rw [List.length_cons, hW.len]
    have harcs : ∀ i, i + 1 < k + 2 → ArcI l (lv ((v : Int) :: D) i) (lv ((v : Int) :: D) (i + 1)) := fun i hi => by
      cases i with
      | zero => rw [lv_zero, lv_cons, hd0]; exact hab
      | succ i => rw [lv_cons, lv_cons]; exact hW.arcs i (by omega)
    have hlast : ArcI l (lv D k) v := hW.last k rfl
    have hpath : ∀ i, i < k + 2 → Path l v (lv ((v : Int) :: D) i).toNat := fun i => by
      induction i with
      | zero => intro _; rw [lv_zero, Int.toNat_natCast]; exact Path.refl
      | succ i ih => intro hi; exact (ih (by omega)).step (arc_ofI (harcs i hi))
    have hback : ∀ i, i < k + 1 → Path l (lv D i).toNat v := fun i hi => by
      have h1 := hW.rng i hi
      refine (hD.path hF hN (by omega)).1 ?_
      rw [hW.off i hi]
      omega
    refine ⟨by omega, by have := hr.2.2.1; omega, fun i hi => harcs i (by omega), fun i hi => ?_, fun i hi => ?_, fun i j hij hj => ?_⟩
    · obtain rfl : i = k + 1 := by omega
      rw [lv_cons, lv_zero]
      exact hlast
    · cases i with
      | zero => exact Int.le_refl _
      | succ i =>
        have h1 := hW.rng i (by omega)
        have h2 := hpath (i + 1) (by omega)
        rw [lv_zero, lv_cons]
        rw [lv_cons] at h2
        have hon : OnCyc l (lv D i).toNat := by
          by_cases e : i = k
          · subst e
            refine ⟨v, ?_, h2⟩
            have := arc_ofI hlast
            rwa [Int.toNat_natCast] at this
          · exact ⟨(lv D (i + 1)).toNat, arc_ofI (hW.arcs i (by omega)), (hback (i + 1) (by omega)).trans h2⟩
        have : ¬ (lv D i).toNat < v := fun h => hl _ h hon
        omega
    · cases j with
      | zero => omega
      | succ j =>
        have hoj := hW.off j (by omega)
        rw [lv_cons]
        cases i with
        | zero =>
          rw [lv_zero]
          intro e
          rw [← e, Int.toNat_natCast, hD.here] at hoj
          omega
        | succ i =>
          rw [lv_cons]
          have hoi := hW.off i (by omega)
          intro e
          rw [e] at hoi
          omega
end Go.Proofs.Ytaldnhlojllanaa.Pl
