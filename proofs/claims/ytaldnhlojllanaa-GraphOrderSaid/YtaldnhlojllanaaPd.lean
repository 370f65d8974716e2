/- Plain laws on distances: what far's rounds come to, for every graph that passes the check. -/
import Derived.Test.YtaldnhlojllanaaPf
namespace Go.Proofs.Ytaldnhlojllanaa.Pl
open Go.RowKit Go.Proofs.Ytaldnhlojllanaa.Opn Go.Proofs.Ytaldnhlojllanaa.Q Go.Proofs.Ytaldnhlojllanaa.Gd Go.Proofs.YtaldnhlojllanaaW.PrintWords

/-- The distances before round s. -/
structure FInv (l : List S42) (n dst : Nat) (s : Int) (d : List Int) : Prop where
  len : d.length = n
  rng : ∀ v, v < n → -1 ≤ lv d v ∧ lv d v ≤ s
  here : lv d dst = 0
  zero : ∀ v, v < n → lv d v = 0 → v = dst
  down : ∀ v, v < n → 0 < lv d v → ∃ x ∈ l, x.f0.toNat = v ∧ lv d x.f1.toNat = lv d v - 1
  up : ∀ x ∈ l, 0 ≤ lv d x.f1.toNat → lv d x.f1.toNat < s → 0 ≤ lv d x.f0.toNat ∧ lv d x.f0.toNat ≤ lv d x.f1.toNat + 1
structure FMid (l : List S42) (n : Nat) (s : Int) (d0 : List Int) (pre : List S42) (d : List Int) : Prop where
  len : d.length = n
  chg : ∀ v, v < n → lv d v = lv d0 v ∨ (lv d0 v < 0 ∧ lv d v = s + 1 ∧ ∃ x ∈ l, x.f0.toNat = v ∧ lv d0 x.f1.toNat = s)
  done : ∀ x ∈ pre, lv d0 x.f1.toNat = s → 0 ≤ lv d x.f0.toNat
theorem ffold_mid (l : List S42) (N : Int) (n : Nat) (s : Int) (hs : 0 ≤ s) (d0 : List Int) (hF : Fit N l) (hN : N = (n : Int)) : ∀ (post pre : List S42) (d : List Int), l = pre ++ post → FMid l n s d0 pre d → FMid l n s d0 l (post.foldl (fstep s) d) := by
  intro post
  induction post with
  | nil =>
    intro pre d h hM
    have e : pre = l := by rw [h]; simp
    rw [e] at hM
    exact hM
  | cons x post ih =>
    intro pre d h hM
    have hxm := mem_at h
    have hx := hF.2.2.2 x hxm
    have hlen := hM.len
    have c1 := hM.chg x.f1.toNat (by omega)
    have c0 := hM.chg x.f0.toNat (by omega)
    rw [List.foldl_cons]
    by_cases h1 : lv d x.f1.toNat = s
    · have h1' : lv d0 x.f1.toNat = s := by rcases c1 with c1 | ⟨c1, c2, _⟩ <;> omega
      by_cases h2 : lv d x.f0.toNat < 0
      · have ef : fstep s d x = d.set x.f0.toNat (s + 1) := by unfold fstep; rw [if_pos h1, if_pos h2]
        rw [ef]
        refine ih (pre ++ [x]) _ (app_one h) ⟨by rw [List.length_set]; exact hlen, fun v hv => ?_, fun y hy hy1 => ?_⟩
        · rw [lv_set (by omega)]
          split
          · rename_i e; subst e
            right
            exact ⟨by rcases c0 with c0 | ⟨c0, c2, _⟩ <;> omega, rfl, x, hxm, rfl, h1'⟩
          · exact hM.chg v hv
        · rw [lv_set (by omega)]
          split
          · omega
          · rename_i hne
            rcases List.mem_append.1 hy with hy | hy
            · exact hM.done y hy hy1
            · rw [List.mem_singleton] at hy; subst hy; exact absurd rfl hne
      · have ef : fstep s d x = d := by unfold fstep; rw [if_pos h1, if_neg h2]
        rw [ef]
        refine ih (pre ++ [x]) _ (app_one h) ⟨hlen, hM.chg, fun y hy hy1 => ?_⟩
        rcases List.mem_append.1 hy with hy | hy
        · exact hM.done y hy hy1
        · rw [List.mem_singleton] at hy; subst hy; omega
    · have ef : fstep s d x = d := by unfold fstep; rw [if_neg h1]
      rw [ef]
      refine ih (pre ++ [x]) _ (app_one h) ⟨hlen, hM.chg, fun y hy hy1 => ?_⟩
      rcases List.mem_append.1 hy with hy | hy
      · exact hM.done y hy hy1
      · rw [List.mem_singleton] at hy; subst hy
        exfalso
        rcases c1 with c1 | ⟨c1, _, _⟩ <;> omega
theorem FInv.next {l : List S42} {N : Int} {n dst : Nat} {s : Int} {d : List Int} (hs : 0 ≤ s) (hF : Fit N l) (hN : N = (n : Int)) (hd : dst < n) (h : FInv l n dst s d) : FInv l n dst (s + 1) (l.foldl (fstep s) d) := by
  have hM := ffold_mid l N n s hs d hF hN l [] d rfl ⟨h.len, fun _ _ => Or.inl rfl, fun _ hx => absurd hx (by simp)⟩
  refine ⟨hM.len, fun v hv => ?_, ?_, fun v hv hz => ?_, fun v hv hp => ?_, fun x hx h0 h1 => ?_⟩
  · have := h.rng v hv
    rcases hM.chg v hv with c | ⟨_, c, _⟩ <;> omega
  · have := h.here
    rcases hM.chg dst hd with c | ⟨c, _, _⟩ <;> omega
  · rcases hM.chg v hv with c | ⟨_, c, _⟩
    · exact h.zero v hv (by omega)
    · omega
  · rcases hM.chg v hv with c | ⟨_, c, x, hx, hx0, hx1⟩
    · obtain ⟨x, hx, hx0, hx1⟩ := h.down v hv (by omega)
      have hxr := hF.2.2.2 x hx
      refine ⟨x, hx, hx0, ?_⟩
      rcases hM.chg x.f1.toNat (by omega) with c1 | ⟨c1, _, _⟩ <;> omega
    · have hxr := hF.2.2.2 x hx
      refine ⟨x, hx, hx0, ?_⟩
      rcases hM.chg x.f1.toNat (by omega) with c1 | ⟨c1, _, _⟩ <;> omega
  · have hxr := hF.2.2.2 x hx
    have r0 := h.rng x.f0.toNat (by omega)
    have r1 := h.rng x.f1.toNat (by omega)
    have c0 := hM.chg x.f0.toNat (by omega)
    rcases hM.chg x.f1.toNat (by omega) with c1 | ⟨_, c1, _⟩
    · rw [c1] at h0 h1 ⊢
      by_cases e : lv d x.f1.toNat = s
      · have := hM.done x hx e
        refine ⟨this, ?_⟩
        rcases c0 with c0 | ⟨_, c0, _⟩ <;> omega
      · have := h.up x hx h0 (by omega)
        rcases c0 with c0 | ⟨c0, _, _⟩ <;> omega
    · omega
theorem frun_inv (l : List S42) (N : Int) (n dst : Nat) (hF : Fit N l) (hN : N = (n : Int)) (hd : dst < n) : ∀ (m : Nat) (s : Int) (d : List Int), 0 ≤ s → FInv l n dst s d → FInv l n dst (s + m) (frun l m s d) := by
  intro m
  induction m with
  | zero => intro s d _ h; unfold frun; simpa using h
  | succ m ih =>
    intro s d hs h
    unfold frun
    have := ih (s + 1) _ (by omega) (h.next hs hF hN hd)
    rw [show s + 1 + (m : Int) = s + ((m + 1 : Nat) : Int) by omega] at this
    exact this
theorem lv_neg {n v : Nat} (h : v < n) : lv (List.replicate n (-1)) v = -1 := by
  unfold lv
  simp [List.getD_eq_getElem?_getD, h]
theorem FInv.start (l : List S42) (n dst : Nat) (hd : dst < n) : FInv l n dst 0 ((List.replicate n (-1)).set dst 0) := by
  have hv : ∀ v, v < n → lv ((List.replicate n (-1)).set dst 0) v = if dst = v then 0 else -1 := fun v h => by
    rw [lv_set (by simpa using hd), lv_neg h]
  refine ⟨by simp, fun v h => ?_, ?_, fun v h hz => ?_, fun v h hp => ?_, fun x _ h0 h1 => by omega⟩
  · rw [hv v h]; split <;> omega
  · rw [hv dst hd, if_pos rfl]
  · rw [hv v h] at hz; split at hz
    · rename_i e; exact e.symm
    · omega
  · rw [hv v h] at hp; split at hp <;> omega
/-- The distances to a node. -/
structure IsDist (l : List S42) (n dst : Nat) (d : List Int) : Prop where
  len : d.length = n
  rng : ∀ v, v < n → -1 ≤ lv d v ∧ lv d v < n
  here : lv d dst = 0
  zero : ∀ v, v < n → lv d v = 0 → v = dst
  down : ∀ v, v < n → 0 < lv d v → ∃ x ∈ l, x.f0.toNat = v ∧ lv d x.f1.toNat = lv d v - 1
  up : ∀ x ∈ l, 0 ≤ lv d x.f1.toNat → 0 ≤ lv d x.f0.toNat ∧ lv d x.f0.toNat ≤ lv d x.f1.toNat + 1
/-- The nodes at most so far. -/
def low (d : List Int) (k : Int) : List Bool := d.map fun a => decide (0 ≤ a ∧ a ≤ k)
theorem mkd_low {d : List Int} {k : Int} {v : Nat} : mkd (low d k) v ↔ v < d.length ∧ 0 ≤ lv d v ∧ lv d v ≤ k := by
  unfold mkd low lv
  simp only [List.getD_eq_getElem?_getD, List.getElem?_map]
  by_cases h : v < d.length
  · simp [h]
  · rw [List.getElem?_eq_none (by omega)]; simp [h]
theorem low_ct {l : List S42} {N : Int} {n dst : Nat} {s : Int} {d : List Int} (hF : Fit N l) (hN : N = (n : Int)) (h : FInv l n dst s d) : ∀ (k v : Nat), v < n → lv d v = (k : Int) → k + 1 ≤ ct (low d (k : Int)) := by
  intro k
  induction k with
  | zero =>
    intro v hv hk
    have h1 : ct ((List.replicate n false).set v true) ≤ ct (low d ((0 : Nat) : Int)) := ct_mono _ _ (by simp [low, h.len]) fun u hu => by
      rcases mk_of_set hu with rfl | hu
      · exact mkd_low.2 ⟨by rw [h.len]; exact hv, by omega, by omega⟩
      · exact absurd hu mk_rep
    rw [ct_set (by simpa using hv) mk_rep] at h1
    omega
  | succ k ih =>
    intro v hv hk
    obtain ⟨x, hx, _, hx1⟩ := h.down v hv (by omega)
    have hxr := hF.2.2.2 x hx
    have h0 := ih x.f1.toNat (by omega) (by omega)
    have hn : ¬ mkd (low d (k : Int)) v := fun hc => by have := mkd_low.1 hc; omega
    have h1 : ct ((low d (k : Int)).set v true) ≤ ct (low d ((k + 1 : Nat) : Int)) := ct_mono _ _ (by simp [low]) fun u hu => by
      rcases mk_of_set hu with rfl | hu
      · exact mkd_low.2 ⟨by rw [h.len]; exact hv, by omega, by omega⟩
      · have := mkd_low.1 hu
        exact mkd_low.2 ⟨this.1, by omega, by omega⟩
    rw [ct_set (by simp [low, h.len]; exact hv) hn] at h1
    omega
theorem farD_is (l : List S42) (N : Int) (n dst : Nat) (hF : Fit N l) (hN : N = (n : Int)) (hd : dst < n) : IsDist l n dst (farD l n dst) := by
  have h := frun_inv l N n dst hF hN hd n 0 _ (Int.le_refl _) (FInv.start l n dst hd)
  rw [Int.zero_add] at h
  have hlt : ∀ v, v < n → lv (farD l n dst) v < n := fun v hv => by
    by_cases c : 0 ≤ lv (farD l n dst) v
    · have h1 := low_ct hF hN h (lv (farD l n dst) v).toNat v hv (by rw [Int.toNat_of_nonneg c]; rfl)
      have h2 := ct_le (low (farD l n dst) ((lv (farD l n dst) v).toNat : Int))
      have h3 : (low (farD l n dst) ((lv (farD l n dst) v).toNat : Int)).length = n := by unfold low; rw [List.length_map]; exact h.len
      have h4 : (lv (farD l n dst) v).toNat + 1 ≤ n := Nat.le_trans h1 (Nat.le_trans h2 (Nat.le_of_eq h3))
      omega
    · omega
  exact ⟨h.len, fun v hv => ⟨(h.rng v hv).1, hlt v hv⟩, h.here, h.zero, h.down, fun x hx h0 => h.up x hx h0 (hlt _ (by have := hF.2.2.2 x hx; omega))⟩
theorem IsDist.path {l : List S42} {N : Int} {n dst : Nat} {d : List Int} (hF : Fit N l) (hN : N = (n : Int)) (h : IsDist l n dst d) {v : Nat} (hv : v < n) : 0 ≤ lv d v ↔ Path l v dst := by
  constructor
  · intro h0
    have key : ∀ (k v : Nat), v < n → lv d v = (k : Int) → Path l v dst := by
      intro k
      induction k with
      | zero =>
        intro v hv hk
        rw [h.zero v hv hk]
        exact Path.refl
      | succ k ih =>
        intro v hv hk
        obtain ⟨x, hx, hx0, hx1⟩ := h.down v hv (by omega)
        have hxr := hF.2.2.2 x hx
        exact (Path.one ⟨x, hx, hx0, rfl⟩).trans (ih x.f1.toNat (by omega) (by omega))
    exact key (lv d v).toNat v hv (by omega)
  · intro hp
    have key : ∀ u w, Path l u w → 0 ≤ lv d w → 0 ≤ lv d u := fun u w hp => by
      induction hp with
      | refl => exact id
      | step _ ha ih =>
        intro hw
        obtain ⟨x, hx, hx0, hx1⟩ := ha
        subst hx0; subst hx1
        exact ih (h.up x hx hw).1
    exact key v dst hp (by rw [h.here]; exact Int.le_refl _)
end Go.Proofs.Ytaldnhlojllanaa.Pl
