/- Plain laws on loadings: trucks of parcels' numbers, what they carry, for every list of truck numbers in the order of first use. -/
import Derived.Test.YtegilakgfoglpaaTa
import Derived.Test.YtegilakgfoglpaaQ5
namespace Go.Proofs.Ytegilakgfoglpaa.Pl
open Go.RowKit Go.Proofs.Ytegilakgfoglpaa.Opn Go.Proofs.Ytegilakgfoglpaa.Q Go.Proofs.Ytegilakgfoglpaa.Gd Go.Proofs.YtegilakgfoglpaaW.PrintWords

/-- How many trucks are used. -/
def nt (w : List Nat) : Nat := w.foldl (fun n k => max n (k + 1)) 0
theorem nt_snoc (w : List Nat) (k : Nat) : nt (w ++ [k]) = max (nt w) (k + 1) := by simp [nt, List.foldl_append]
theorem nt_nil : nt [] = 0 := rfl
/-- The parcels on a truck. -/
def row (w : List Nat) (k : Nat) : List Int := ((List.range w.length).filter fun p => decide (w.getD p 0 = k)).map fun (p : Nat) => (p : Int)
theorem row_snoc (w : List Nat) (x k : Nat) : row (w ++ [x]) k = if x = k then row w k ++ [(w.length : Int)] else row w k := by
  have h1 : ∀ p ∈ List.range w.length, decide ((w ++ [x]).getD p 0 = k) = decide (w.getD p 0 = k) := fun p hp => by
    have hp := List.mem_range.1 hp
    simp [List.getD_eq_getElem?_getD, List.getElem?_append_left hp]
  unfold row
  rw [List.length_append, List.length_singleton, List.range_succ, List.filter_append, List.filter_congr h1, List.map_append]
  by_cases c : x = k
  · rw [if_pos c]
    simp [c]
  · rw [if_neg c]
    simp [c]
theorem row_nil (k : Nat) : row [] k = [] := rfl
theorem mem_row {w : List Nat} {k : Nat} {p : Int} : p ∈ row w k ↔ 0 ≤ p ∧ p < (w.length : Int) ∧ w.getD p.toNat 0 = k := by
  unfold row
  simp only [List.mem_map, List.mem_filter, List.mem_range, decide_eq_true_eq]
  constructor
  · rintro ⟨q, ⟨h1, h2⟩, rfl⟩
    exact ⟨by omega, by omega, by rw [Int.toNat_natCast]; exact h2⟩
  · rintro ⟨h1, h2, h3⟩
    exact ⟨p.toNat, ⟨by omega, h3⟩, by omega⟩
theorem row_asc (w : List Nat) (k : Nat) : (row w k).Pairwise (· < ·) := by
  unfold row
  rw [List.pairwise_map]
  have : (List.range w.length).Pairwise (· < ·) := List.pairwise_lt_range
  exact (this.filter _).imp fun h => by omega
theorem row_len (w : List Nat) (k : Nat) : (row w k).length ≤ w.length := by
  unfold row
  rw [List.length_map]
  exact Nat.le_trans (List.length_filter_le _ _) (by simp)
theorem lt_nt {w : List Nat} {k : Nat} (hk : k ∈ w) : k < nt w := by
  have key : ∀ (w : List Nat) (n k : Nat), (k ∈ w ∨ k < n) → k < w.foldl (fun n k => max n (k + 1)) n := by
    intro w
    induction w with
    | nil => intro n k h; rcases h with h | h; · simp at h
             · exact h
    | cons x w ih =>
      intro n k h
      rw [List.foldl_cons]
      refine ih _ _ ?_
      rcases h with h | h
      · rcases List.mem_cons.1 h with rfl | h
        · exact Or.inr (by omega)
        · exact Or.inl h
      · exact Or.inr (by omega)
  exact key w 0 k (Or.inl hk)
theorem nt_le (w : List Nat) (n : Nat) (h : ∀ k ∈ w, k < n) : nt w ≤ n := by
  have key : ∀ (w : List Nat) (m : Nat), m ≤ n → (∀ k ∈ w, k < n) → w.foldl (fun n k => max n (k + 1)) m ≤ n := by
    intro w
    induction w with
    | nil => intro m hm _; exact hm
    | cons x w ih =>
      intro m hm hk
      rw [List.foldl_cons]
      exact ih _ (by have := hk x (by simp); omega) (fun k hk' => hk k (List.mem_cons_of_mem _ hk'))
  exact key w 0 (by omega) h
theorem row_over (w : List Nat) (k : Nat) (h : nt w ≤ k) : row w k = [] := by
  apply List.eq_nil_iff_forall_not_mem.2
  intro p hp
  obtain ⟨h1, h2, h3⟩ := mem_row.1 hp
  have hlt : p.toNat < w.length := by omega
  have : w.getD p.toNat 0 ∈ w := by rw [List.getD_eq_getElem?_getD, List.getElem?_eq_getElem hlt]; exact List.getElem_mem hlt
  have := lt_nt this
  omega
/-- The trucks. -/
def tk (w : List Nat) : List (List Int) := (List.range (nt w)).map (row w)
theorem tk_len (w : List Nat) : (tk w).length = nt w := by simp [tk]
theorem tk_at {w : List Nat} {k : Nat} (h : k < nt w) : (tk w).getD k [] = row w k := by simp [tk, List.getD_eq_getElem?_getD, h]
/-- A parcel more. -/
def addT (T : List (List Int)) (k : Nat) (p : Int) : List (List Int) := if k < T.length then T.set k (T.getD k [] ++ [p]) else T ++ [[p]]
theorem tk_snoc (w : List Nat) (k : Nat) (h : k ≤ nt w) : tk (w ++ [k]) = addT (tk w) k w.length := by
  unfold addT
  rw [tk_len]
  by_cases c : k < nt w
  · rw [if_pos c, tk_at c]
    apply List.ext_getElem
    · rw [List.length_set, tk_len, tk_len, nt_snoc]; omega
    · intro i h1 h2
      rw [List.getElem_set]
      simp only [tk, List.getElem_map, List.getElem_range]
      rw [row_snoc]
      by_cases e : k = i
      · subst e; simp
      · simp [e]
  · have hk : k = nt w := by omega
    rw [if_neg c]
    unfold tk
    have e1 : nt (w ++ [k]) = nt w + 1 := by rw [nt_snoc]; omega
    have e2 : (List.range (nt w)).map (row (w ++ [k])) = (List.range (nt w)).map (row w) := List.map_congr_left fun i hi => by
      have := List.mem_range.1 hi
      rw [row_snoc, if_neg (by omega)]
    have e3 : row (w ++ [k]) (nt w) = [(w.length : Int)] := by rw [row_snoc, if_pos hk, row_over w _ (Nat.le_refl _), List.nil_append]
    rw [e1, List.range_succ, List.map_append, List.map_singleton, e2, e3]
/-- Induction from the end. -/
theorem snocInd {α : Type} {P : List α → Prop} (h0 : P []) (h1 : ∀ w k, P w → P (w ++ [k])) (w : List α) : P w := by
  have key : ∀ v : List α, P v.reverse := by
    intro v
    induction v with
    | nil => exact h0
    | cons x v ih => rw [List.reverse_cons]; exact h1 _ _ ih
  have := key w.reverse
  rwa [List.reverse_reverse] at this
def wi (w : List Nat) : List Int := w.map fun (k : Nat) => (k : Int)
/-- Trucks are numbered in the order of their first parcels. -/
def Seq (w : List Nat) : Prop := ∀ pre k post, w = pre ++ k :: post → k ≤ nt pre
theorem Seq.init {w : List Nat} {k : Nat} (h : Seq (w ++ [k])) : Seq w := fun pre x post e => h pre x (post ++ [k]) (by rw [e]; simp)
theorem Seq.last {w : List Nat} {k : Nat} (h : Seq (w ++ [k])) : k ≤ nt w := h w k [] rfl
theorem Seq.snoc {w : List Nat} {k : Nat} (h : Seq w) (hk : k ≤ nt w) : Seq (w ++ [k]) := fun pre x post e => by
  rcases List.eq_nil_or_concat post with rfl | ⟨q, y, rfl⟩
  · have e2 : w ++ [k] = pre ++ [x] := e
    obtain ⟨h1, h2⟩ := List.append_inj' e2 rfl
    simp at h2
    rw [← h1, ← h2]; exact hk
  · have e2 : w ++ [k] = (pre ++ x :: q) ++ [y] := by rw [e]; simp
    obtain ⟨h1, _⟩ := List.append_inj' e2 rfl
    exact h pre x q h1
theorem nt_len {w : List Nat} : Seq w → nt w ≤ w.length :=
  snocInd (P := fun w => Seq w → nt w ≤ w.length) (fun _ => Nat.le_refl _) (fun w k ih h => by
    have := ih h.init
    have := h.last
    rw [nt_snoc, List.length_append, List.length_singleton]
    omega) w
theorem rdL_at (T : List (List Int)) (k : Nat) : rd_L2 T (k : Int) = T.getD k [] := by simp [rd_L2]
/-! ### Masses -/
def ms (l : List S39) (p : Int) : Int := (rd_T39 l p).f1
def tot (l : List S39) (r : List Int) : Int := (r.map (ms l)).sum
theorem tot_snoc (l : List S39) (r : List Int) (p : Int) : tot l (r ++ [p]) = tot l r + ms l p := by simp [tot, List.sum_append]
/-- Parcels as they pass. -/
def MsOk (most : Int) (l : List S39) : Prop := 1 ≤ most ∧ most ≤ 1099511627776 ∧ ∀ x ∈ l, 1 ≤ x.f1 ∧ x.f1 ≤ most
theorem ms_rng {most : Int} {l : List S39} (h : MsOk most l) {p : Int} (h0 : 0 ≤ p) (h1 : p < (l.length : Int)) : 1 ≤ ms l p ∧ ms l p ≤ most := by
  have hp : p.toNat < l.length := by omega
  have : ms l p = (l[p.toNat]).f1 := by unfold ms rd_T39; rw [List.getD_eq_getElem?_getD, List.getElem?_eq_getElem hp]; rfl
  rw [this]
  exact h.2.2 _ (List.getElem_mem hp)
theorem tot_rng {most : Int} {l : List S39} (h : MsOk most l) : ∀ (r : List Int), (∀ p ∈ r, 0 ≤ p ∧ p < (l.length : Int)) → 0 ≤ tot l r ∧ tot l r ≤ r.length * most
  | [], _ => by simp [tot]
  | p :: r, hr => by
    have h1 := tot_rng h r (fun q hq => hr q (List.mem_cons_of_mem _ hq))
    have h2 := ms_rng h (hr p (by simp)).1 (hr p (by simp)).2
    have e : tot l (p :: r) = ms l p + tot l r := by simp [tot]
    rw [e, List.length_cons]
    refine ⟨by omega, ?_⟩
    have : ((r.length + 1 : Nat) : Int) * most = r.length * most + most := by rw [Int.natCast_add, Int.add_mul]; simp
    omega
theorem tk_rows {w : List Nat} (hl : w.length ≤ 1000) : ∀ r ∈ tk w, r.length ≤ 1000 := fun r hr => by
  obtain ⟨k, _, rfl⟩ := List.mem_map.1 hr
  exact Nat.le_trans (row_len w k) hl
theorem get_lt {w : List Nat} {p : Nat} (h : p < w.length) : w.getD p 0 < nt w := lt_nt (by rw [List.getD_eq_getElem?_getD, List.getElem?_eq_getElem h]; exact List.getElem_mem h)
end Go.Proofs.Ytegilakgfoglpaa.Pl
