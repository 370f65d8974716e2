/- Plain laws on first fit, for every list of parcels. -/
import Derived.Test.YtegilakgfoglpaaTb
import Derived.Test.YtegilakgfoglpaaQ6
namespace Go.Proofs.Ytegilakgfoglpaa.Pl
open Go.RowKit Go.Proofs.Ytegilakgfoglpaa.Opn Go.Proofs.Ytegilakgfoglpaa.Q Go.Proofs.Ytegilakgfoglpaa.Gd Go.Proofs.YtegilakgfoglpaaW.PrintWords

/-! ### The parcels' errors -/
def badP (x : S39) : Prop := x.f0 < 1 ∨ x.f0 > 1000000 ∨ x.f1 < 1 ∨ x.f1 > 1099511627776
instance (x : S39) : Decidable (badP x) := by unfold badP; exact inferInstance
def pE (most : Int) : List S39 → Int
  | [] => 0
  | x :: t => if badP x then 1 else if x.f1 > most then 38 else pE most t
def parE (l : List S39) (most many : Int) : Int := if most < 1 ∨ most > 1099511627776 then 1 else if (l.length : Int) > many then 8 else pE most l
theorem parE_ok {l : List S39} {most many : Int} (h : parE l most many = 0) : MsOk most l ∧ (l.length : Int) ≤ many := by
  unfold parE at h
  split at h
  · omega
  · rename_i c
    split at h
    · omega
    · rename_i d
      refine ⟨⟨by omega, by omega, ?_⟩, by omega⟩
      clear d
      induction l with
      | nil => intro x hx; simp at hx
      | cons y t ih =>
        unfold pE at h
        split at h
        · omega
        · rename_i hb
          split at h
          · omega
          · intro x hx
            unfold badP at hb
            rcases List.mem_cons.1 hx with rfl | hx
            · omega
            · exact ih h x hx
/-! ### Loadings that carry what they may -/
structure Canon (l : List S39) (most : Int) (w : List Nat) : Prop where
  seq : Seq w
  len : w.length ≤ l.length
  fit : ∀ k, k < nt w → tot l (row w k) ≤ most
/-- What each truck may still carry. -/
def fr (l : List S39) (most : Int) (w : List Nat) : List Int := (List.range (nt w)).map fun k => most - tot l (row w k)
theorem fr_len (l : List S39) (most : Int) (w : List Nat) : (fr l most w).length = nt w := by simp [fr]
theorem fr_at {l : List S39} {most : Int} {w : List Nat} {k : Nat} (h : k < nt w) : (fr l most w).getD k 0 = most - tot l (row w k) := by simp [fr, List.getD_eq_getElem?_getD, h]
theorem fr_old {l : List S39} {most : Int} {w : List Nat} {k : Nat} (h : k < nt w) : fr l most (w ++ [k]) = (fr l most w).set k (most - tot l (row w k) - ms l w.length) := by
  have e1 : nt (w ++ [k]) = nt w := by rw [nt_snoc]; omega
  apply List.ext_getElem
  · rw [List.length_set, fr_len, fr_len, e1]
  · intro i h1 h2
    rw [List.getElem_set]
    simp only [fr, List.getElem_map, List.getElem_range]
    rw [row_snoc]
    by_cases e : k = i
    · subst e; rw [if_pos rfl, if_pos rfl, tot_snoc]; omega
    · rw [if_neg e, if_neg e]
theorem fr_new {l : List S39} {most : Int} {w : List Nat} : fr l most (w ++ [nt w]) = fr l most w ++ [most - ms l w.length] := by
  have e1 : nt (w ++ [nt w]) = nt w + 1 := by rw [nt_snoc]; omega
  unfold fr
  have e2 : (List.range (nt w)).map (fun k => most - tot l (row (w ++ [nt w]) k)) = (List.range (nt w)).map (fun k => most - tot l (row w k)) := List.map_congr_left fun i hi => by
    have := List.mem_range.1 hi
    rw [row_snoc, if_neg (by omega)]
  rw [e1, List.range_succ, List.map_append, List.map_singleton, e2, row_snoc, if_pos rfl, row_over w _ (Nat.le_refl _)]
  simp [tot]
theorem row_in {l : List S39} {w : List Nat} (h : w.length ≤ l.length) (k : Nat) : ∀ p ∈ row w k, 0 ≤ p ∧ p < (l.length : Int) := fun p hp => by
  obtain ⟨h1, h2, _⟩ := mem_row.1 hp
  omega
theorem Canon.rng {l : List S39} {most : Int} {w : List Nat} (hm : MsOk most l) (h : Canon l most w) {k : Nat} (hk : k < nt w) : 0 ≤ tot l (row w k) ∧ tot l (row w k) ≤ most := ⟨(tot_rng hm _ (row_in h.len k)).1, h.fit k hk⟩
theorem Canon.old {l : List S39} {most : Int} {w : List Nat} (h : Canon l most w) (hl : w.length < l.length) {k : Nat} (hk : k < nt w) (hf : tot l (row w k) + ms l w.length ≤ most) : Canon l most (w ++ [k]) := by
  refine ⟨h.seq.snoc (by omega), by simp; omega, fun j hj => ?_⟩
  rw [nt_snoc] at hj
  rw [row_snoc]
  by_cases e : k = j
  · subst e; rw [if_pos rfl, tot_snoc]; exact hf
  · rw [if_neg e]; exact h.fit j (by omega)
theorem Canon.new {l : List S39} {most : Int} {w : List Nat} (hm : MsOk most l) (h : Canon l most w) (hl : w.length < l.length) : Canon l most (w ++ [nt w]) := by
  refine ⟨h.seq.snoc (Nat.le_refl _), by simp; omega, fun j hj => ?_⟩
  rw [nt_snoc] at hj
  rw [row_snoc]
  by_cases e : nt w = j
  · rw [if_pos e, tot_snoc, row_over w j (by omega)]
    have := (ms_rng hm (p := (w.length : Int)) (by omega) (by omega)).2
    simp [tot]; exact this
  · rw [if_neg e]; exact h.fit j (by omega)
theorem Canon.start (l : List S39) (most : Int) : Canon l most [] := ⟨fun pre k post h => by simp at h, by simp, fun k hk => by simp [nt] at hk⟩

/-! ### First fit -/
theorem idxI_shift {α : Type} (p : α → Bool) (x : α) (t : List α) : idxI p (x :: t) = if p x = true then 0 else (if idxI p t ≥ 0 then idxI p t + 1 else -1) := by
  unfold idxI
  rw [List.findIdx?_cons]
  cases p x with
  | true => rfl
  | false =>
    cases h : List.findIdx? p t with
    | none => rfl
    | some i => simp
theorem idxI_find {α : Type} (p : α → Bool) : ∀ l : List α, (idxI p l = (l.findIdx p : Int) ∧ l.findIdx p < l.length) ∨ (idxI p l = -1 ∧ l.findIdx p = l.length)
  | [] => Or.inr ⟨rfl, rfl⟩
  | x :: t => by
    rw [idxI_shift, List.findIdx_cons]
    cases hp : p x with
    | true => left; simp
    | false =>
      have e : (bif false then 0 else List.findIdx p t + 1) = List.findIdx p t + 1 := rfl
      rw [if_neg (by simp), e, List.length_cons]
      rcases idxI_find p t with ⟨h1, h2⟩ | ⟨h1, h2⟩
      · left
        rw [if_pos (by omega)]
        omega
      · right
        rw [if_neg (by omega)]
        omega
/-- The first truck that fits; a new one where none does. -/
def gk (l : List S39) (most : Int) (w : List Nat) : Nat := (fr l most w).findIdx (geB (ms l w.length))
theorem gk_le (l : List S39) (most : Int) (w : List Nat) : gk l most w ≤ nt w := by
  have := List.findIdx_le_length (p := geB (ms l w.length)) (xs := fr l most w)
  rw [fr_len] at this
  exact this
theorem gk_before {l : List S39} {most : Int} {w : List Nat} {k : Nat} (h : k < gk l most w) : most < tot l (row w k) + ms l w.length := by
  have hk : k < nt w := Nat.lt_of_lt_of_le h (gk_le l most w)
  have h1 := List.not_of_lt_findIdx h
  unfold geB at h1
  simp only [fr, List.getElem_map, List.getElem_range] at h1
  have := of_decide_eq_false h1
  omega
theorem gk_fits {l : List S39} {most : Int} {w : List Nat} (h : gk l most w < nt w) : tot l (row w (gk l most w)) + ms l w.length ≤ most := by
  have h0 : (fr l most w).findIdx (geB (ms l w.length)) < (fr l most w).length := by rw [fr_len]; exact h
  have h1 := List.findIdx_getElem (w := h0)
  unfold geB at h1
  simp only [fr, List.getElem_map, List.getElem_range, decide_eq_true_eq] at h1
  unfold gk fr geB
  omega
/-- The loading by first fit. -/
def gw (l : List S39) (most : Int) : Nat → List Nat → List Nat
  | 0, w => w
  | m + 1, w => gw l most m (w ++ [gk l most w])
/-- Any two trucks are together too heavy. -/
def Pairs (l : List S39) (most : Int) (w : List Nat) : Prop := ∀ i j, i < j → j < nt w → most < tot l (row w i) + tot l (row w j)
theorem g_step {l : List S39} {most : Int} (hm : MsOk most l) {w : List Nat} (h : Canon l most w) (hl : w.length < l.length) (hp : Pairs l most w) : Canon l most (w ++ [gk l most w]) ∧ Pairs l most (w ++ [gk l most w]) := by
  have hle := gk_le l most w
  have hms := ms_rng hm (p := (w.length : Int)) (by omega) (by omega)
  by_cases c : gk l most w < nt w
  · refine ⟨h.old hl c (gk_fits c), fun i j hij hj => ?_⟩
    rw [nt_snoc] at hj
    have h1 := hp i j hij (by omega)
    rw [row_snoc, row_snoc]
    split <;> split <;> (try simp only [tot_snoc]) <;> omega
  · have e : gk l most w = nt w := by omega
    rw [e]
    refine ⟨h.new hm hl, fun i j hij hj => ?_⟩
    rw [nt_snoc] at hj
    rw [row_snoc, row_snoc, if_neg (by omega)]
    by_cases d : nt w = j
    · rw [if_pos d, tot_snoc, row_over w j (by omega)]
      have := gk_before (l := l) (most := most) (w := w) (k := i) (by omega)
      have e0 : tot l [] = 0 := rfl
      rw [e0]
      omega
    · rw [if_neg d]; exact hp i j hij (by omega)
theorem gw_spec {l : List S39} {most : Int} (hm : MsOk most l) : ∀ (m : Nat) (w : List Nat), w.length + m = l.length → Canon l most w → Pairs l most w → Canon l most (gw l most m w) ∧ Pairs l most (gw l most m w) ∧ (gw l most m w).length = l.length
  | 0, w, e, h, hp => ⟨h, hp, by unfold gw; omega⟩
  | m + 1, w, e, h, hp => by
    have := g_step hm h (by omega) hp
    exact gw_spec hm m _ (by simp; omega) this.1 this.2
theorem tk_small {l : List S39} {most : Int} {w : List Nat} (h : Canon l most w) (hl : l.length ≤ 1000) : (tk w).length ≤ 1000 ∧ ∀ r ∈ tk w, r.length ≤ 1000 := by
  have := nt_len h.seq
  have := h.len
  exact ⟨by rw [tk_len]; omega, tk_rows (by omega)⟩
end Go.Proofs.Ytegilakgfoglpaa.Pl
