/- Plain laws on the least loading: all loadings in their order, for every list of parcels. -/
import Derived.Test.YtegilakgfoglpaaTc
namespace Go.Proofs.Ytegilakgfoglpaa.Pl
open Go.RowKit Go.Proofs.Ytegilakgfoglpaa.Opn Go.Proofs.Ytegilakgfoglpaa.Q Go.Proofs.Ytegilakgfoglpaa.Gd Go.Proofs.YtegilakgfoglpaaW.PrintWords

/-- All loadings that go on from one, in the order of the truck numbers. -/
def sol (l : List S39) (most : Int) : Nat → List Nat → List (List Nat)
  | 0, w => [w]
  | m + 1, w => (List.range (nt w + 1)).flatMap fun k => if tot l (row w k) + ms l w.length ≤ most then sol l most m (w ++ [k]) else []
theorem sol_sub {l : List S39} {most : Int} {m : Nat} {w : List Nat} {k : Nat} (hk : k ≤ nt w) (hf : tot l (row w k) + ms l w.length ≤ most) {v : List Nat} (hv : v ∈ sol l most m (w ++ [k])) : v ∈ sol l most (m + 1) w := by
  unfold sol
  rw [List.mem_flatMap]
  exact ⟨k, List.mem_range.2 (by omega), by rw [if_pos hf]; exact hv⟩
theorem fit_new {l : List S39} {most : Int} (hm : MsOk most l) {w : List Nat} (hl : w.length < l.length) : tot l (row w (nt w)) + ms l w.length ≤ most := by
  rw [row_over w _ (Nat.le_refl _)]
  have := (ms_rng hm (p := (w.length : Int)) (by omega) (by omega)).2
  simp [tot]; exact this
theorem Canon.next {l : List S39} {most : Int} (hm : MsOk most l) {w : List Nat} (h : Canon l most w) (hl : w.length < l.length) {k : Nat} (hk : k ≤ nt w) (hf : tot l (row w k) + ms l w.length ≤ most) : Canon l most (w ++ [k]) := by
  by_cases c : k < nt w
  · exact h.old hl c hf
  · have e : k = nt w := by omega
    rw [e]; exact h.new hm hl
theorem sol_mem {l : List S39} {most : Int} (hm : MsOk most l) : ∀ (m : Nat) (w : List Nat), w.length + m = l.length → Canon l most w → ∀ v ∈ sol l most m w, Canon l most v ∧ v.length = l.length ∧ nt w ≤ nt v ∧ ∃ t, v = w ++ t
  | 0, w, e, h, v, hv => by
    unfold sol at hv
    have := List.mem_singleton.1 hv
    subst this
    exact ⟨h, by omega, Nat.le_refl _, [], by simp⟩
  | m + 1, w, e, h, v, hv => by
    unfold sol at hv
    rw [List.mem_flatMap] at hv
    obtain ⟨k, hk, hv⟩ := hv
    have hk := List.mem_range.1 hk
    by_cases c : tot l (row w k) + ms l w.length ≤ most
    · rw [if_pos c] at hv
      obtain ⟨h1, h2, h3, t, h4⟩ := sol_mem hm m (w ++ [k]) (by simp; omega) (h.next hm (by omega) (by omega) c) v hv
      refine ⟨h1, h2, ?_, k :: t, by rw [h4]; simp⟩
      rw [nt_snoc] at h3; omega
    · rw [if_neg c] at hv; simp at hv
theorem gk_fit {l : List S39} {most : Int} (hm : MsOk most l) {w : List Nat} (hl : w.length < l.length) : tot l (row w (gk l most w)) + ms l w.length ≤ most := by
  by_cases c : gk l most w < nt w
  · exact gk_fits c
  · have e : gk l most w = nt w := by have := gk_le l most w; omega
    rw [e]; exact fit_new hm hl
theorem gw_sol {l : List S39} {most : Int} (hm : MsOk most l) : ∀ (m : Nat) (w : List Nat), w.length + m = l.length → gw l most m w ∈ sol l most m w
  | 0, w, _ => by unfold gw sol; simp
  | m + 1, w, e => sol_sub (gk_le l most w) (gk_fit hm (by omega)) (gw_sol hm m _ (by simp; omega))
/-- The better of two: fewer trucks; the older where they are equal. -/
def upd (p : List Int × Int) (v : List Nat) : List Int × Int := if (nt v : Int) < p.2 then (wi v, (nt v : Int)) else p
theorem upd_none : ∀ (L : List (List Nat)) (p : List Int × Int), (∀ v ∈ L, p.2 ≤ (nt v : Int)) → L.foldl upd p = p
  | [], _, _ => rfl
  | v :: L, p, h => by
    rw [List.foldl_cons]
    have e : upd p v = p := if_neg (by have := h v (by simp); omega)
    rw [e]; exact upd_none L p (fun u hu => h u (List.mem_cons_of_mem _ hu))
theorem upd_spec : ∀ (L : List (List Nat)) (p : List Int × Int), (L.foldl upd p = p ∧ ∀ u ∈ L, p.2 ≤ (nt u : Int)) ∨ ∃ v, v ∈ L ∧ L.foldl upd p = (wi v, (nt v : Int)) ∧ (nt v : Int) < p.2 ∧ (∀ u ∈ L, nt v ≤ nt u) ∧ L.find? (fun u => decide ((nt u : Int) ≤ (nt v : Int))) = some v
  | [], p => Or.inl ⟨rfl, fun u hu => by simp at hu⟩
  | x :: t, p => by
    rw [List.foldl_cons]
    by_cases c : (nt x : Int) < p.2
    · have e : upd p x = (wi x, (nt x : Int)) := if_pos c
      rw [e]
      right
      rcases upd_spec t (wi x, (nt x : Int)) with ⟨h1, h2⟩ | ⟨v, h1, h2, h3, h4, h5⟩
      · refine ⟨x, by simp, h1, c, fun u hu => ?_, ?_⟩
        · rcases List.mem_cons.1 hu with rfl | hu
          · exact Nat.le_refl _
          · have := h2 u hu
            simp only at this; omega
        · rw [List.find?_cons]; simp
      · simp only at h3
        refine ⟨v, List.mem_cons_of_mem _ h1, h2, by omega, fun u hu => ?_, ?_⟩
        · rcases List.mem_cons.1 hu with rfl | hu
          · omega
          · exact h4 u hu
        · rw [List.find?_cons, decide_eq_false (by omega)]; exact h5
    · have e : upd p x = p := if_neg c
      rw [e]
      rcases upd_spec t p with ⟨h1, h2⟩ | ⟨v, h1, h2, h3, h4, h5⟩
      · left
        refine ⟨h1, fun u hu => ?_⟩
        rcases List.mem_cons.1 hu with rfl | hu
        · omega
        · exact h2 u hu
      · right
        refine ⟨v, List.mem_cons_of_mem _ h1, h2, h3, fun u hu => ?_, ?_⟩
        · rcases List.mem_cons.1 hu with rfl | hu
          · omega
          · exact h4 u hu
        · rw [List.find?_cons, decide_eq_false (by omega)]; exact h5
theorem wi_snoc (w : List Nat) (k : Nat) : wi (w ++ [k]) = wi w ++ [(k : Int)] := by simp [wi]
theorem wi_len (w : List Nat) : (wi w).length = w.length := by simp [wi]
def upto (many : Int) (v : List Nat) : Bool := decide ((nt v : Int) ≤ many)
/-- The first loading of fewest trucks. -/
structure First (l : List S39) (most : Int) (v : List Nat) : Prop where
  mem : v ∈ sol l most l.length []
  least : ∀ u ∈ sol l most l.length [], nt v ≤ nt u
  first : (sol l most l.length []).find? (upto (nt v)) = some v
/-! ### The order of the loadings -/
/-- The first number in which two loadings differ is smaller. -/
def Lx (u v : List Nat) : Prop := ∃ p, (∀ q, q < p → u.getD q 0 = v.getD q 0) ∧ u.getD p 0 < v.getD p 0
theorem sol_lex {l : List S39} {most : Int} (hm : MsOk most l) : ∀ (m : Nat) (w : List Nat), w.length + m = l.length → Canon l most w → (sol l most m w).Pairwise Lx
  | 0, w, _, _ => by unfold sol; simp
  | m + 1, w, e, h => by
    have ext : ∀ k, k ≤ nt w → ∀ v ∈ (if tot l (row w k) + ms l w.length ≤ most then sol l most m (w ++ [k]) else []), ∃ t, v = w ++ k :: t := fun k hk v hv => by
      by_cases c : tot l (row w k) + ms l w.length ≤ most
      · rw [if_pos c] at hv
        obtain ⟨_, _, _, t, ht⟩ := sol_mem hm m (w ++ [k]) (by simp; omega) (h.next hm (by omega) hk c) v hv
        exact ⟨t, by rw [ht]; simp⟩
      · rw [if_neg c] at hv; simp at hv
    unfold sol
    rw [List.pairwise_flatMap]
    refine ⟨fun k hk => ?_, ?_⟩
    · have hk := List.mem_range.1 hk
      by_cases c : tot l (row w k) + ms l w.length ≤ most
      · rw [if_pos c]; exact sol_lex hm m (w ++ [k]) (by simp; omega) (h.next hm (by omega) (by omega) c)
      · rw [if_neg c]; exact List.Pairwise.nil
    · have hp : (List.range (nt w + 1)).Pairwise (· < ·) := List.pairwise_lt_range
      refine hp.imp_of_mem fun {a b} ha hb hab x hx y hy => ?_
      obtain ⟨t1, h1⟩ := ext a (by have := List.mem_range.1 ha; omega) x hx
      obtain ⟨t2, h2⟩ := ext b (by have := List.mem_range.1 hb; omega) y hy
      refine ⟨w.length, fun q hq => ?_, ?_⟩
      · rw [h1, h2]
        simp [List.getD_eq_getElem?_getD, List.getElem?_append_left hq]
      · rw [h1, h2]
        simp [List.getD_eq_getElem?_getD]
        exact hab
theorem find_before {α : Type} {R : α → α → Prop} {p : α → Bool} : ∀ {L : List α} {v w : α}, L.Pairwise R → L.find? p = some v → w ∈ L → p w = true → v = w ∨ R v w
  | [], _, _, _, h, _, _ => by simp at h
  | x :: t, v, w, hp, h, hw, hpw => by
    rw [List.find?_cons] at h
    obtain ⟨h1, h2⟩ := List.pairwise_cons.1 hp
    cases hx : p x with
    | true =>
      rw [hx] at h
      have hxv : x = v := by simpa using h
      subst hxv
      rcases List.mem_cons.1 hw with rfl | hw
      · exact Or.inl rfl
      · exact Or.inr (h1 w hw)
    | false =>
      rw [hx] at h
      rcases List.mem_cons.1 hw with rfl | hw
      · rw [hx] at hpw; exact absurd hpw (by decide)
      · exact find_before h2 (by simpa using h) hw hpw
end Go.Proofs.Ytegilakgfoglpaa.Pl
