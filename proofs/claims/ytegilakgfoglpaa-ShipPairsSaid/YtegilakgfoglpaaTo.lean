/- Plain laws on what a loading shows of itself: each parcel once, for every list of parcels. -/
import Derived.Test.YtegilakgfoglpaaTc
import Derived.Test.YtegilakgfoglpaaQ7
namespace Go.Proofs.Ytegilakgfoglpaa.Pl
open Go.RowKit Go.Proofs.Ytegilakgfoglpaa.Opn Go.Proofs.Ytegilakgfoglpaa.Q Go.Proofs.Ytegilakgfoglpaa.Gd Go.Proofs.YtegilakgfoglpaaW.PrintWords

theorem row_ne {w : List Nat} : Seq w → ∀ k, k < nt w → row w k ≠ [] :=
  snocInd (P := fun w => Seq w → ∀ k, k < nt w → row w k ≠ []) (fun _ k h => by simp [nt] at h) (fun w x ih h k hk => by
    have hl := h.last
    rw [nt_snoc] at hk
    rw [row_snoc]
    by_cases e : x = k
    · rw [if_pos e]; simp
    · rw [if_neg e]; exact ih h.init k (by omega)) w
def hd (w : List Nat) (k : Nat) : Int := (row w k).getD 0 0
theorem hd_mem {w : List Nat} (h : Seq w) {k : Nat} (hk : k < nt w) : hd w k ∈ row w k := by
  have := row_ne h k hk
  unfold hd
  cases hr : row w k with
  | nil => exact absurd hr this
  | cons a t => simp
theorem hd_asc {w : List Nat} : Seq w → ∀ k, k + 1 < nt w → hd w k < hd w (k + 1) :=
  snocInd (P := fun w => Seq w → ∀ k, k + 1 < nt w → hd w k < hd w (k + 1)) (fun _ k h => by simp [nt] at h) (fun w x ih h k hk => by
    have hl := h.last
    rw [nt_snoc] at hk
    have hold : ∀ j, j < nt w → hd (w ++ [x]) j = hd w j := fun j hj => by
      unfold hd
      rw [row_snoc]
      split
      · have := row_ne h.init j hj
        cases hr : row w j with
        | nil => exact absurd hr this
        | cons a t => simp
      · rfl
    by_cases c : k + 1 < nt w
    · rw [hold k (by omega), hold (k + 1) c]; exact ih h.init k c
    · have e : x = k + 1 := by omega
      have e2 : nt w = k + 1 := by omega
      rw [hold k (by omega)]
      have h1 := mem_row.1 (hd_mem h.init (k := k) (by omega))
      have h2 : hd (w ++ [x]) (k + 1) = (w.length : Int) := by
        unfold hd
        rw [row_snoc, if_pos e, row_over w _ (by omega)]
        rfl
      rw [h2]; exact h1.2.1) w
/-- Which parcels have been seen. -/
def flag (w : List Nat) (i : Nat) (r : List Int) : List Bool := (List.range w.length).map fun (p : Nat) => decide (w.getD p 0 < i) || decide ((p : Int) ∈ r)
def cnt (w : List Nat) (i : Nat) : Nat := ((List.range w.length).filter fun p => decide (w.getD p 0 < i)).length
theorem cnt_succ (w : List Nat) (i : Nat) : cnt w (i + 1) = cnt w i + (row w i).length := by
  unfold cnt row
  rw [List.length_map]
  generalize List.range w.length = L
  induction L with
  | nil => rfl
  | cons p L ih =>
    rw [List.filter_cons, List.filter_cons, List.filter_cons]
    rcases Nat.lt_trichotomy (w.getD p 0) i with c | c | c
    · rw [if_pos (decide_eq_true (show w.getD p 0 < i + 1 by omega)), if_pos (decide_eq_true c), if_neg (by simpa using (show ¬ w.getD p 0 = i by omega)), List.length_cons, List.length_cons, ih]; omega
    · rw [if_pos (decide_eq_true (show w.getD p 0 < i + 1 by omega)), if_neg (by simpa using (show ¬ w.getD p 0 < i by omega)), if_pos (decide_eq_true c), List.length_cons, List.length_cons, ih]; omega
    · rw [if_neg (by simpa using (show ¬ w.getD p 0 < i + 1 by omega)), if_neg (by simpa using (show ¬ w.getD p 0 < i by omega)), if_neg (by simpa using (show ¬ w.getD p 0 = i by omega)), ih]
theorem cnt_le (w : List Nat) (i : Nat) : cnt w i ≤ w.length := by
  unfold cnt
  exact Nat.le_trans (List.length_filter_le _ _) (by simp)
theorem cnt_all (w : List Nat) : cnt w (nt w) = w.length := by
  unfold cnt
  rw [List.filter_eq_self.2 fun p hp => decide_eq_true (get_lt (List.mem_range.1 hp))]
  simp
theorem flag_zero (w : List Nat) : flag w 0 [] = List.replicate w.length false := by
  apply List.ext_getElem
  · simp [flag]
  · intro i h1 h2
    simp [flag]
theorem flag_next (w : List Nat) (i : Nat) : flag w i (row w i) = flag w (i + 1) [] := by
  unfold flag
  apply List.map_congr_left
  intro p hp
  have hp := List.mem_range.1 hp
  by_cases c : w.getD p 0 = i
  · have : (p : Int) ∈ row w i := mem_row.2 ⟨by omega, by omega, by rw [Int.toNat_natCast]; exact c⟩
    rw [decide_eq_true this, decide_eq_true (show w.getD p 0 < i + 1 by omega)]
    simp
  · have : ¬ (p : Int) ∈ row w i := fun h => c (by have := (mem_row.1 h).2.2; rwa [Int.toNat_natCast] at this)
    rw [decide_eq_false this, Bool.or_false, decide_eq_false (show ¬ (p : Int) ∈ [] from List.not_mem_nil), Bool.or_false]
    exact decide_eq_decide.2 (by omega)
theorem flag_set (w : List Nat) (i : Nat) (r : List Int) (x : Int) (h0 : 0 ≤ x) : (flag w i r).set x.toNat true = flag w i (r ++ [x]) := by
  apply List.ext_getElem
  · simp [flag]
  · intro j h1 h2
    rw [List.getElem_set]
    simp only [flag, List.getElem_map, List.getElem_range, List.mem_append, List.mem_singleton]
    by_cases e : x.toNat = j
    · have e2 : (j : Int) = x := by omega
      rw [if_pos e]; simp [e2]
    · have e2 : ¬ (j : Int) = x := by omega
      rw [if_neg e]; simp [e2]
def lastD (r : List Int) : Int := r.getLastD (-1)
theorem once_l1 {l : List S39} {most : Int} (hm : MsOk most l) (hl : l.length ≤ 1000) {w : List Nat} (h : Canon l most w) (hw : w.length = l.length) (i : Nat) (hi : i < nt w) (r : Bool) (hk : Ev (fun k => papermilllaw56_once.l0 k l most (tk w) (cnt w (i + 1) : Int) (hd w i) (flag w (i + 1) []) ((i + 1 : Nat) : Int)) r) (last : Int) (hlast : last < hd w i) :
    ∀ (r2 r1 : List Int), row w i = r1 ++ r2 → Ev (fun k => papermilllaw56_once.l1 k l most (tk w) ((cnt w i : Int) + r1.length) last (flag w i r1) (i : Int) (tot l r1) (lastD r1) (r1.length : Int)) r := by
  have hnt := nt_len h.seq
  have hrl := row_len w i
  have hc1 := cnt_le w i
  have hfit := h.rng hm hi
  have hin := row_in h.len i
  have hmost := hm.2.1
  intro r2
  induction r2 with
  | nil =>
    intro r1 e
    have e1 : r1 = row w i := by rw [e]; simp
    have hne := row_ne h.seq i hi
    refine Ev.step (fun k => papermilllaw56_once.l1.eq_2 ..) (Ev.pos (by omega) (Ev.pos (by rw [tk_len]; omega) ?_))
    rw [rdL_at, tk_at hi, e1, wrap_nat (n := 2000) (j := i) (by omega) (by omega)]
    have hpos : 0 < (row w i).length := List.length_pos_iff.2 hne
    refine Ev.neg (by omega) (Ev.neg (by omega) (Ev.pos (by omega) (Ev.neg ?_ (Ev.neg (by omega) ?_))))
    · show ¬ hd w i ≤ last
      omega
    · rw [flag_next, show ((cnt w i : Int) + ((row w i).length : Int)) = ((cnt w (i + 1) : Nat) : Int) by rw [cnt_succ]; omega]
      exact hk
  | cons x r2 ih =>
    intro r1 e
    have hlt := lt_at e
    have hx := mem_row.1 (show x ∈ row w i by rw [e]; simp)
    have hxl : x < (l.length : Int) := by omega
    have hms := ms_rng hm hx.1 hxl
    have ih := ih (r1 ++ [x]) (app_one e)
    have hr1 : ∀ p ∈ r1, 0 ≤ p ∧ p < x := fun p hp => by
      have h1 := mem_row.1 (show p ∈ row w i by rw [e]; simp [hp])
      have h2 := row_asc w i
      rw [e, List.pairwise_append] at h2
      exact ⟨h1.1, h2.2.2 p hp x (by simp)⟩
    have ht1 := tot_rng hm r1 (fun p hp => by have := hr1 p hp; omega)
    have hb : (r1.length : Int) * most ≤ 1000 * 1099511627776 := Int.mul_le_mul (by omega) hmost (by have := hm.1; omega) (by omega)
    have hlast1 : lastD r1 < x := by
      unfold lastD
      rcases List.eq_nil_or_concat r1 with rfl | ⟨q, y, rfl⟩
      · simp; omega
      · rw [List.getLastD_eq_getLast?]
        have := (hr1 y (by simp)).2
        simpa using this
    refine Ev.step (fun k => papermilllaw56_once.l1.eq_2 ..) (Ev.pos (by omega) (Ev.pos (by rw [tk_len]; omega) ?_))
    rw [rdL_at, tk_at hi, rd_at e]
    have hfl : (flag w i r1).length = w.length := by simp [flag]
    have hff : rdOf false (flag w i r1) x = false := by
      have hxn : x.toNat < w.length := by omega
      have h1 : rdOf false (flag w i r1) x = (decide (w.getD x.toNat 0 < i) || decide ((x.toNat : Int) ∈ r1)) := by
        show (flag w i r1).getD x.toNat false = _
        simp only [flag, List.getD_eq_getElem?_getD, List.getElem?_map, List.getElem?_range hxn]
        rfl
      rw [h1, hx.2.2]
      have : ¬ (x.toNat : Int) ∈ r1 := fun hc => by have := (hr1 _ hc).2; omega
      rw [decide_eq_false this, decide_eq_false (Nat.lt_irrefl i)]; rfl
    refine Ev.pos hlt (Ev.pos (by omega) (Ev.neg (by omega) (Ev.neg (by omega) (Ev.pos hx.1 (Ev.pos (by omega) (Ev.neg (by rw [hff]; decide) (Ev.pos hxl ?_)))))))
    rw [flag_set w i r1 x hx.1, wrap_next e (by omega)]
    have hw1 : wrap64 ((cnt w i : Int) + (r1.length : Int) + 1) = (cnt w i : Int) + ((r1 ++ [x]).length : Int) := by
      rw [List.length_append, List.length_singleton]; unfold wrap64; omega
    have hw2 : wrap64 (tot l r1 + (rd_T39 l x).f1) = tot l (r1 ++ [x]) := by
      rw [tot_snoc]
      show wrap64 (tot l r1 + ms l x) = _
      unfold wrap64; omega
    have hw3 : lastD (r1 ++ [x]) = x := by simp [lastD, List.getLastD_eq_getLast?]
    rw [hw1, hw2]
    rw [hw3] at ih
    exact ih
theorem once_l0 {l : List S39} {most : Int} (hm : MsOk most l) (hl : l.length ≤ 1000) {w : List Nat} (h : Canon l most w) (hw : w.length = l.length) : ∀ (m i : Nat) (last : Int), i + m = nt w → (i < nt w → last < hd w i) → Ev (fun k => papermilllaw56_once.l0 k l most (tk w) (cnt w i : Int) last (flag w i []) (i : Int)) true := by
  intro m
  induction m with
  | zero =>
    intro i last e _
    have e1 : i = nt w := by omega
    refine Ev.step (fun k => papermilllaw56_once.l0.eq_2 ..) (Ev.neg (by rw [tk_len]; omega) (Ev.c ?_))
    rw [e1, cnt_all, hw]
    simp
  | succ m ih =>
    intro i last e hlast
    have hi : i < nt w := by omega
    refine Ev.step (fun k => papermilllaw56_once.l0.eq_2 ..) (Ev.pos (by rw [tk_len]; omega) ?_)
    have := once_l1 hm hl h hw i hi true (ih (i + 1) (hd w i) (by omega) (fun h2 => hd_asc h.seq i h2)) last (hlast hi) (row w i) [] rfl
    simpa [tot, lastD] using this
theorem once_eq {l : List S39} {most : Int} (hm : MsOk most l) (hl : l.length ≤ 1000) {w : List Nat} (h : Canon l most w) (hw : w.length = l.length) : Ev (fun k => papermilllaw56_once.f k l most (tk w)) true := by
  unfold papermilllaw56_once.f
  refine Ev.pos (by omega) (Ev.pos (by omega) ?_)
  have := once_l0 hm hl h hw (nt w) 0 (-1) (by omega) (fun h0 => by have := (mem_row.1 (hd_mem h.seq h0)).1; omega)
  rw [flag_zero, hw] at this
  have e : cnt w 0 = 0 := by simp [cnt]
  rw [e] at this
  simpa using this
end Go.Proofs.Ytegilakgfoglpaa.Pl
