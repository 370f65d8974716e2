/- Plain laws on the least loading: the search of the program and the search of the reference, for every list of parcels. -/
import Derived.Test.YtegilakgfoglpaaSc
import Derived.Test.YtegilakgfoglpaaQ10
import Derived.Test.YtegilakgfoglpaaQ4
namespace Go.Proofs.Ytegilakgfoglpaa.Pl
open Go.RowKit Go.Proofs.Ytegilakgfoglpaa.Opn Go.Proofs.Ytegilakgfoglpaa.Q Go.Proofs.Ytegilakgfoglpaa.Gd Go.Proofs.YtegilakgfoglpaaW.PrintWords

/-- All loadings that go on from one, in the order of the truck numbers. -/
def sol (l : List S39) (most : Int) : Nat → List Nat → List (List Nat)
  | 0, w => [w]
  | m + 1, w => (List.range (nt w + 1)).flatMap fun k => if tot l (row w k) + ms l w.length ≤ most then sol l most m (w ++ [k]) else []
theorem sol_sub {l : List S39} {most : Int} {m : Nat} {w : List Nat} {k : Nat} (hk : k ≤ nt w) (hf : tot l (row w k) + ms l w.length ≤ most) {v : List Nat} (hv : v ∈ sol l most m (w ++ [k])) : v ∈ sol l most (m + 1) w := by
  unfold sol
  rw [List.mem_flatMap]
  exact ⟨k, List.mem_range.2 (by omega), by rw [if_pos hf]; exact hv⟩
theorem fit_new {l : List S39} {most : Int} (hm : MsOk most l) {w : List Nat} (hl : w.length < l.length) : tot l (row w (nt w)) + ms l w.length ≤ most := by
  rw [row_over w _ (Nat.le_refl _)]
  have := (ms_rng hm (p := (w.length : Int)) (by omega) (by omega)).2
  simp [tot]; exact this
theorem Canon.next {l : List S39} {most : Int} (hm : MsOk most l) {w : List Nat} (h : Canon l most w) (hl : w.length < l.length) {k : Nat} (hk : k ≤ nt w) (hf : tot l (row w k) + ms l w.length ≤ most) : Canon l most (w ++ [k]) := by
  by_cases c : k < nt w
  · exact h.old hl c hf
  · have e : k = nt w := by omega
    rw [e]; exact h.new hm hl
theorem sol_mem {l : List S39} {most : Int} (hm : MsOk most l) : ∀ (m : Nat) (w : List Nat), w.length + m = l.length → Canon l most w → ∀ v ∈ sol l most m w, Canon l most v ∧ v.length = l.length ∧ nt w ≤ nt v ∧ ∃ t, v = w ++ t
  | 0, w, e, h, v, hv => by
    unfold sol at hv
    have := List.mem_singleton.1 hv
    subst this
    exact ⟨h, by omega, Nat.le_refl _, [], by simp⟩
  | m + 1, w, e, h, v, hv => by
    unfold sol at hv
    rw [List.mem_flatMap] at hv
    obtain ⟨k, hk, hv⟩ := hv
    have hk := List.mem_range.1 hk
    by_cases c : tot l (row w k) + ms l w.length ≤ most
    · rw [if_pos c] at hv
      obtain ⟨h1, h2, h3, t, h4⟩ := sol_mem hm m (w ++ [k]) (by simp; omega) (h.next hm (by omega) (by omega) c) v hv
      refine ⟨h1, h2, ?_, k :: t, by rw [h4]; simp⟩
      rw [nt_snoc] at h3; omega
    · rw [if_neg c] at hv; simp at hv
theorem gk_fit {l : List S39} {most : Int} (hm : MsOk most l) {w : List Nat} (hl : w.length < l.length) : tot l (row w (gk l most w)) + ms l w.length ≤ most := by
  by_cases c : gk l most w < nt w
  · exact gk_fits c
  · have e : gk l most w = nt w := by have := gk_le l most w; omega
    rw [e]; exact fit_new hm hl
theorem gw_sol {l : List S39} {most : Int} (hm : MsOk most l) : ∀ (m : Nat) (w : List Nat), w.length + m = l.length → gw l most m w ∈ sol l most m w
  | 0, w, _ => by unfold gw sol; simp
  | m + 1, w, e => sol_sub (gk_le l most w) (gk_fit hm (by omega)) (gw_sol hm m _ (by simp; omega))
/-- The better of two: fewer trucks; the older where they are equal. -/
def upd (p : List Int × Int) (v : List Nat) : List Int × Int := if (nt v : Int) < p.2 then (wi v, (nt v : Int)) else p
theorem upd_none : ∀ (L : List (List Nat)) (p : List Int × Int), (∀ v ∈ L, p.2 ≤ (nt v : Int)) → L.foldl upd p = p
  | [], _, _ => rfl
  | v :: L, p, h => by
    rw [List.foldl_cons]
    have e : upd p v = p := if_neg (by have := h v (by simp); omega)
    rw [e]; exact upd_none L p (fun u hu => h u (List.mem_cons_of_mem _ hu))
theorem upd_spec : ∀ (L : List (List Nat)) (p : List Int × Int), (L.foldl upd p = p ∧ ∀ u ∈ L, p.2 ≤ (nt u : Int)) ∨ ∃ v, v ∈ L ∧ L.foldl upd p = (wi v, (nt v : Int)) ∧ (nt v : Int) < p.2 ∧ (∀ u ∈ L, nt v ≤ nt u) ∧ L.find? (fun u => decide ((nt u : Int) ≤ (nt v : Int))) = some v
  | [], p => Or.inl ⟨rfl, fun u hu => by simp at hu⟩
  | x :: t, p => by
    rw [List.foldl_cons]
    by_cases c : (nt x : Int) < p.2
    · have e : upd p x = (wi x, (nt x : Int)) := if_pos c
      rw [e]
      right
      rcases upd_spec t (wi x, (nt x : Int)) with ⟨h1, h2⟩ | ⟨v, h1, h2, h3, h4, h5⟩
      · refine ⟨x, by simp, h1, c, fun u hu => ?_, ?_⟩
        · rcases List.mem_cons.1 hu with rfl | hu
          · exact Nat.le_refl _
          · have := h2 u hu
            simp only at this; omega
        · rw [List.find?_cons]; simp
      · simp only at h3
        refine ⟨v, List.mem_cons_of_mem _ h1, h2, by omega, fun u hu => ?_, ?_⟩
        · rcases List.mem_cons.1 hu with rfl | hu
          · omega
          · exact h4 u hu
        · rw [List.find?_cons, decide_eq_false (by omega)]; exact h5
    · have e : upd p x = p := if_neg c
      rw [e]
      rcases upd_spec t p with ⟨h1, h2⟩ | ⟨v, h1, h2, h3, h4, h5⟩
      · left
        refine ⟨h1, fun u hu => ?_⟩
        rcases List.mem_cons.1 hu with rfl | hu
        · omega
        · exact h2 u hu
      · right
        refine ⟨v, List.mem_cons_of_mem _ h1, h2, h3, fun u hu => ?_, ?_⟩
        · rcases List.mem_cons.1 hu with rfl | hu
          · omega
          · exact h4 u hu
        · rw [List.find?_cons, decide_eq_false (by omega)]; exact h5
/-! ### The program's search -/
structure SV (l : List S39) (most : Int) (m : Nat) (w : List Nat) (s : LSt) : Prop where
  free : s.free = fr l most w
  which : ∃ r, s.which = wi w ++ r ∧ r.length = m
theorem wi_snoc (w : List Nat) (k : Nat) : wi (w ++ [k]) = wi w ++ [(k : Int)] := by simp [wi]
theorem wi_len (w : List Nat) : (wi w).length = w.length := by simp [wi]
theorem SV.set {l : List S39} {most : Int} {m : Nat} {w : List Nat} {s : LSt} (h : SV l most (m + 1) w s) (k : Nat) : ∃ r, s.which.set (w.length : Int).toNat (k : Int) = wi (w ++ [k]) ++ r ∧ r.length = m := by
  obtain ⟨r, h1, h2⟩ := h.which
  cases r with
  | nil => simp at h2
  | cons y r =>
    refine ⟨r, ?_, by simpa using h2⟩
    rw [h1, Int.toNat_natCast, wi_snoc, ← wi_len w]
    simp
theorem SV.back {l : List S39} {most : Int} {m : Nat} {w : List Nat} {k : Nat} {s : LSt} (h : SV l most m (w ++ [k]) s) : ∃ r, s.which = wi w ++ r ∧ r.length = m + 1 := by
  obtain ⟨r, h1, h2⟩ := h.which
  exact ⟨(k : Int) :: r, by rw [h1, wi_snoc]; simp, by simp [h2]⟩
def GiveOk (l : List S39) (most : Int) (m : Nat) : Prop := ∀ (w : List Nat) (s : LSt), w.length + m = l.length → Canon l most w → SV l most m w s → ∃ s', give l most m (w.length : Int) s = some s' ∧ SV l most m w s' ∧ (s'.best, s'.least) = (sol l most m w).foldl upd (s.best, s.least)
theorem giveL_eq {l : List S39} {most : Int} (hm : MsOk most l) {m : Nat} (ih : GiveOk l most m) (w : List Nat) (he : w.length + (m + 1) = l.length) (hc : Canon l most w) : ∀ (j k : Nat) (s : LSt), k + j = nt w → SV l most (m + 1) w s → ∃ s', giveL (give l most m ((w.length : Int) + 1)) (ms l w.length) (w.length : Int) j (k : Int) s = some s' ∧ SV l most (m + 1) w s' ∧ (s'.best, s'.least) = ((List.range' k j).flatMap fun k => if tot l (row w k) + ms l w.length ≤ most then sol l most m (w ++ [k]) else []).foldl upd (s.best, s.least) := by
  intro j
  induction j with
  | zero =>
    intro k s _ hs
    exact ⟨s, rfl, hs, rfl⟩
  | succ j ihj =>
    intro k s e hs
    have hlt : w.length < l.length := by omega
    have hk : k < nt w := by omega
    have hms := ms_rng hm (p := (w.length : Int)) (by omega) (by omega)
    have hr := hc.rng hm hk
    have hmost := hm.2.1
    obtain ⟨r, hw1, hw2⟩ := hs.which
    have hwl : s.which.length = l.length := by rw [hw1, List.length_append, wi_len]; omega
    have hfl : s.free.length = nt w := by rw [hs.free, fr_len]
    have hrd : rd s.free (k : Int) = most - tot l (row w k) := by
      show s.free.getD (k : Int).toNat 0 = _
      rw [Int.toNat_natCast, hs.free]; exact fr_at hk
    have hcast : ((w ++ [k]).length : Int) = (w.length : Int) + 1 := by simp
    rw [show giveL (give l most m ((w.length : Int) + 1)) (ms l w.length) (w.length : Int) (j + 1) (k : Int) s = if (k : Int) < (s.free.length : Int) ∧ (w.length : Int) < (s.which.length : Int) then (if rd s.free k ≥ ms l w.length then (give l most m ((w.length : Int) + 1) { s with which := s.which.set (w.length : Int).toNat k, free := s.free.set (k : Int).toNat (wrap64 (rd s.free k - ms l w.length)) }).bind fun s1 => if (k : Int) < (s1.free.length : Int) then giveL (give l most m ((w.length : Int) + 1)) (ms l w.length) (w.length : Int) j ((k : Int) + 1) { s1 with free := s1.free.set (k : Int).toNat (wrap64 (rd s1.free k + ms l w.length)) } else none else giveL (give l most m ((w.length : Int) + 1)) (ms l w.length) (w.length : Int) j ((k : Int) + 1) s) else none from rfl]
    rw [if_pos ⟨by omega, by omega⟩, hrd, List.range'_succ, List.flatMap_cons, List.foldl_append]
    by_cases c : tot l (row w k) + ms l w.length ≤ most
    · rw [if_pos (by omega), if_pos c]
      have hv : wrap64 (most - tot l (row w k) - ms l w.length) = most - tot l (row w k) - ms l w.length := by unfold wrap64; omega
      rw [hv]
      simp only [Int.toNat_natCast]
      have hf1 : s.free.set k (most - tot l (row w k) - ms l w.length) = fr l most (w ++ [k]) := by rw [fr_old hk, hs.free]
      have hcn := hc.next hm hlt (by omega) c
      obtain ⟨s1, g1, g2, g3⟩ := ih (w ++ [k]) { s with which := s.which.set (w.length : Int).toNat k, free := s.free.set k (most - tot l (row w k) - ms l w.length) } (by simp; omega) hcn ⟨hf1, hs.set k⟩
      rw [hcast] at g1
      simp only [Int.toNat_natCast] at g1
      rw [g1, Option.bind_some]
      have hnt : nt (w ++ [k]) = nt w := by rw [nt_snoc]; omega
      have hl1 : s1.free.length = nt w := by rw [g2.free, fr_len, hnt]
      rw [if_pos (by omega)]
      have hrd1 : rd s1.free (k : Int) = most - tot l (row w k) - ms l w.length := by
        show s1.free.getD (k : Int).toNat 0 = _
        rw [Int.toNat_natCast, g2.free, fr_old hk]
        have : k < (fr l most w).length := by rw [fr_len]; exact hk
        simp [List.getD_eq_getElem?_getD, this]
      have hv1 : wrap64 (rd s1.free (k : Int) + ms l w.length) = most - tot l (row w k) := by rw [hrd1]; unfold wrap64; omega
      rw [hv1]
      have hf2 : s1.free.set k (most - tot l (row w k)) = fr l most w := by
        rw [g2.free, fr_old hk, List.set_set]
        apply List.ext_getElem
        · simp
        · intro i h1 h2
          rw [List.getElem_set]
          split
          · rename_i e; subst e; simp [fr]
          · rfl
      obtain ⟨s2, e1, e2, e3⟩ := ihj (k + 1) { s1 with free := s1.free.set k (most - tot l (row w k)) } (by omega) ⟨hf2, g2.back⟩
      refine ⟨s2, e1, e2, ?_⟩
      rw [e3]
      show List.foldl upd (s1.best, s1.least) _ = _
      rw [g3]
    · rw [if_neg (by omega), if_neg c]
      exact ihj (k + 1) s (by omega) hs
theorem give_eq {l : List S39} {most : Int} (hm : MsOk most l) (hl : l.length ≤ 999) : ∀ m, GiveOk l most m := by
  intro m
  induction m with
  | zero =>
    intro w s e h hs
    obtain ⟨r, hw1, hw2⟩ := hs.which
    have hr : r = [] := List.length_eq_zero_iff.1 hw2
    have hw : s.which = wi w := by rw [hw1, hr]; simp
    have hfl : s.free.length = nt w := by rw [hs.free, fr_len]
    show ∃ s', (if (s.free.length : Int) ≥ s.least then some s else (if s.which.length < 1000 then some { s with best := s.which, least := s.free.length } else none)) = some s' ∧ _
    unfold sol
    rw [hfl, hw, wi_len, List.foldl_cons, List.foldl_nil]
    by_cases c : (nt w : Int) ≥ s.least
    · rw [if_pos c]
      refine ⟨s, rfl, hs, ?_⟩
      exact (if_neg (show ¬ (nt w : Int) < (s.best, s.least).2 by show ¬ (nt w : Int) < s.least; omega)).symm
    · rw [if_neg c, if_pos (by omega)]
      refine ⟨_, rfl, ⟨hs.free, [], by simp, rfl⟩, ?_⟩
      exact (if_pos (show (nt w : Int) < (s.best, s.least).2 by show (nt w : Int) < s.least; omega)).symm
  | succ m ih =>
    intro w s e h hs
    have hlt : w.length < l.length := by omega
    have hms := ms_rng hm (p := (w.length : Int)) (by omega) (by omega)
    have hmost := hm.2.1
    have hnt := nt_len h.seq
    have hfl : s.free.length = nt w := by rw [hs.free, fr_len]
    show ∃ s', (if (s.free.length : Int) ≥ s.least then some s else (giveL (give l most m ((w.length : Int) + 1)) (ms l w.length) (w.length : Int) s.free.length 0 s).bind fun s1 => if (w.length : Int) < (s1.which.length : Int) ∧ s1.free.length < 1000 then (give l most m ((w.length : Int) + 1) { s1 with which := s1.which.set (w.length : Int).toNat s1.free.length, free := s1.free ++ [wrap64 (most - ms l w.length)] }).bind fun s2 => if 0 < s2.free.length then some { s2 with free := s2.free.take (s2.free.length - 1) } else none else none) = some s' ∧ _
    rw [hfl]
    by_cases c : (nt w : Int) ≥ s.least
    · rw [if_pos c]
      refine ⟨s, rfl, hs, (upd_none _ _ fun v hv => ?_).symm⟩
      have := (sol_mem hm (m + 1) w e h v hv).2.2.1
      show s.least ≤ _
      omega
    · rw [if_neg c]
      obtain ⟨s1, g1, g2, g3⟩ := giveL_eq hm ih w e h (nt w) 0 s (by omega) hs
      rw [show ((0 : Nat) : Int) = 0 from rfl] at g1
      rw [g1, Option.bind_some]
      obtain ⟨r, hw1, hw2⟩ := g2.which
      have hwl : s1.which.length = l.length := by rw [hw1, List.length_append, wi_len]; omega
      have hl1 : s1.free.length = nt w := by rw [g2.free, fr_len]
      rw [if_pos ⟨by omega, by omega⟩, hl1]
      have hv : wrap64 (most - ms l w.length) = most - ms l w.length := by unfold wrap64; omega
      rw [hv]
      have hf1 : s1.free ++ [most - ms l w.length] = fr l most (w ++ [nt w]) := by rw [fr_new, g2.free]
      have hcast : ((w ++ [nt w]).length : Int) = (w.length : Int) + 1 := by simp
      obtain ⟨s2, k1, k2, k3⟩ := ih (w ++ [nt w]) { s1 with which := s1.which.set (w.length : Int).toNat (nt w : Int), free := s1.free ++ [most - ms l w.length] } (by simp; omega) (h.new hm hlt) ⟨hf1, g2.set (nt w)⟩
      rw [hcast] at k1
      rw [k1, Option.bind_some]
      have hnt2 : nt (w ++ [nt w]) = nt w + 1 := by rw [nt_snoc]; omega
      have hl2 : s2.free.length = nt w + 1 := by rw [k2.free, fr_len, hnt2]
      rw [if_pos (by omega), hl2]
      have hf2 : s2.free.take (nt w + 1 - 1) = fr l most w := by
        rw [k2.free, fr_new, Nat.add_sub_cancel]
        exact List.take_left' (fr_len l most w)
      refine ⟨_, rfl, ⟨hf2, k2.back⟩, ?_⟩
      show (s2.best, s2.least) = _
      rw [k3]
      show List.foldl upd (s1.best, s1.least) _ = _
      rw [g3]
      show _ = List.foldl upd (s.best, s.least) ((List.range (nt w + 1)).flatMap fun k => if tot l (row w k) + ms l w.length ≤ most then sol l most m (w ++ [k]) else [])
      rw [List.range_succ, List.flatMap_append, List.foldl_append, List.flatMap_singleton, if_pos (fit_new hm hlt), List.range_eq_range']
/-! ### The reference's search -/
def resF (o : Option (List Nat)) : List (List Int) × Bool := match o with | some v => (tk v, true) | none => ([], false)
def upto (many : Int) (v : List Nat) : Bool := decide ((nt v : Int) ≤ many)
theorem rload_eq {l : List S39} {most : Int} (hm : MsOk most l) (hl : l.length ≤ 999) (many : Int) : ∀ (m : Nat) (w : List Nat), w.length + m = l.length → Canon l most w → (nt w : Int) ≤ many ∨ w = [] → 0 ≤ many → Ev (fun k => rload k l most many m (tk w) (w.length : Int)) (resF ((sol l most m w).find? (upto many))) := by
  intro m
  induction m with
  | zero =>
    intro w e h hn h0
    have hn : (nt w : Int) ≤ many := by
      rcases hn with hn | rfl
      · exact hn
      · rw [nt_nil]; omega
    have e1 : (sol l most 0 w).find? (upto many) = some w := by
      unfold sol
      rw [List.find?_cons, show upto many w = true from decide_eq_true hn]
    rw [e1]
    exact Ev.c rfl
  | succ m ih =>
    intro w e h hn h0
    have hlt : w.length < l.length := by omega
    have hms := ms_rng hm (p := (w.length : Int)) (by omega) (by omega)
    have hmost := hm.2.1
    have hnt := nt_len h.seq
    have key : ∀ (d kk : Nat), kk + d = nt w + 1 → Ev (fun k => rloadL (fun x => rload k l most many m x ((w.length : Int) + 1)) k l most many (tk w) (w.length : Int) (d + 1) (kk : Int)) (resF (((List.range' kk d).flatMap fun k => if tot l (row w k) + ms l w.length ≤ most then sol l most m (w ++ [k]) else []).find? (upto many))) := by
      intro d
      induction d with
      | zero =>
        intro kk ek
        unfold rloadL
        exact Ev.neg (by rw [tk_len]; omega) (Ev.c rfl)
      | succ d ihd =>
        intro kk ek
        have ihd := ihd (kk + 1) (by omega)
        have hkk : kk ≤ nt w := by omega
        unfold rloadL
        refine Ev.pos (by rw [tk_len]; omega) ?_
        by_cases c : (kk : Int) < many
        · refine Ev.pos c (Ev.bind (with_eq (tk w) kk (w.length : Int) (by rw [tk_len]; exact hkk) (by rw [tk_len]; omega) (tk_rows (by omega))) ?_)
          rw [← tk_snoc w kk hkk]
          have hk2 : kk < nt (w ++ [kk]) := by rw [nt_snoc]; omega
          refine Ev.pos (by rw [tk_len]; omega) ?_
          rw [rdL_at, tk_at hk2]
          have hrow : row (w ++ [kk]) kk = row w kk ++ [(w.length : Int)] := by rw [row_snoc, if_pos rfl]
          have hri := row_in (l := l) (w := w ++ [kk]) (by simp; omega) kk
          have hrl := row_len (w ++ [kk]) kk
          simp only [List.length_append, List.length_singleton] at hrl
          refine Ev.bind (total_eq l hm (row (w ++ [kk]) kk) hri (by omega)) ?_
          rw [hrow, tot_snoc, List.range'_succ, List.flatMap_cons, List.find?_append]
          by_cases f : tot l (row w kk) + ms l w.length ≤ most
          · rw [if_pos f]
            refine Ev.neg (by omega) ?_
            have ih := ih (w ++ [kk]) (by simp; omega) (h.next hm hlt hkk f) (Or.inl (by
              rw [nt_snoc]
              rcases hn with hn | rfl
              · omega
              · rw [nt_nil]; omega)) h0
            have hcast : ((w ++ [kk]).length : Int) = (w.length : Int) + 1 := by simp
            rw [hcast] at ih
            refine Ev.bind ih ?_
            cases hf : (sol l most m (w ++ [kk])).find? (upto many) with
            | some v => exact Ev.pos rfl (Ev.c rfl)
            | none =>
              refine Ev.neg (by simp [resF]) ?_
              exact ihd
          · rw [if_neg f]
            refine Ev.pos (by omega) ?_
            exact ihd
        · have e1 : ((List.range' kk (d + 1)).flatMap fun k => if tot l (row w k) + ms l w.length ≤ most then sol l most m (w ++ [k]) else []).find? (upto many) = none := by
            rw [List.find?_eq_none]
            intro v hv
            rw [List.mem_flatMap] at hv
            obtain ⟨k, hk, hv⟩ := hv
            have hk := List.mem_range'_1.1 hk
            by_cases f : tot l (row w k) + ms l w.length ≤ most
            · rw [if_pos f] at hv
              have := (sol_mem hm m (w ++ [k]) (by simp; omega) (h.next hm hlt (by omega) f) v hv).2.2.1
              rw [nt_snoc] at this
              unfold upto
              simp; omega
            · rw [if_neg f] at hv; simp at hv
          rw [e1]
          exact Ev.neg c (Ev.c rfl)
    have := key (nt w + 1) 0 (by omega)
    rw [← List.range_eq_range'] at this
    show Ev (fun k => rloadL (fun x => rload k l most many m x ((w.length : Int) + 1)) k l most many (tk w) (w.length : Int) ((tk w).length + 2) 0) _
    rw [tk_len]
    exact this
/-! ### The least loading -/
/-- The first loading of fewest trucks. -/
structure First (l : List S39) (most : Int) (v : List Nat) : Prop where
  mem : v ∈ sol l most l.length []
  least : ∀ u ∈ sol l most l.length [], nt v ≤ nt u
  first : (sol l most l.length []).find? (upto (nt v)) = some v
theorem load_eq (l : List S39) (most : Int) (hl : l.length ≤ 999) : ∃ v, (parE l most 10 = 0 → First l most v) ∧ Ev (fun k => ship_Load.f k l most) (if parE l most 10 = 0 then (tk v, 0) else ([], parE l most 10)) := by
  by_cases c : parE l most 10 = 0
  · have hm := (parE_ok c).1
    have hg := gw_sol hm l.length [] (by simp)
    have hmem := fun v hv => sol_mem hm l.length [] (by simp) (Canon.start l most) v hv
    obtain ⟨s, g1, _, g3⟩ := give_eq hm hl l.length [] ⟨[], (l.length : Int) + 1, List.replicate l.length 0, []⟩ (by simp) (Canon.start l most) ⟨rfl, List.replicate l.length 0, by simp [wi], by simp⟩
    rcases upd_spec (sol l most l.length []) ([], (l.length : Int) + 1) with ⟨_, h2⟩ | ⟨v, h1, h2, h3, h4, h5⟩
    · have h2 := h2 _ hg
      have hc := hmem _ hg
      have := nt_len hc.1.seq
      simp only at h2
      omega
    · refine ⟨v, fun _ => ⟨h1, h4, h5⟩, ?_⟩
      rw [if_pos c]
      have hc := hmem _ h1
      have hs : s.best = wi v := by
        have : (s.best, s.least) = (wi v, (nt v : Int)) := g3.trans h2
        exact (Prod.mk.inj this).1
      unfold ship_Load.f
      refine Ev.bind (parcels_eq l most 10 (by omega)) (Ev.pos c (Ev.sb (fun _ => g1) ?_))
      rw [hs]
      exact Ev.bind (trucks_eq v hc.1.seq (by omega)) (Ev.c rfl)
  · refine ⟨[], fun h => absurd h c, ?_⟩
    rw [if_neg c]
    unfold ship_Load.f
    exact Ev.bind (parcels_eq l most 10 (by omega)) (Ev.neg c (Ev.c rfl))
theorem rLs_eq {l : List S39} {most : Int} (hm : MsOk most l) (hl : l.length ≤ 999) {v : List Nat} (hv : First l most v) (hn : nt v ≤ l.length) : ∀ (d j many : Nat), many + d = nt v → d + 1 ≤ j → Ev (fun k => rLs k l most j (many : Int)) (tk v, 0) := by
  intro d
  induction d with
  | zero =>
    intro j many e hj
    obtain ⟨j, rfl⟩ : ∃ i, j = i + 1 := ⟨j - 1, by omega⟩
    have e1 : many = nt v := by omega
    have := rload_eq hm hl (many : Int) l.length [] (by simp) (Canon.start l most) (Or.inr rfl) (by omega)
    rw [e1, hv.first] at this
    unfold rLs
    rw [e1]
    exact Ev.pos (by omega) (Ev.bind this (Ev.pos rfl (Ev.c rfl)))
  | succ d ih =>
    intro j many e hj
    obtain ⟨j, rfl⟩ : ∃ i, j = i + 1 := ⟨j - 1, by omega⟩
    have hnone : (sol l most l.length []).find? (upto (many : Int)) = none := by
      rw [List.find?_eq_none]
      intro u hu
      have := hv.least u hu
      unfold upto
      simp; omega
    have := rload_eq hm hl (many : Int) l.length [] (by simp) (Canon.start l most) (Or.inr rfl) (by omega)
    rw [hnone] at this
    unfold rLs
    exact Ev.pos (by omega) (Ev.bind this (Ev.neg (by simp [resF]) (ih j (many + 1) (by omega) (by omega))))
theorem rload_first {l : List S39} {most : Int} (hl : l.length ≤ 999) {v : List Nat} (hv : parE l most 10 = 0 → First l most v) : Ev (fun k => papermillref56_Load.f k l most) (if parE l most 10 = 0 then (tk v, 0) else ([], parE l most 10)) := by
  unfold papermillref56_Load.f
  refine Ev.bind (right_eq l most 10 (by omega)) (Ev.iteE (fun c => ?_) fun _ => Ev.c rfl)
  have hm := (parE_ok c).1
  have hv := hv c
  have hc := sol_mem hm l.length [] (by simp) (Canon.start l most) v hv.mem
  have hn := nt_len hc.1.seq
  exact rLs_eq hm hl hv (by omega) (nt v) (l.length + 2) 0 (by omega) (by omega)
/-! ### The order of the loadings -/
/-- The first number in which two loadings differ is smaller. -/
def Lx (u v : List Nat) : Prop := ∃ p, (∀ q, q < p → u.getD q 0 = v.getD q 0) ∧ u.getD p 0 < v.getD p 0
theorem sol_lex {l : List S39} {most : Int} (hm : MsOk most l) : ∀ (m : Nat) (w : List Nat), w.length + m = l.length → Canon l most w → (sol l most m w).Pairwise Lx
  | 0, w, _, _ => by unfold sol; simp
  | m + 1, w, e, h => by
    have ext : ∀ k, k ≤ nt w → ∀ v ∈ (if tot l (row w k) + ms l w.length ≤ most then sol l most m (w ++ [k]) else []), ∃ t, v = w ++ k :: t := fun k hk v hv => by
      by_cases c : tot l (row w k) + ms l w.length ≤ most
      · rw [if_pos c] at hv
        obtain ⟨_, _, _, t, ht⟩ := sol_mem hm m (w ++ [k]) (by simp; omega) (h.next hm (by omega) hk c) v hv
        exact ⟨t, by rw [ht]; simp⟩
      · rw [if_neg c] at hv; simp at hv
    unfold sol
    rw [List.pairwise_flatMap]
    refine ⟨fun k hk => ?_, ?_⟩
    · have hk := List.mem_range.1 hk
      by_cases c : tot l (row w k) + ms l w.length ≤ most
      · rw [if_pos c]; exact sol_lex hm m (w ++ [k]) (by simp; omega) (h.next hm (by omega) (by omega) c)
      · rw [if_neg c]; exact List.Pairwise.nil
    · have hp : (List.range (nt w + 1)).Pairwise (· < ·) := List.pairwise_lt_range
      refine hp.imp_of_mem fun {a b} ha hb hab x hx y hy => ?_
      obtain ⟨t1, h1⟩ := ext a (by have := List.mem_range.1 ha; omega) x hx
      obtain ⟨t2, h2⟩ := ext b (by have := List.mem_range.1 hb; omega) y hy
      refine ⟨w.length, fun q hq => ?_, ?_⟩
      · rw [h1, h2]
        simp [List.getD_eq_getElem?_getD, List.getElem?_append_left hq]
      · rw [h1, h2]
        simp [List.getD_eq_getElem?_getD]
        exact hab
theorem find_before {α : Type} {R : α → α → Prop} {p : α → Bool} : ∀ {L : List α} {v w : α}, L.Pairwise R → L.find? p = some v → w ∈ L → p w = true → v = w ∨ R v w
  | [], _, _, _, h, _, _ => by simp at h
  | x :: t, v, w, hp, h, hw, hpw => by
    rw [List.find?_cons] at h
    obtain ⟨h1, h2⟩ := List.pairwise_cons.1 hp
    cases hx : p x with
    | true =>
      rw [hx] at h
      have hxv : x = v := by simpa using h
      subst hxv
      rcases List.mem_cons.1 hw with rfl | hw
      · exact Or.inl rfl
      · exact Or.inr (h1 w hw)
    | false =>
      rw [hx] at h
      rcases List.mem_cons.1 hw with rfl | hw
      · rw [hx] at hpw; exact absurd hpw (by decide)
      · exact find_before h2 (by simpa using h) hw hpw
end Go.Proofs.Ytegilakgfoglpaa.Pl
