/- Plain laws on the least loading: the search of the program, for every list of parcels. -/
import Derived.Test.YtegilakgfoglpaaTe
import Derived.Test.YtegilakgfoglpaaTg
import Derived.Test.YtegilakgfoglpaaQ4
namespace Go.Proofs.Ytegilakgfoglpaa.Pl
open Go.RowKit Go.Proofs.Ytegilakgfoglpaa.Opn Go.Proofs.Ytegilakgfoglpaa.Q Go.Proofs.Ytegilakgfoglpaa.Gd Go.Proofs.YtegilakgfoglpaaW.PrintWords

/-! ### The program's search -/
structure SV (l : List S39) (most : Int) (m : Nat) (w : List Nat) (s : LSt) : Prop where
  free : s.free = fr l most w
  which : ∃ r, s.which = wi w ++ r ∧ r.length = m
theorem SV.set {l : List S39} {most : Int} {m : Nat} {w : List Nat} {s : LSt} (h : SV l most (m + 1) w s) (k : Nat) : ∃ r, s.which.set (w.length : Int).toNat (k : Int) = wi (w ++ [k]) ++ r ∧ r.length = m := by
  obtain ⟨r, h1, h2⟩ := h.which
  cases r with
  | nil => simp at h2
  | cons y r =>
    refine ⟨r, ?_, by simpa using h2⟩
    rw [h1, Int.toNat_natCast, wi_snoc, ← wi_len w]
    simp
theorem SV.back {l : List S39} {most : Int} {m : Nat} {w : List Nat} {k : Nat} {s : LSt} (h : SV l most m (w ++ [k]) s) : ∃ r, s.which = wi w ++ r ∧ r.length = m + 1 := by
  obtain ⟨r, h1, h2⟩ := h.which
  exact ⟨(k : Int) :: r, by rw [h1, wi_snoc]; simp, by simp [h2]⟩
def GiveOk (l : List S39) (most : Int) (m : Nat) : Prop := ∀ (w : List Nat) (s : LSt), w.length + m = l.length → Canon l most w → SV l most m w s → ∃ s', give l most m (w.length : Int) s = some s' ∧ SV l most m w s' ∧ (s'.best, s'.least) = (sol l most m w).foldl upd (s.best, s.least)
theorem giveL_eq {l : List S39} {most : Int} (hm : MsOk most l) {m : Nat} (ih : GiveOk l most m) (w : List Nat) (he : w.length + (m + 1) = l.length) (hc : Canon l most w) : ∀ (j k : Nat) (s : LSt), k + j = nt w → SV l most (m + 1) w s → ∃ s', giveL (give l most m ((w.length : Int) + 1)) (ms l w.length) (w.length : Int) j (k : Int) s = some s' ∧ SV l most (m + 1) w s' ∧ (s'.best, s'.least) = ((List.range' k j).flatMap fun k => if tot l (row w k) + ms l w.length ≤ most then sol l most m (w ++ [k]) else []).foldl upd (s.best, s.least) := by
  intro j
  induction j with
  | zero =>
    intro k s _ hs
    exact ⟨s, rfl, hs, rfl⟩
  | succ j ihj =>
    intro k s e hs
    have hlt : w.length < l.length := by omega
    have hk : k < nt w := by omega
    have hms := ms_rng hm (p := (w.length : Int)) (by omega) (by omega)
    have hr := hc.rng hm hk
    have hmost := hm.2.1
    obtain ⟨r, hw1, hw2⟩ := hs.which
    have hwl : s.which.length = l.length := by rw [hw1, List.length_append, wi_len]; omega
    have hfl : s.free.length = nt w := by rw [hs.free, fr_len]
    have hrd : rd s.free (k : Int) = most - tot l (row w k) := by
      show s.free.getD (k : Int).toNat 0 = _
      rw [Int.toNat_natCast, hs.free]; exact fr_at hk
    have hcast : ((w ++ [k]).length : Int) = (w.length : Int) + 1 := by simp
    rw [show giveL (give l most m ((w.length : Int) + 1)) (ms l w.length) (w.length : Int) (j + 1) (k : Int) s = if (k : Int) < (s.free.length : Int) ∧ (w.length : Int) < (s.which.length : Int) then (if rd s.free k ≥ ms l w.length then (give l most m ((w.length : Int) + 1) { s with which := s.which.set (w.length : Int).toNat k, free := s.free.set (k : Int).toNat (wrap64 (rd s.free k - ms l w.length)) }).bind fun s1 => if (k : Int) < (s1.free.length : Int) then giveL (give l most m ((w.length : Int) + 1)) (ms l w.length) (w.length : Int) j ((k : Int) + 1) { s1 with free := s1.free.set (k : Int).toNat (wrap64 (rd s1.free k + ms l w.length)) } else none else giveL (give l most m ((w.length : Int) + 1)) (ms l w.length) (w.length : Int) j ((k : Int) + 1) s) else none from rfl]
    rw [if_pos ⟨by omega, by omega⟩, hrd, List.range'_succ, List.flatMap_cons, List.foldl_append]
    by_cases c : tot l (row w k) + ms l w.length ≤ most
    · rw [if_pos (by omega), if_pos c]
      have hv : wrap64 (most - tot l (row w k) - ms l w.length) = most - tot l (row w k) - ms l w.length := by unfold wrap64; omega
      rw [hv]
      simp only [Int.toNat_natCast]
      have hf1 : s.free.set k (most - tot l (row w k) - ms l w.length) = fr l most (w ++ [k]) := by rw [fr_old hk, hs.free]
      have hcn := hc.next hm hlt (by omega) c
      obtain ⟨s1, g1, g2, g3⟩ := ih (w ++ [k]) { s with which := s.which.set (w.length : Int).toNat k, free := s.free.set k (most - tot l (row w k) - ms l w.length) } (by simp; omega) hcn ⟨hf1, hs.set k⟩
      rw [hcast] at g1
      simp only [Int.toNat_natCast] at g1
      rw [g1, Option.bind_some]
      have hnt : nt (w ++ [k]) = nt w := by rw [nt_snoc]; omega
      have hl1 : s1.free.length = nt w := by rw [g2.free, fr_len, hnt]
      rw [if_pos (by omega)]
      have hrd1 : rd s1.free (k : Int) = most - tot l (row w k) - ms l w.length := by
        show s1.free.getD (k : Int).toNat 0 = _
        rw [Int.toNat_natCast, g2.free, fr_old hk]
        have : k < (fr l most w).length := by rw [fr_len]; exact hk
        simp [List.getD_eq_getElem?_getD, this]
      have hv1 : wrap64 (rd s1.free (k : Int) + ms l w.length) = most - tot l (row w k) := by rw [hrd1]; unfold wrap64; omega
      rw [hv1]
      have hf2 : s1.free.set k (most - tot l (row w k)) = fr l most w := by
        rw [g2.free, fr_old hk, List.set_set]
        apply List.ext_getElem
        · simp
        · intro i h1 h2
          rw [List.getElem_set]
          split
          · rename_i e; subst e; simp [fr]
          · rfl
      obtain ⟨s2, e1, e2, e3⟩ := ihj (k + 1) { s1 with free := s1.free.set k (most - tot l (row w k)) } (by omega) ⟨hf2, g2.back⟩
      refine ⟨s2, e1, e2, ?_⟩
      rw [e3]
      show List.foldl upd (s1.best, s1.least) _ = _
      rw [g3]
    · rw [if_neg (by omega), if_neg c]
      exact ihj (k + 1) s (by omega) hs
theorem give_eq {l : List S39} {most : Int} (hm : MsOk most l) (hl : l.length ≤ 999) : ∀ m, GiveOk l most m := by
  intro m
  induction m with
  | zero =>
    intro w s e h hs
    obtain ⟨r, hw1, hw2⟩ := hs.which
    have hr : r = [] := List.length_eq_zero_iff.1 hw2
    have hw : s.which = wi w := by rw [hw1, hr]; simp
    have hfl : s.free.length = nt w := by rw [hs.free, fr_len]
    show ∃ s', (if (s.free.length : Int) ≥ s.least then some s else (if s.which.length < 1000 then some { s with best := s.which, least := s.free.length } else none)) = some s' ∧ _
    unfold sol
    rw [hfl, hw, wi_len, List.foldl_cons, List.foldl_nil]
    by_cases c : (nt w : Int) ≥ s.least
    · rw [if_pos c]
      refine ⟨s, rfl, hs, ?_⟩
      exact (if_neg (show ¬ (nt w : Int) < (s.best, s.least).2 by show ¬ (nt w : Int) < s.least; omega)).symm
    · rw [if_neg c, if_pos (by omega)]
      refine ⟨_, rfl, ⟨hs.free, [], by simp, rfl⟩, ?_⟩
      exact (if_pos (show (nt w : Int) < (s.best, s.least).2 by show (nt w : Int) < s.least; omega)).symm
  | succ m ih =>
    intro w s e h hs
    have hlt : w.length < l.length := by omega
    have hms := ms_rng hm (p := (w.length : Int)) (by omega) (by omega)
    have hmost := hm.2.1
    have hnt := nt_len h.seq
    have hfl : s.free.length = nt w := by rw [hs.free, fr_len]
    show ∃ s', (if (s.free.length : Int) ≥ s.least then some s else (giveL (give l most m ((w.length : Int) + 1)) (ms l w.length) (w.length : Int) s.free.length 0 s).bind fun s1 => if (w.length : Int) < (s1.which.length : Int) ∧ s1.free.length < 1000 then (give l most m ((w.length : Int) + 1) { s1 with which := s1.which.set (w.length : Int).toNat s1.free.length, free := s1.free ++ [wrap64 (most - ms l w.length)] }).bind fun s2 => if 0 < s2.free.length then some { s2 with free := s2.free.take (s2.free.length - 1) } else none else none) = some s' ∧ _
    rw [hfl]
    by_cases c : (nt w : Int) ≥ s.least
    · rw [if_pos c]
      refine ⟨s, rfl, hs, (upd_none _ _ fun v hv => ?_).symm⟩
      have := (sol_mem hm (m + 1) w e h v hv).2.2.1
      show s.least ≤ _
      omega
    · rw [if_neg c]
      obtain ⟨s1, g1, g2, g3⟩ := giveL_eq hm ih w e h (nt w) 0 s (by omega) hs
      rw [show ((0 : Nat) : Int) = 0 from rfl] at g1
      rw [g1, Option.bind_some]
      obtain ⟨r, hw1, hw2⟩ := g2.which
      have hwl : s1.which.length = l.length := by rw [hw1, List.length_append, wi_len]; omega
      have hl1 : s1.free.length = nt w := by rw [g2.free, fr_len]
      rw [if_pos ⟨by omega, by omega⟩, hl1]
      have hv : wrap64 (most - ms l w.length) = most - ms l w.length := by unfold wrap64; omega
      rw [hv]
      have hf1 : s1.free ++ [most - ms l w.length] = fr l most (w ++ [nt w]) := by rw [fr_new, g2.free]
      have hcast : ((w ++ [nt w]).length : Int) = (w.length : Int) + 1 := by simp
      obtain ⟨s2, k1, k2, k3⟩ := ih (w ++ [nt w]) { s1 with which := s1.which.set (w.length : Int).toNat (nt w : Int), free := s1.free ++ [most - ms l w.length] } (by simp; omega) (h.new hm hlt) ⟨hf1, g2.set (nt w)⟩
      rw [hcast] at k1
      rw [k1, Option.bind_some]
      have hnt2 : nt (w ++ [nt w]) = nt w + 1 := by rw [nt_snoc]; omega
      have hl2 : s2.free.length = nt w + 1 := by rw [k2.free, fr_len, hnt2]
      rw [if_pos (by omega), hl2]
      have hf2 : s2.free.take (nt w + 1 - 1) = fr l most w := by
        rw [k2.free, fr_new, Nat.add_sub_cancel]
        exact List.take_left' (fr_len l most w)
      refine ⟨_, rfl, ⟨hf2, k2.back⟩, ?_⟩
      show (s2.best, s2.least) = _
      rw [k3]
      show List.foldl upd (s1.best, s1.least) _ = _
      rw [g3]
      show _ = List.foldl upd (s.best, s.least) ((List.range (nt w + 1)).flatMap fun k => if tot l (row w k) + ms l w.length ≤ most then sol l most m (w ++ [k]) else [])
      rw [List.range_succ, List.flatMap_append, List.foldl_append, List.flatMap_singleton, if_pos (fit_new hm hlt), List.range_eq_range']
theorem load_eq (l : List S39) (most : Int) (hl : l.length ≤ 999) : ∃ v, (parE l most 10 = 0 → First l most v) ∧ Ev (fun k => ship_Load.f k l most) (if parE l most 10 = 0 then (tk v, 0) else ([], parE l most 10)) := by
  by_cases c : parE l most 10 = 0
  · have hm := (parE_ok c).1
    have hg := gw_sol hm l.length [] (by simp)
    have hmem := fun v hv => sol_mem hm l.length [] (by simp) (Canon.start l most) v hv
    obtain ⟨s, g1, _, g3⟩ := give_eq hm hl l.length [] ⟨[], (l.length : Int) + 1, List.replicate l.length 0, []⟩ (by simp) (Canon.start l most) ⟨rfl, List.replicate l.length 0, by simp [wi], by simp⟩
    rcases upd_spec (sol l most l.length []) ([], (l.length : Int) + 1) with ⟨_, h2⟩ | ⟨v, h1, h2, h3, h4, h5⟩
    · have h2 := h2 _ hg
      have hc := hmem _ hg
      have := nt_len hc.1.seq
      simp only at h2
      omega
    · refine ⟨v, fun _ => ⟨h1, h4, h5⟩, ?_⟩
      rw [if_pos c]
      have hc := hmem _ h1
      have hs : s.best = wi v := by
        have : (s.best, s.least) = (wi v, (nt v : Int)) := g3.trans h2
        exact (Prod.mk.inj this).1
      unfold ship_Load.f
      refine Ev.bind (parcels_eq l most 10 (by omega)) (Ev.pos c (Ev.sb (fun _ => g1) ?_))
      rw [hs]
      exact Ev.bind (trucks_eq v hc.1.seq (by omega)) (Ev.c rfl)
  · refine ⟨[], fun h => absurd h c, ?_⟩
    rw [if_neg c]
    unfold ship_Load.f
    exact Ev.bind (parcels_eq l most 10 (by omega)) (Ev.neg c (Ev.c rfl))
end Go.Proofs.Ytegilakgfoglpaa.Pl
