/- Plain laws of the parcels' errors and of first fit as the program has them. -/
import Derived.Test.YtegilakgfoglpaaTc
import Derived.Test.YtegilakgfoglpaaTt
import Derived.Test.YtegilakgfoglpaaQ6
namespace Go.Proofs.Ytegilakgfoglpaa.Pl
open Go.RowKit Go.Proofs.Ytegilakgfoglpaa.Opn Go.Proofs.Ytegilakgfoglpaa.Q Go.Proofs.Ytegilakgfoglpaa.Gd Go.Proofs.YtegilakgfoglpaaW.PrintWords

theorem parcels_l0 (most : Int) (l : List S39) (hl : l.length ≤ 9223372036854775807) : ∀ (post pre : List S39), l = pre ++ post → Ev (fun k => ship_parcels.l0 k most l (l.length : Int) (pre.length : Int)) (pE most post) := by
  intro post
  induction post with
  | nil =>
    intro pre h
    exact Ev.step (fun k => ship_parcels.l0.eq_2 ..) (Ev.neg (nlt_end h) (Ev.c rfl))
  | cons x post ih =>
    intro pre h
    have hlt := lt_at h
    have ih := ih (pre ++ [x]) (app_one h)
    have key : ∀ b, b = decide (badP x) → Ev (fun k => ship_parcels.j2 k most l (l.length : Int) (pre.length : Int) b x.f0 x.f1) (pE most (x :: post)) := fun b hb => by
      refine Ev.step (fun k => ship_parcels.j2.eq_2 ..) ?_
      rw [wrap_next h hl, show pE most (x :: post) = if badP x then 1 else if x.f1 > most then 38 else pE most post from rfl]
      by_cases c : badP x
      · rw [if_pos c]; exact Ev.pos (by rw [hb]; exact decide_eq_true c) (Ev.c rfl)
      · rw [if_neg c]
        exact Ev.neg (by rw [hb]; simpa using c) (Ev.iteE (fun _ => Ev.c rfl) fun _ => ih)
    refine Ev.step (fun k => ship_parcels.l0.eq_2 ..) (Ev.pos hlt (Ev.pos (by omega) (Ev.pos hlt ?_)))
    rw [rd39_at h]
    unfold ship_id.f
    by_cases c0 : x.f0 ≥ 1
    · refine Ev.sb (a := decide (x.f0 ≤ 1000000)) (fun _ => by rw [if_pos c0]) ?_
      by_cases c1 : x.f0 ≤ 1000000
      · refine Ev.pos (by simpa using c1) ?_
        by_cases c2 : x.f1 < 1
        · exact Ev.pos c2 (key _ (by rw [decide_eq_true]; unfold badP; omega))
        · exact Ev.neg c2 (key _ (by apply decide_eq_decide.2; unfold badP; omega))
      · exact Ev.neg (by simpa using c1) (key _ (by rw [decide_eq_true]; unfold badP; omega))
    · refine Ev.sb (a := false) (fun _ => by rw [if_neg c0]) ?_
      exact Ev.neg (by decide) (key _ (by rw [decide_eq_true]; unfold badP; omega))
theorem parcels_eq (l : List S39) (most many : Int) (hl : l.length ≤ 9223372036854775807) : Ev (fun k => ship_parcels.f k l most many) (parE l most many) := by
  have key : ∀ b, b = decide (most < 1 ∨ most > 1099511627776) → Ev (fun k => ship_parcels.j0 k l most many b) (parE l most many) := fun b hb => by
    refine Ev.step (fun k => ship_parcels.j0.eq_2 ..) ?_
    by_cases c : most < 1 ∨ most > 1099511627776
    · rw [show parE l most many = 1 from if_pos c]
      exact Ev.pos (by rw [hb]; exact decide_eq_true c) (Ev.c rfl)
    · rw [show parE l most many = if (l.length : Int) > many then 8 else pE most l from if_neg c]
      exact Ev.neg (by rw [hb, decide_eq_false c]; decide) (Ev.iteE (fun _ => Ev.c rfl) fun _ => parcels_l0 most l hl l [] rfl)
  unfold ship_parcels.f
  by_cases c : most < 1
  · exact Ev.pos c (key _ (by rw [decide_eq_true]; omega))
  · exact Ev.neg c (key _ (by apply decide_eq_decide.2; omega))
theorem greedy_l0 {l : List S39} {most : Int} (hm : MsOk most l) (hl : l.length ≤ 1000) : ∀ (m : Nat) (w : List Nat), w.length + m = l.length → Canon l most w → Pairs l most w → Ev (fun k => ship_Greedy.l0 k most (fr l most w) (wi w) l (l.length : Int) (w.length : Int)) (tk (gw l most m w), 0) := by
  intro m
  induction m with
  | zero =>
    intro w e h hp
    refine Ev.step (fun k => ship_Greedy.l0.eq_2 ..) (Ev.neg (by omega) ?_)
    exact Ev.bind (trucks_eq w h.seq (by omega)) (Ev.c rfl)
  | succ m ih =>
    intro w e h hp
    have hlt : w.length < l.length := by omega
    have hwl : (wi w).length = w.length := by simp [wi]
    have hs := g_step hm h hlt hp
    have hms := ms_rng hm (p := (w.length : Int)) (by omega) (by omega)
    have ih := ih (w ++ [gk l most w]) (by simp; omega) hs.1 hs.2
    have hnt := nt_len h.seq
    have hmost := hm.2.1
    have hw1 : wi (w ++ [gk l most w]) = wi w ++ [(gk l most w : Int)] := by simp [wi]
    have hw2 : ((w ++ [gk l most w]).length : Int) = ((w.length + 1 : Nat) : Int) := by simp
    rw [hw1, hw2] at ih
    refine Ev.step (fun k => ship_Greedy.l0.eq_2 ..) (Ev.pos (by omega) (Ev.pos (by omega) (Ev.pos (by omega) (Ev.sb (fun _ => rfl) ?_))))
    rw [wrap_nat (n := 2000) (by omega) (by omega)]
    rw [show (rd_T39 l (w.length : Int)).f1 = ms l w.length from rfl]
    rcases idxI_find (geB (ms l w.length)) (fr l most w) with ⟨h1, h2⟩ | ⟨h1, h2⟩
    · have c : gk l most w < nt w := by rw [fr_len] at h2; exact h2
      have h1 : idxI (geB (ms l w.length)) (fr l most w) = (gk l most w : Int) := h1
      have hr := h.rng hm c
      rw [h1]
      refine Ev.neg (by omega) (Ev.pos (by omega) (Ev.pos (by rw [fr_len]; omega) (Ev.pos (by omega) ?_)))
      have hv : wrap64 (rd (fr l most w) (gk l most w : Int) - ms l w.length) = most - tot l (row w (gk l most w)) - ms l w.length := by
        have e1 : rd (fr l most w) (gk l most w : Int) = most - tot l (row w (gk l most w)) := by
          show (fr l most w).getD (gk l most w : Int).toNat 0 = _
          rw [Int.toNat_natCast]; exact fr_at c
        rw [e1]
        unfold wrap64; omega
      rw [fr_old c] at ih
      rw [hv, Int.toNat_natCast]
      exact ih
    · have c : gk l most w = nt w := by rw [fr_len] at h2; exact h2
      rw [h1]
      refine Ev.pos (by decide) (Ev.pos (by rw [fr_len]; omega) (Ev.sb (fun _ => rfl) (Ev.pos (by omega) (Ev.pos (by rw [List.length_append, List.length_singleton]; omega) (Ev.pos (by omega) ?_)))))
      have hv : wrap64 (rd (fr l most w ++ [most]) ((fr l most w).length : Int) - ms l w.length) = most - ms l w.length := by
        have e1 : rd (fr l most w ++ [most]) ((fr l most w).length : Int) = most := by simp [rd]
        rw [e1]
        unfold wrap64; omega
      rw [c, fr_new] at ih
      have e2 : (fr l most w ++ [most]).set ((fr l most w).length : Int).toNat (most - ms l w.length) = fr l most w ++ [most - ms l w.length] := by simp
      have e3 : gw l most (m + 1) w = gw l most m (w ++ [nt w]) := by show gw l most m (w ++ [gk l most w]) = _; rw [c]
      rw [hv, e2, fr_len, e3]
      exact ih
theorem greedy_eq (l : List S39) (most : Int) (hl : l.length ≤ 1000) : Ev (fun k => ship_Greedy.f k l most) (if parE l most 512 = 0 then (tk (gw l most l.length []), 0) else ([], parE l most 512)) := by
  unfold ship_Greedy.f
  refine Ev.bind (parcels_eq l most 512 (by omega)) (Ev.iteE (fun c => ?_) fun _ => Ev.c rfl)
  have hm := (parE_ok c).1
  exact greedy_l0 hm hl l.length [] (by simp) (Canon.start l most) (fun i j _ hj => by simp [nt] at hj)
end Go.Proofs.Ytegilakgfoglpaa.Pl
