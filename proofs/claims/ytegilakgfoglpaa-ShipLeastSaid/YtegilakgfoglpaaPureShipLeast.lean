/- The plain law of ShipLeast: no loading is less than the least, for every list of parcels and every list of truck numbers. -/
import Derived.Test.YtegilakgfoglpaaTn
import Derived.Test.YtegilakgfoglpaaTl
import Derived.Test.YtegilakgfoglpaaStShipLeast
namespace Go.Proofs.Ytegilakgfoglpaa.Pure
open Go.RowKit Go.Proofs.Ytegilakgfoglpaa.Opn Go.Proofs.Ytegilakgfoglpaa.Q Go.Proofs.Ytegilakgfoglpaa.Gd Go.Proofs.YtegilakgfoglpaaW.PrintWords Go.Proofs.Ytegilakgfoglpaa.Pl
theorem Ev.iteE' {α : Type} {c : Prop} [Decidable c] {a b : Nat → Option α} {r : α} (h : c → Ev a r) (k : ¬ c → Ev b r) : Ev (fun n => if c then a n else b n) r := by
  by_cases d : c
  · exact Ev.pos d (h d)
  · exact Ev.neg d (k d)
theorem least_l1 {l : List S39} {most : Int} {v : List Nat} (hc : Canon l most v) (hl : l.length ≤ 999) (hvl : v.length = l.length) (u : List Nat) (hul : u.length = l.length) (h : v = u ∨ Lx v u) : ∀ (d p : Nat), p + d = l.length → (∀ q, q < p → v.getD q 0 = u.getD q 0) → Ev (fun k => papermilllaw56_ShipLeast.l1 k (wi u) (tk v) (p : Int)) true := by
  intro d
  induction d with
  | zero =>
    intro p e _
    exact Ev.step (fun k => papermilllaw56_ShipLeast.l1.eq_2 ..) (Ev.neg (by rw [wi_len]; omega) (Ev.bind awake_eq (Ev.c rfl)))
  | succ d ih =>
    intro p e hq
    have hp : p < v.length := by omega
    have hrd : rd (wi u) (p : Int) = (u.getD p 0 : Int) := by
      have hp2 : p < u.length := by omega
      simp [rd, wi, List.getD_eq_getElem?_getD, hp2]
    refine Ev.step (fun k => papermilllaw56_ShipLeast.l1.eq_2 ..) (Ev.pos (by rw [wi_len]; omega) (Ev.bind (number_eq v hc.seq (by omega) p hp) (Ev.pos (by omega) ?_)))
    rw [hrd, wrap_nat (n := 2000) (j := p) (by omega) (by omega)]
    by_cases c : v.getD p 0 = u.getD p 0
    · refine Ev.pos (by omega) (ih (p + 1) (by omega) fun q hq2 => ?_)
      by_cases d2 : q = p
      · rw [d2]; exact c
      · exact hq q (by omega)
    · refine Ev.neg (by omega) (Ev.pos ?_ (Ev.bind awake_eq (Ev.c rfl)))
      rcases h with h | ⟨p0, h1, h2⟩
      · exact absurd (by rw [h]) c
      · by_cases d2 : p0 < p
        · have := hq p0 d2; omega
        · by_cases d3 : p < p0
          · exact absurd (h1 p d3) c
          · have e3 : p0 = p := by omega
            rw [e3] at h2; omega
/-- What each number's truck carries. -/
def tt (l : List S39) (w : List Nat) : List Int := (List.range l.length).map fun k => tot l (row w k)
theorem tt_at {l : List S39} {w : List Nat} {k : Nat} (h : k < l.length) : (tt l w).getD k 0 = tot l (row w k) := by simp [tt, List.getD_eq_getElem?_getD, h]
theorem tt_next {l : List S39} {w : List Nat} {k : Nat} : tt l (w ++ [k]) = (tt l w).set k (tot l (row w k) + ms l w.length) := by
  apply List.ext_getElem
  · simp [tt]
  · intro i h1 h2
    rw [List.getElem_set]
    simp only [tt, List.getElem_map, List.getElem_range]
    rw [row_snoc]
    by_cases e : k = i
    · subst e; rw [if_pos rfl, if_pos rfl, tot_snoc]
    · rw [if_neg e, if_neg e]
theorem tt_nil (l : List S39) : tt l [] = List.replicate l.length 0 := by
  apply List.ext_getElem
  · simp [tt]
  · intro i h1 h2
    simp [tt, row_nil, tot]
theorem least_l0 {l : List S39} {most : Int} (hm : MsOk most l) (hl : l.length ≤ 999) {v : List Nat} (hv : First l most v) (a : List Int) (ha : a.length = l.length) : ∀ (post pre : List Int) (w : List Nat), a = pre ++ post → wi w = pre → Canon l most w → (∀ u ∈ sol l most post.length w, u ∈ sol l most l.length []) → Ev (fun k => papermilllaw56_ShipLeast.l0 k l most a (tk v) (nt w : Int) (tt l w) (pre.length : Int)) true := by
  have hc := sol_mem hm l.length [] (by simp) (Canon.start l most) v hv.mem
  intro post
  induction post with
  | nil =>
    intro pre w e hw h hsub
    have e1 : a = wi w := by rw [hw, e]; simp
    have hwl : w.length = l.length := by rw [← ha, e1, wi_len]
    have hmem := hsub w (by unfold sol; simp)
    have hle := hv.least w hmem
    refine Ev.step (fun k => papermilllaw56_ShipLeast.l0.eq_2 ..) (Ev.neg (nlt_end e) ?_)
    rw [tk_len, e1]
    by_cases c : nt v = nt w
    · refine Ev.pos (by omega) ?_
      have hb := find_before (sol_lex hm l.length [] (by simp) (Canon.start l most)) hv.first hmem (by unfold upto; rw [decide_eq_true_eq]; omega)
      exact least_l1 hc.1 hl hc.2.1 w hwl hb l.length 0 (by omega) (fun q hq => by omega)
    · exact Ev.neg (by omega) (Ev.pos (by omega) (Ev.bind awake_eq (Ev.c rfl)))
  | cons x post ih =>
    intro pre w e hw h hsub
    have hlt := lt_at e
    have hpl : pre.length = w.length := by rw [← hw, wi_len]
    have hwl : w.length < l.length := by omega
    have hms := ms_rng hm (p := (w.length : Int)) (by omega) (by omega)
    have hmost := hm.2.1
    refine Ev.step (fun k => papermilllaw56_ShipLeast.l0.eq_2 ..) (Ev.pos hlt (Ev.pos (by omega) ?_))
    rw [rd_at e, wrap_next e (by omega)]
    refine Ev.iteE' (fun _ => Ev.bind awake_eq (Ev.c rfl)) fun c1 => Ev.iteE' (fun _ => Ev.bind awake_eq (Ev.c rfl)) fun c2 => Ev.iteE' (fun _ => Ev.bind awake_eq (Ev.c rfl)) fun c3 => ?_
    obtain ⟨k, rfl⟩ := Int.eq_ofNat_of_zero_le (show 0 ≤ x by omega)
    have hk : k ≤ nt w := by omega
    have hkl : k < l.length := by omega
    have htr := tot_rng hm (row w k) (row_in (by omega) k)
    have hrl := row_len w k
    have hb : ((row w k).length : Int) * most ≤ 1000 * 1099511627776 := Int.mul_le_mul (by omega) hmost (by have := hm.1; omega) (by omega)
    have hrd : rd (tt l w) (k : Int) = tot l (row w k) := by
      show (tt l w).getD (k : Int).toNat 0 = _
      rw [Int.toNat_natCast]; exact tt_at hkl
    have hM : (rd_T39 l (pre.length : Int)).f1 = ms l w.length := by rw [hpl]; rfl
    rw [hrd, hM, Int.toNat_natCast]
    have hv1 : wrap64 (most - tot l (row w k)) = most - tot l (row w k) := by unfold wrap64; omega
    have hv2 : wrap64 (tot l (row w k) + ms l w.length) = tot l (row w k) + ms l w.length := by unfold wrap64; omega
    have hv3 : mx (nt w : Int) (wrap64 ((k : Int) + 1)) = (nt (w ++ [k]) : Int) := by
      rw [wrap_nat (n := 2000) (j := k) (by omega) (by omega), nt_snoc]
      unfold mx; split <;> omega
    rw [hv1, hv2, hv3, ← tt_next]
    refine Ev.pos (by omega) (Ev.neg (by omega) (Ev.pos (by omega) (Ev.pos (by simp [tt]; omega) (Ev.iteE' (fun _ => Ev.bind awake_eq (Ev.c rfl)) fun c4 => ?_))))
    have hf : tot l (row w k) + ms l w.length ≤ most := by omega
    exact ih (pre ++ [(k : Int)]) (w ++ [k]) (app_one e) (by rw [wi_snoc, hw]) (h.next hm hwl hk hf) (fun u hu => hsub u (by rw [List.length_cons]; exact sol_sub hk hf hu))
theorem ShipLeast : ShipLeast_Pure := by
  intro l most a _ _ _
  refine Ev.rounds ?_
  unfold papermilllaw56_ShipLeast.f
  by_cases c : (l.length : Int) > 10
  · exact Ev.pos c (Ev.bind awake_eq (Ev.c rfl))
  refine Ev.neg c ?_
  by_cases c1 : (a.length : Int) = (l.length : Int)
  · refine Ev.pos c1 ?_
    obtain ⟨v, hv, h1⟩ := load_eq l most (by omega)
    refine Ev.bind h1 ?_
    by_cases c2 : parE l most 10 = 0
    · rw [if_pos c2]
      have hm := (parE_ok c2).1
      refine Ev.pos rfl (Ev.pos (by omega) (Ev.pos (by omega) ?_))
      rw [Int.toNat_natCast, ← tt_nil]
      exact least_l0 hm (by omega) (hv c2) a (by omega) a [] [] rfl rfl (Canon.start l most) (fun u hu => by rw [show a.length = l.length by omega] at hu; exact hu)
    · rw [if_neg c2]
      exact Ev.neg c2 (Ev.pos rfl (Ev.bind awake_eq (Ev.c rfl)))
  · exact Ev.neg c1 (Ev.bind awake_eq (Ev.c rfl))
end Go.Proofs.Ytegilakgfoglpaa.Pure
