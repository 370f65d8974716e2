/- The plain law of ShipPairs: any two trucks of a loading by first fit are together too heavy, for every list of parcels. -/
import Derived.Test.YtegilakgfoglpaaTo
import Derived.Test.YtegilakgfoglpaaTn
import Derived.Test.YtegilakgfoglpaaTg
import Derived.Test.YtegilakgfoglpaaStShipPairs
namespace Go.Proofs.Ytegilakgfoglpaa.Pure
open Go.RowKit Go.Proofs.Ytegilakgfoglpaa.Opn Go.Proofs.Ytegilakgfoglpaa.Q Go.Proofs.Ytegilakgfoglpaa.Gd Go.Proofs.YtegilakgfoglpaaW.PrintWords Go.Proofs.Ytegilakgfoglpaa.Pl
theorem getD_pre {pre post : List Nat} {x : Nat} {w : List Nat} (h : w = pre ++ x :: post) : w.getD pre.length 0 = x := by rw [h]; simp
theorem pairs_l0 {l : List S39} {most : Int} (hm : MsOk most l) (hl : l.length ≤ 1000) {w : List Nat} (h : Canon l most w) (hw : w.length = l.length) (a b : Nat) (hab : a < b) (_ : b < nt w) (hp : most < tot l (row w a) + tot l (row w b)) : ∀ (post pre : List Nat), w = pre ++ post → Ev (fun k => papermilllaw56_ShipPairs.l0 k l most (a : Int) (b : Int) (tk w) (tot l (row pre a) + tot l (row pre b)) (pre.length : Int)) true := by
  intro post
  induction post with
  | nil =>
    intro pre e
    have e1 : pre = w := by rw [e]; simp
    rw [e1]
    exact Ev.step (fun k => papermilllaw56_ShipPairs.l0.eq_2 ..) (Ev.neg (by omega) (Ev.pos (by omega) (Ev.bind awake_eq (Ev.c rfl))))
  | cons x post ih =>
    intro pre e
    have hlt := lt_at e
    have hn := number_eq w h.seq (by omega) pre.length (by omega)
    rw [getD_pre e] at hn
    have ih := ih (pre ++ [x]) (app_one e)
    have hms := ms_rng hm (p := (pre.length : Int)) (by omega) (by omega)
    have hmost := hm.2.1
    have hra := row_len pre a
    have hrb := row_len pre b
    have hta := tot_rng hm (row pre a) (row_in (by omega) a)
    have htb := tot_rng hm (row pre b) (row_in (by omega) b)
    have ba : ((row pre a).length : Int) * most ≤ 1000 * 1099511627776 := Int.mul_le_mul (by omega) hmost (by have := hm.1; omega) (by omega)
    have bb : ((row pre b).length : Int) * most ≤ 1000 * 1099511627776 := Int.mul_le_mul (by omega) hmost (by have := hm.1; omega) (by omega)
    have hadd : wrap64 (tot l (row pre a) + tot l (row pre b) + (rd_T39 l (pre.length : Int)).f1) = tot l (row pre a) + tot l (row pre b) + ms l pre.length := by
      show wrap64 (_ + ms l pre.length) = _
      unfold wrap64; omega
    rw [row_snoc, row_snoc] at ih
    refine Ev.step (fun k => papermilllaw56_ShipPairs.l0.eq_2 ..) (Ev.pos (by omega) (Ev.bind hn ?_))
    rw [hadd, wrap_next e (by omega)]
    by_cases c1 : x = a
    · rw [if_pos c1, if_neg (by omega), tot_snoc] at ih
      refine Ev.pos (by omega) (Ev.pos (by omega) ?_)
      rw [show tot l (row pre a) + tot l (row pre b) + ms l pre.length = tot l (row pre a) + ms l pre.length + tot l (row pre b) by omega]
      exact ih
    · refine Ev.neg (by omega) ?_
      by_cases c2 : x = b
      · rw [if_neg c1, if_pos c2, tot_snoc] at ih
        refine Ev.pos (by omega) (Ev.pos (by omega) ?_)
        rw [Int.add_assoc]
        exact ih
      · rw [if_neg c1, if_neg c2] at ih
        exact Ev.neg (by omega) ih
theorem ShipPairs : ShipPairs_Pure := by
  intro l most i k _ _ _ _
  refine Ev.rounds ?_
  unfold papermilllaw56_ShipPairs.f
  by_cases c : (l.length : Int) > 100
  · exact Ev.pos c (Ev.bind awake_eq (Ev.c rfl))
  refine Ev.neg c (Ev.bind (greedy_eq l most (by omega)) ?_)
  by_cases c1 : parE l most 512 = 0
  · rw [if_pos c1]
    have hm := (parE_ok c1).1
    have hg := gw_spec hm l.length [] (by simp) (Canon.start l most) (fun i j _ hj => by simp [nt] at hj)
    generalize gw l most l.length [] = w at hg ⊢
    refine Ev.pos rfl (Ev.bind (once_eq hm (by omega) hg.1 hg.2.2) (Ev.pos rfl ?_))
    by_cases d1 : i < 0
    · exact Ev.pos d1 (Ev.bind awake_eq (Ev.c rfl))
    refine Ev.neg d1 ?_
    by_cases d2 : k ≤ i
    · exact Ev.pos d2 (Ev.bind awake_eq (Ev.c rfl))
    refine Ev.neg d2 ?_
    by_cases d3 : k ≥ ((tk w).length : Int)
    · exact Ev.pos d3 (Ev.bind awake_eq (Ev.c rfl))
    refine Ev.neg d3 ?_
    rw [tk_len] at d3
    obtain ⟨a, rfl⟩ := Int.eq_ofNat_of_zero_le (show 0 ≤ i by omega)
    obtain ⟨b, rfl⟩ := Int.eq_ofNat_of_zero_le (show 0 ≤ k by omega)
    exact pairs_l0 hm (by omega) hg.1 hg.2.2 a b (by omega) (by omega) (hg.2.1 a b (by omega) (by omega)) w [] rfl
  · rw [if_neg c1]
    exact Ev.neg c1 (Ev.pos rfl (Ev.bind awake_eq (Ev.c rfl)))
end Go.Proofs.Ytegilakgfoglpaa.Pure
