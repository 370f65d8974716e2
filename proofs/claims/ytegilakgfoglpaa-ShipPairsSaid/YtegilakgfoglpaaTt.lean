/- The plain law of the trucks of a loading. -/
import Derived.Test.YtegilakgfoglpaaTb
import Derived.Test.YtegilakgfoglpaaQ3
namespace Go.Proofs.Ytegilakgfoglpaa.Pl
open Go.RowKit Go.Proofs.Ytegilakgfoglpaa.Opn Go.Proofs.Ytegilakgfoglpaa.Q Go.Proofs.Ytegilakgfoglpaa.Gd Go.Proofs.YtegilakgfoglpaaW.PrintWords

/-! ### What trucks(which) returns -/
theorem trucks_l0 (w : List Nat) (hs : Seq w) (hl : w.length ≤ 1000) : ∀ (post pre : List Nat), w = pre ++ post → Ev (fun k => ship_trucks.l0 k (tk pre) (wi w) ((wi w).length : Int) (pre.length : Int)) (tk w) := by
  have hwl : (wi w).length = w.length := by simp [wi]
  intro post
  induction post with
  | nil =>
    intro pre h
    have e : pre = w := by rw [h]; simp
    rw [e, hwl]
    exact Ev.step (fun k => ship_trucks.l0.eq_2 ..) (Ev.neg (by omega) (Ev.c rfl))
  | cons x post ih =>
    intro pre h
    have hlt := lt_at h
    have hx := hs pre x post h
    have hpl : pre.length < w.length := by omega
    have hsp : Seq pre := fun a b c e => hs a b (c ++ x :: post) (by rw [h, e]; simp)
    have hnt := nt_len hsp
    have hr : rd (wi w) (pre.length : Int) = (x : Int) := by rw [h]; simp [rd, wi]
    have ih := ih (pre ++ [x]) (app_one h)
    rw [tk_snoc pre x hx] at ih
    have hrl : ∀ j, (row pre j).length ≤ 1000 := fun j => Nat.le_trans (row_len pre j) (by omega)
    rw [hwl] at ih ⊢
    refine Ev.step (fun k => ship_trucks.l0.eq_2 ..) (Ev.pos hlt (Ev.pos (by omega) (Ev.pos (by rw [hwl]; exact hlt) ?_)))
    rw [hr, tk_len, wrap_nat (n := 2000) (by omega) (by omega)]
    rw [List.length_append, List.length_singleton] at ih
    by_cases c : x = nt pre
    · refine Ev.pos (by omega) (Ev.pos (by omega) (Ev.sb (fun _ => rfl) (Ev.pos (by omega) (Ev.pos (by rw [List.length_append, tk_len, List.length_singleton]; omega) ?_))))
      have e1 : rd_L2 (tk pre ++ [[]]) (x : Int) = [] := by rw [rdL_at, c, List.getD_eq_getElem?_getD, ← tk_len pre]; simp
      have e2 : (tk pre ++ [[]]).set (x : Int).toNat ([] ++ [(pre.length : Int)]) = addT (tk pre) x pre.length := by
        unfold addT
        rw [if_neg (by rw [tk_len]; omega), Int.toNat_natCast, c, ← tk_len pre]
        simp
      rw [e1, e2]
      exact Ev.pos (by simp) ih
    · have hlt2 : x < nt pre := by omega
      refine Ev.neg (by omega) (Ev.pos (by omega) (Ev.pos (by omega) ?_))
      rw [rdL_at, tk_at hlt2, Int.toNat_natCast]
      have e2 : (tk pre).set x (row pre x ++ [(pre.length : Int)]) = addT (tk pre) x pre.length := by
        unfold addT
        rw [if_pos (by rw [tk_len]; exact hlt2), tk_at hlt2]
      rw [e2]
      exact Ev.pos (by have := hrl x; omega) ih
theorem trucks_eq (w : List Nat) (hs : Seq w) (hl : w.length ≤ 1000) : Ev (fun k => ship_trucks.f k (wi w)) (tk w) := by
  unfold ship_trucks.f
  exact trucks_l0 w hs hl w [] rfl
end Go.Proofs.Ytegilakgfoglpaa.Pl
