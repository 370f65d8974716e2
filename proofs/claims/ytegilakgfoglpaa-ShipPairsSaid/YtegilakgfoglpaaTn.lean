/- Plain laws on which truck a parcel is, for every list of parcels. -/
import Derived.Test.YtegilakgfoglpaaTb
import Derived.Test.YtegilakgfoglpaaQ7
namespace Go.Proofs.Ytegilakgfoglpaa.Pl
open Go.RowKit Go.Proofs.Ytegilakgfoglpaa.Opn Go.Proofs.Ytegilakgfoglpaa.Q Go.Proofs.Ytegilakgfoglpaa.Gd Go.Proofs.YtegilakgfoglpaaW.PrintWords

/-! ### On which truck a parcel is -/
theorem number_l1 (w : List Nat) (hl : w.length ≤ 1000) (p : Int) (i : Nat) (hi : i < nt w) (hn : nt w ≤ 1000) (r : Int) (hk : ¬ p ∈ row w i → Ev (fun k => papermilllaw56_number.l0 k (tk w) p ((i + 1 : Nat) : Int)) r) (hr : p ∈ row w i → r = i) : ∀ (r2 r1 : List Int), row w i = r1 ++ r2 → ¬ p ∈ r1 → Ev (fun k => papermilllaw56_number.l1 k (tk w) p (i : Int) (r1.length : Int)) r := by
  have hrl := row_len w i
  intro r2
  induction r2 with
  | nil =>
    intro r1 e hp
    have e1 : r1 = row w i := by rw [e]; simp
    refine Ev.step (fun k => papermilllaw56_number.l1.eq_2 ..) (Ev.pos (by omega) (Ev.pos (by rw [tk_len]; omega) ?_))
    rw [rdL_at, tk_at hi, e1, wrap_nat (n := 2000) (j := i) (by omega) (by omega)]
    rw [e1] at hp
    exact Ev.neg (by omega) (hk hp)
  | cons x r2 ih =>
    intro r1 e hp
    have hlt := lt_at e
    refine Ev.step (fun k => papermilllaw56_number.l1.eq_2 ..) (Ev.pos (by omega) (Ev.pos (by rw [tk_len]; omega) ?_))
    rw [rdL_at, tk_at hi, rd_at e, wrap_next e (by omega)]
    refine Ev.pos hlt (Ev.pos (by omega) ?_)
    by_cases c : x = p
    · refine Ev.pos c (Ev.c ?_)
      exact (hr (by rw [e]; simp [c])).symm
    · exact Ev.neg c (ih (r1 ++ [x]) (app_one e) (by simp [hp]; exact fun h => c h.symm))
theorem number_eq (w : List Nat) (hs : Seq w) (hl : w.length ≤ 1000) (p : Nat) (hp : p < w.length) : Ev (fun k => papermilllaw56_number.f k (tk w) (p : Int)) (w.getD p 0 : Int) := by
  have hnt := nt_len hs
  have hc := get_lt hp
  have key : ∀ (m i : Nat), i + m = w.getD p 0 → Ev (fun k => papermilllaw56_number.l0 k (tk w) (p : Int) (i : Int)) (w.getD p 0 : Int) := by
    intro m
    induction m with
    | zero =>
      intro i e
      have e1 : i = w.getD p 0 := by omega
      have hin : (p : Int) ∈ row w i := mem_row.2 ⟨by omega, by omega, by rw [Int.toNat_natCast]; exact e1.symm⟩
      refine Ev.step (fun k => papermilllaw56_number.l0.eq_2 ..) (Ev.pos (by rw [tk_len]; omega) ?_)
      exact number_l1 w hl p i (by omega) (by omega) _ (fun h => absurd hin h) (fun _ => by omega) (row w i) [] rfl (by simp)
    | succ m ih =>
      intro i e
      have hni : ¬ (p : Int) ∈ row w i := fun h => by have := (mem_row.1 h).2.2; rw [Int.toNat_natCast] at this; omega
      refine Ev.step (fun k => papermilllaw56_number.l0.eq_2 ..) (Ev.pos (by rw [tk_len]; omega) ?_)
      exact number_l1 w hl p i (by omega) (by omega) _ (fun _ => ih (i + 1) (by omega)) (fun h => absurd h hni) (row w i) [] rfl (by simp)
  unfold papermilllaw56_number.f
  exact key (w.getD p 0) 0 (by omega)
end Go.Proofs.Ytegilakgfoglpaa.Pl
