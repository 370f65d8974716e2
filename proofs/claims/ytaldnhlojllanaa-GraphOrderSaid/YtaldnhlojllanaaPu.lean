/- Plain laws on graphs: a list's value at a node; nodes on cycles. -/
import Derived.Test.YtaldnhlojllanaaPr
namespace Go.Proofs.Ytaldnhlojllanaa.Pl
open Go.RowKit Go.Proofs.Ytaldnhlojllanaa.Opn Go.Proofs.Ytaldnhlojllanaa.Q Go.Proofs.Ytaldnhlojllanaa.Gd Go.Proofs.YtaldnhlojllanaaW.PrintWords

/-- The level of a node. -/
def lv (L : List Int) (u : Nat) : Int := L.getD u 0
theorem lv_set {L : List Int} {u v : Nat} {a : Int} (hu : u < L.length) : lv (L.set u a) v = if u = v then a else lv L v := by
  unfold lv
  simp only [List.getD_eq_getElem?_getD, List.getElem?_set]
  by_cases e : u = v
  · subst e; simp [hu]
  · simp [e]
/-- Is a node on a cycle. -/
def OnCyc (l : List S42) (v : Nat) : Prop := ∃ u, Arc l v u ∧ Path l u v
theorem arc_lt {l : List S42} {N : Int} {n : Nat} (hF : Fit N l) (hN : N = (n : Int)) {u v : Nat} (h : Arc l u v) : u < n ∧ v < n := by
  obtain ⟨x, hx, h0, h1⟩ := h
  have := hF.2.2.2 x hx
  omega
theorem path_lt {l : List S42} {N : Int} {n : Nat} (hF : Fit N l) (hN : N = (n : Int)) {u v : Nat} (h : Path l u v) : u = v ∨ (u < n ∧ v < n) := by
  induction h with
  | refl => exact Or.inl rfl
  | step _ ha ih =>
    have := arc_lt hF hN ha
    rcases ih with rfl | ih
    · exact Or.inr this
    · exact Or.inr ⟨ih.1, this.2⟩
end Go.Proofs.Ytaldnhlojllanaa.Pl
