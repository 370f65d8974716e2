/- Plain laws on distances: how far each node is from one node, by the program and by the reference, for every graph that passes the check. -/
import Derived.Test.YtaldnhlojllanaaPu
import Derived.Test.YtaldnhlojllanaaQ3
namespace Go.Proofs.Ytaldnhlojllanaa.Pl
open Go.RowKit Go.Proofs.Ytaldnhlojllanaa.Opn Go.Proofs.Ytaldnhlojllanaa.Q Go.Proofs.Ytaldnhlojllanaa.Gd Go.Proofs.YtaldnhlojllanaaW.PrintWords

theorem lv_ext' {L H : List Int} {n : Nat} (hl : L.length = n) (hh : H.length = n) (h : ∀ v, v < n → lv L v = lv H v) : L = H := by
  apply List.ext_getElem (by omega)
  intro i h1 h2
  have := h i (by omega)
  unfold lv at this
  simpa [List.getD_eq_getElem?_getD, h1, h2] using this
def fstep (s : Int) (d : List Int) (x : S42) : List Int := if lv d x.f1.toNat = s then (if lv d x.f0.toNat < 0 then d.set x.f0.toNat (s + 1) else d) else d
theorem fstep_len (s : Int) (d : List Int) (x : S42) : (fstep s d x).length = d.length := by
  unfold fstep
  split
  · split <;> simp
  · rfl
theorem ffold_len (s : Int) : ∀ (l : List S42) (d : List Int), (l.foldl (fstep s) d).length = d.length
  | [], _ => rfl
  | x :: l, d => by rw [List.foldl_cons, ffold_len s l, fstep_len]
def frun (l : List S42) : Nat → Int → List Int → List Int
  | 0, _, d => d
  | m + 1, s, d => frun l m (s + 1) (l.foldl (fstep s) d)
def farD (l : List S42) (n dst : Nat) : List Int := frun l n 0 ((List.replicate n (-1)).set dst 0)
theorem far_l2 (l : List S42) (N : Int) (n : Nat) (hF : Fit N l) (hN : N = (n : Int)) (j : Nat) (hj : j < n) (r : List Int) : ∀ (post pre : List S42) (d : List Int), l = pre ++ post → d.length = n → Ev (fun k => graph_far.l1 k (post.foldl (fstep (j : Int)) d) N (wrap64 ((j : Int) + 1)) N l) r → Ev (fun k => graph_far.l2 k d (j : Int) N (j : Int) l (l.length : Int) (pre.length : Int) N l) r := by
  have h64 := hF.2.1
  intro post
  induction post with
  | nil =>
    intro pre d h _ hk
    exact Ev.step (fun k => graph_far.l2.eq_2 ..) (Ev.neg (nlt_end h) hk)
  | cons x post ih =>
    intro pre d h hd hk
    have e : rd_T42 l (pre.length : Int) = x := by rw [h]; exact rd42_at pre post x
    have hx := hF.2.2.2 x (mem_at h)
    have hl := hF.2.2.1
    rw [List.foldl_cons] at hk
    have ih := ih (pre ++ [x]) (fstep (j : Int) d x) (app_one h) (by rw [fstep_len]; exact hd) hk
    refine Ev.step (fun k => graph_far.l2.eq_2 ..) (Ev.pos (lt_at h) (Ev.pos (by omega) (Ev.pos (lt_at h) ?_)))
    rw [e, wrap_next h (by omega)]
    refine Ev.pos hx.2.1 (Ev.pos (by omega) ?_)
    have hw : wrap64 ((j : Int) + 1) = (j : Int) + 1 := by unfold wrap64; omega
    by_cases c1 : lv d x.f1.toNat = (j : Int)
    · by_cases c2 : lv d x.f0.toNat < 0
      · have ef : fstep (j : Int) d x = d.set x.f0.toNat ((j : Int) + 1) := by unfold fstep; rw [if_pos c1, if_pos c2]
        rw [ef] at ih
        refine Ev.pos c1 (Ev.pos hx.1.1 (Ev.pos (by omega) (Ev.pos c2 ?_)))
        rw [hw]
        exact ih
      · have ef : fstep (j : Int) d x = d := by unfold fstep; rw [if_pos c1, if_neg c2]
        rw [ef] at ih
        exact Ev.pos c1 (Ev.pos hx.1.1 (Ev.pos (by omega) (Ev.neg c2 ih)))
    · have ef : fstep (j : Int) d x = d := by unfold fstep; rw [if_neg c1]
      rw [ef] at ih
      exact Ev.neg c1 ih
theorem far_l1 (l : List S42) (N : Int) (n : Nat) (hF : Fit N l) (hN : N = (n : Int)) : ∀ (m j : Nat) (d : List Int), j + m = n → d.length = n → Ev (fun k => graph_far.l1 k d N (j : Int) N l) (frun l m (j : Int) d) := by
  have h64 := hF.2.1
  intro m
  induction m with
  | zero =>
    intro j d hj _
    exact Ev.step (fun k => graph_far.l1.eq_2 ..) (Ev.neg (by omega) (Ev.c rfl))
  | succ m ih =>
    intro j d hj hd
    refine Ev.step (fun k => graph_far.l1.eq_2 ..) (Ev.pos (by omega) (far_l2 l N n hF hN j (by omega) _ l [] d rfl hd ?_))
    rw [wrap_nat (n := n) (by omega) (by omega)]
    exact ih (j + 1) _ (by omega) (by rw [ffold_len]; exact hd)
theorem far_l0 (l : List S42) (N : Int) (n dst : Nat) (hF : Fit N l) (hN : N = (n : Int)) (ht : dst < n) : ∀ (m j : Nat) (d : List Int), j + m = n → d.length = n → (∀ i, i < j → lv d i = -1) → Ev (fun k => graph_far.l0 k (dst : Int) d (n : Int) (j : Int) N l) (farD l n dst) := by
  have h64 := hF.2.1
  intro m
  induction m with
  | zero =>
    intro j d hj hd hi
    have e : d = List.replicate n (-1) := lv_ext' hd (by simp) fun v hv => by
      rw [hi v (by omega)]
      unfold lv
      simp [List.getD_eq_getElem?_getD, hv]
    subst e
    refine Ev.step (fun k => graph_far.l0.eq_2 ..) (Ev.neg (by omega) (Ev.pos (by omega) (Ev.pos (by omega) ?_)))
    rw [Int.toNat_natCast]
    exact far_l1 l N n hF hN n 0 _ (by omega) (by simp)
  | succ m ih =>
    intro j d hj hd hi
    refine Ev.step (fun k => graph_far.l0.eq_2 ..) (Ev.pos (by omega) (Ev.pos (by omega) (Ev.pos (by omega) ?_)))
    rw [wrap_nat (n := n) (by omega) (by omega), Int.toNat_natCast]
    refine ih (j + 1) _ (by omega) (by rw [List.length_set]; exact hd) fun i h => ?_
    rw [lv_set (by omega)]
    split
    · rfl
    · exact hi i (by omega)
theorem far_eq (l : List S42) (N : Int) (n dst : Nat) (hF : Fit N l) (hN : N = (n : Int)) (ht : dst < n) : Ev (fun k => graph_far.f k N l (dst : Int)) (farD l n dst) := by
  have h64 := hF.2.1
  unfold graph_far.f
  refine Ev.pos hF.1 (Ev.pos (by omega) (Ev.sb (fun _ => rfl) ?_))
  have e : N.toNat = n := by omega
  rw [e, List.length_replicate]
  exact far_l0 l N n dst hF hN ht n 0 _ (by omega) (by simp) fun i h => absurd h (Nat.not_lt_zero _)
end Go.Proofs.Ytaldnhlojllanaa.Pl
