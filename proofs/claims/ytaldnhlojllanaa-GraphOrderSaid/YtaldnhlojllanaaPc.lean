/- Plain laws on cycles: a graph has a whole order exactly if it has no cycle; so has the graph reversed. -/
import Derived.Test.YtaldnhlojllanaaPo
import Derived.Test.YtaldnhlojllanaaPu
namespace Go.Proofs.Ytaldnhlojllanaa.Pl
open Go.RowKit Go.Proofs.Ytaldnhlojllanaa.Opn Go.Proofs.Ytaldnhlojllanaa.Q Go.Proofs.Ytaldnhlojllanaa.Gd Go.Proofs.YtaldnhlojllanaaW.PrintWords

/-- Where there is an order each arc leads on in it. -/
theorem IsOrd.no_cyc {l : List S42} {N : Int} {n : Nat} {out : List Int} (hF : Fit N l) (hN : N = (n : Int)) (h : IsOrd l n out) (v : Nat) : ¬ OnCyc l v := by
  have hpos : ∀ u w, Arc l u w → ∀ p q, out = p ++ (w : Int) :: q → (u : Int) ∈ p := fun u w ⟨x, hx, h0, h1⟩ p q ho => by
    have hxr := hF.2.2.2 x hx
    have := h.pre p q (w : Int) ho x hx (by omega)
    have e : x.f0 = (u : Int) := by omega
    rwa [e] at this
  have hpath : ∀ u w, Path l u w → ∀ p q, out = p ++ (w : Int) :: q → u = w ∨ (u : Int) ∈ p := fun u w hp => by
    induction hp with
    | refl => exact fun _ _ _ => Or.inl rfl
    | @step w1 w2 _ ha ih =>
      intro p q ho
      right
      have h1 := hpos w1 w2 ha p q ho
      obtain ⟨p1, q1, hp1⟩ := List.append_of_mem h1
      rcases ih p1 (q1 ++ (w2 : Int) :: q) (by rw [ho, hp1]; simp) with rfl | h2
      · exact h1
      · rw [hp1]; exact List.mem_append_left _ h2
  rintro ⟨u, ha, hp⟩
  have hv := (arc_lt hF hN ha).1
  obtain ⟨p, q, ho⟩ := List.append_of_mem (h.all v hv)
  have hnd := h.nodup
  have hvp : (v : Int) ∉ p := fun hc => by
    rw [ho, List.nodup_append] at hnd
    exact hnd.2.2 (v : Int) hc (v : Int) (by simp) rfl
  rcases hpath u v hp p q ho with rfl | h2
  · exact hvp (hpos u u ha p q ho)
  · obtain ⟨p1, q1, hp1⟩ := List.append_of_mem h2
    have h3 := hpos v u ha p1 (q1 ++ (v : Int) :: q) (by rw [ho, hp1]; simp)
    exact hvp (by rw [hp1]; exact List.mem_append_left _ h3)
open Classical in
/-- From which nodes a path leads to a node. -/
noncomputable def anc (l : List S42) (n v : Nat) : List Bool := (List.range n).map fun u => decide (Path l u v)
theorem mk_anc {l : List S42} {n v u : Nat} : mkd (anc l n v) u ↔ u < n ∧ Path l u v := by
  unfold mkd anc
  rw [List.getD_eq_getElem?_getD, List.getElem?_map]
  by_cases h : u < n
  · rw [List.getElem?_range h]; simp [h]
  · rw [List.getElem?_eq_none (by simpa using h)]; simp [h]
theorem Stuck.cyc {l : List S42} {n : Nat} {d : List Bool} (h : Stuck l n d) : ∃ v, OnCyc l v := by
  apply Classical.byContradiction
  intro hno
  have hno : ∀ v, ¬ OnCyc l v := fun v hv => hno ⟨v, hv⟩
  have key : ∀ (m v : Nat), ct (anc l n v) ≤ m → v < n → ¬ mkd d v → False := by
    intro m
    induction m with
    | zero =>
      intro v hm hv _
      have h1 : mkd (anc l n v) v := mk_anc.2 ⟨hv, Path.refl⟩
      have h2 : ct ((List.replicate n false).set v true) ≤ ct (anc l n v) := ct_mono _ _ (by simp [anc]) fun u hu => by
        rcases mk_of_set hu with rfl | hu
        · exact h1
        · exact absurd hu mk_rep
      rw [ct_set (by simpa using hv) mk_rep] at h2
      omega
    | succ m ih =>
      intro v hm hv hd
      obtain ⟨u, hu, hdu, ha⟩ := h.back v hv hd
      refine ih u ?_ hu hdu
      have hnv : ¬ mkd (anc l n u) v := fun hc => hno v ⟨v, (by
        exact absurd ⟨v, (show Arc l u v from ha), (show Path l v u from (mk_anc.1 hc).2)⟩ (hno u)), Path.refl⟩
      have h2 : ct ((anc l n u).set v true) ≤ ct (anc l n v) := ct_mono _ _ (by simp [anc]) fun w hw => by
        rcases mk_of_set hw with rfl | hw
        · exact mk_anc.2 ⟨hv, Path.refl⟩
        · have := mk_anc.1 hw
          exact mk_anc.2 ⟨this.1, this.2.step ha⟩
      rw [ct_set (by simpa [anc] using hv) hnv] at h2
      omega
  obtain ⟨u, hu, hd⟩ := h.some
  exact key _ u (Nat.le_refl _) hu hd
/-- What graph.Order returns: an order where there is no cycle, the error where there is one. -/
theorem order_cyc (N : Int) (l : List S42) (hl : l.length ≤ 9223372036854775807) (c : chk N l = 0) : ∃ r, Ev (fun k => graph_Order.f k N l) r ∧ ((r.2 = 0 ∧ IsOrd l N.toNat r.1 ∧ ∀ v, ¬ OnCyc l v) ∨ (r = ([], 11) ∧ ∃ v, OnCyc l v)) := by
  have hF := chk_fit c
  have h1 := hF.1
  obtain ⟨r, h, h2 | ⟨h2, d, h3⟩⟩ := order_spec N l hl c
  · exact ⟨r, h, Or.inl ⟨h2.1, h2.2, fun v => h2.2.no_cyc hF (by omega) v⟩⟩
  · exact ⟨r, h, Or.inr ⟨h2, h3.cyc⟩⟩
/-- The arcs turned round. -/
def sw (x : S42) : S42 := ⟨x.f1, x.f0⟩
theorem sw_sw (l : List S42) : (l.map sw).map sw = l := by
  rw [List.map_map]
  exact List.map_id'' (fun x => rfl) l
theorem fit_sw {N : Int} {l : List S42} (h : Fit N l) : Fit N (l.map sw) := by
  obtain ⟨h1, h2, h3, h4⟩ := h
  refine ⟨h1, h2, by rw [List.length_map]; exact h3, fun x hx => ?_⟩
  obtain ⟨y, hy, rfl⟩ := List.mem_map.1 hx
  have := h4 y hy
  exact ⟨this.2, this.1⟩
theorem arc_sw {l : List S42} {u v : Nat} (h : Arc l u v) : Arc (l.map sw) v u := by
  obtain ⟨x, hx, h0, h1⟩ := h
  exact ⟨sw x, List.mem_map_of_mem hx, h1, h0⟩
theorem path_sw {l : List S42} {u v : Nat} (h : Path l u v) : Path (l.map sw) v u := by
  induction h with
  | refl => exact Path.refl
  | step _ ha ih => exact (Path.one (arc_sw ha)).trans ih
theorem path_sw_iff {l : List S42} {u v : Nat} : Path l u v ↔ Path (l.map sw) v u := ⟨path_sw, fun h => by have := path_sw h; rwa [sw_sw] at this⟩
theorem cyc_sw {l : List S42} (h : ∃ v, OnCyc l v) : ∃ v, OnCyc (l.map sw) v := by
  obtain ⟨v, u, ha, hp⟩ := h
  exact ⟨u, v, arc_sw ha, path_sw hp⟩
theorem reverse_l0 (N : Int) (l : List S42) (hl : l.length ≤ 512) : ∀ (post pre : List S42), l = pre ++ post → Ev (fun k => graph_Reverse.l0 k l (l.length : Int) (pre.length : Int) N (pre.map sw)) (N, l.map sw, 0) := by
  intro post
  induction post with
  | nil =>
    intro pre h
    have e : pre = l := by rw [h]; simp
    refine Ev.step (fun k => graph_Reverse.l0.eq_2 ..) (Ev.neg (nlt_end h) (Ev.c (by rw [e])))
  | cons x post ih =>
    intro pre h
    have e : rd_T42 l (pre.length : Int) = x := by rw [h]; exact rd42_at pre post x
    have hlt := lt_at h
    refine Ev.step (fun k => graph_Reverse.l0.eq_2 ..) (Ev.pos hlt (Ev.pos (by omega) (Ev.pos hlt (Ev.pos (by rw [List.length_map]; omega) ?_))))
    rw [e, wrap_next h (by omega)]
    have := ih (pre ++ [x]) (app_one h)
    rw [List.map_append] at this
    exact this
theorem reverse_eq (N : Int) (l : List S42) (hl : l.length ≤ 9223372036854775807) : Ev (fun k => graph_Reverse.f k N l) (if chk N l = 0 then (N, l.map sw, 0) else (0, [], chk N l)) := by
  unfold graph_Reverse.f
  by_cases c : chk N l = 0
  · rw [if_pos c]
    exact Ev.bind (check_eq N l hl) (Ev.pos c (reverse_l0 N l (chk_fit c).2.2.1 l [] rfl))
  · rw [if_neg c]
    exact Ev.bind (check_eq N l hl) (Ev.neg c (Ev.c rfl))
end Go.Proofs.Ytaldnhlojllanaa.Pl
