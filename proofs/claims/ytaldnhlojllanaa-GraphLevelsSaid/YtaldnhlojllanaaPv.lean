/- Plain laws on levels: what the levels of a graph with an order are, for every graph that passes the check. -/
import Derived.Test.YtaldnhlojllanaaPo
namespace Go.Proofs.Ytaldnhlojllanaa.Pl
open Go.RowKit Go.Proofs.Ytaldnhlojllanaa.Opn Go.Proofs.Ytaldnhlojllanaa.Q Go.Proofs.Ytaldnhlojllanaa.Gd Go.Proofs.YtaldnhlojllanaaW.PrintWords

/-- The level of a node. -/
def lv (L : List Int) (u : Nat) : Int := L.getD u 0
theorem lv_set {L : List Int} {u v : Nat} {a : Int} (hu : u < L.length) : lv (L.set u a) v = if u = v then a else lv L v := by
  unfold lv
  simp only [List.getD_eq_getElem?_getD, List.getElem?_set]
  by_cases e : u = v
  · subst e; simp [hu]
  · simp [e]
theorem mx_eq (a b : Int) : mx a b = if a ≤ b then b else a := by
  unfold mx
  first | rfl | (split <;> split <;> omega) | (simp only [Int.max_def])
/-- The levels of a graph: each arc leads up, each level above 0 is reached from the one below, none is as great as the number of nodes. -/
structure IsLev (l : List S42) (n : Nat) (L : List Int) : Prop where
  len : L.length = n
  up : ∀ x ∈ l, lv L x.f0.toNat + 1 ≤ lv L x.f1.toNat
  from' : ∀ v, v < n → 0 < lv L v → ∃ x ∈ l, x.f1.toNat = v ∧ lv L v = lv L x.f0.toNat + 1
  rng : ∀ v, v < n → 0 ≤ lv L v ∧ lv L v < n
/-- The levels so far, where the nodes of pre have been taken. -/
structure LevInv (l : List S42) (n : Nat) (pre : List Int) (L : List Int) : Prop where
  len : L.length = n
  up : ∀ x ∈ l, x.f0 ∈ pre → lv L x.f0.toNat + 1 ≤ lv L x.f1.toNat
  from' : ∀ v, v < n → 0 < lv L v → ∃ x ∈ l, x.f1.toNat = v ∧ x.f0 ∈ pre ∧ lv L v = lv L x.f0.toNat + 1
  nn : ∀ v, v < n → 0 ≤ lv L v
  le : ∀ v, v < n → lv L v ≤ pre.length
  at' : ∀ (p q : List Int) (v : Int), pre = p ++ v :: q → lv L v.toNat ≤ p.length
/-- In the loop over the arcs: L0 are the levels before the node u. -/
structure LevMid (l : List S42) (n : Nat) (u : Int) (L0 : List Int) (done : List S42) (L : List Int) : Prop where
  len : L.length = n
  ge : ∀ v, v < n → lv L0 v ≤ lv L v
  here : lv L u.toNat = lv L0 u.toNat
  up : ∀ x ∈ done, x.f0 = u → lv L0 u.toNat + 1 ≤ lv L x.f1.toNat
  new : ∀ v, v < n → lv L v = lv L0 v ∨ (lv L v = lv L0 u.toNat + 1 ∧ lv L0 v < lv L v ∧ ∃ x ∈ l, x.f0 = u ∧ x.f1.toNat = v)
theorem levels_l1 (l : List S42) (N : Int) (n : Nat) (hF : Fit N l) (hN : N = (n : Int)) (u : Int) (hu : 0 ≤ u ∧ u < N) (L0 : List Int) (hno : ∀ x ∈ l, x.f0 = u → x.f1.toNat ≠ u.toNat) (hb : 0 ≤ lv L0 u.toNat ∧ lv L0 u.toNat ≤ 64) (out : List Int) (j : Int) :
    ∀ (post pre : List S42) (L : List Int), l = pre ++ post → LevMid l n u L0 pre L → ∃ L', LevMid l n u L0 l L' ∧ ∀ r, Ev (fun k => graph_Levels.l0 k L' out (out.length : Int) (wrap64 (j + 1)) N l) r → Ev (fun k => graph_Levels.l1 k L u out (out.length : Int) j l (l.length : Int) (pre.length : Int) N l) r := by
  intro post
  induction post with
  | nil =>
    intro pre L h hM
    have e : pre = l := by rw [h]; simp
    refine ⟨L, ?_, fun r hk => Ev.step (fun k => graph_Levels.l1.eq_2 ..) (Ev.neg (nlt_end h) hk)⟩
    rw [← e]
    rw [← e] at hM
    exact hM
  | cons x post ih =>
    intro pre L h hM
    have e : rd_T42 l (pre.length : Int) = x := by rw [h]; exact rd42_at pre post x
    have hxm := mem_at h
    have hx := hF.2.2.2 x hxm
    have hl := hF.2.2.1
    have hlen := hM.len
    by_cases c : x.f0 = u
    · have hw : wrap64 (rd L u + 1) = lv L0 u.toNat + 1 := by
        have : rd L u = lv L0 u.toNat := by rw [← hM.here]; rfl
        rw [this]
        unfold wrap64
        omega
      have hM' : LevMid l n u L0 (pre ++ [x]) (L.set x.f1.toNat (mx (rd L x.f1) (wrap64 (rd L u + 1)))) := by
        rw [hw, mx_eq]
        have hv : x.f1.toNat < n := by omega
        have hne := hno x hxm c
        have hge := hM.ge x.f1.toNat hv
        have hnew := hM.new x.f1.toNat hv
        have hr : rd L x.f1 = lv L x.f1.toNat := rfl
        rw [hr]
        refine ⟨by rw [List.length_set]; exact hM.len, fun v hvn => ?_, ?_, fun y hy hy0 => ?_, fun v hvn => ?_⟩
        · rw [lv_set (by omega)]
          have := hM.ge v hvn
          split
          · rename_i e2; subst e2; split <;> omega
          · exact this
        · rw [lv_set (by omega), if_neg hne]
          exact hM.here
        · rw [lv_set (by omega)]
          rcases List.mem_append.1 hy with hy | hy
          · have := hM.up y hy hy0
            split
            · rename_i e2; rw [← e2] at this; split <;> omega
            · exact this
          · rw [List.mem_singleton] at hy
            subst hy
            rw [if_pos rfl]
            split <;> omega
        · rw [lv_set (by omega)]
          split
          · rename_i e2
            subst e2
            split
            · rename_i h5
              by_cases h6 : lv L0 x.f1.toNat < lv L0 u.toNat + 1
              · exact Or.inr ⟨rfl, h6, x, hxm, c, rfl⟩
              · left; omega
            · exact hnew
          · exact hM.new v hvn
      obtain ⟨L', g1, g2⟩ := ih (pre ++ [x]) (L.set x.f1.toNat (mx (rd L x.f1) (wrap64 (rd L u + 1)))) (app_one h) hM'
      refine ⟨L', g1, fun r hk => Ev.step (fun k => graph_Levels.l1.eq_2 ..) (Ev.pos (lt_at h) (Ev.pos (by omega) (Ev.pos (lt_at h) ?_)))⟩
      rw [e, wrap_next h (by omega)]
      exact Ev.pos c (Ev.pos hx.2.1 (Ev.pos (by omega) (Ev.pos hu.1 (Ev.pos (by omega) (g2 r hk)))))
    · have hM' : LevMid l n u L0 (pre ++ [x]) L := ⟨hM.len, hM.ge, hM.here, fun y hy hy0 => by
        rcases List.mem_append.1 hy with hy | hy
        · exact hM.up y hy hy0
        · rw [List.mem_singleton] at hy; subst hy; exact absurd hy0 c, hM.new⟩
      obtain ⟨L', g1, g2⟩ := ih (pre ++ [x]) L (app_one h) hM'
      refine ⟨L', g1, fun r hk => Ev.step (fun k => graph_Levels.l1.eq_2 ..) (Ev.pos (lt_at h) (Ev.pos (by omega) (Ev.pos (lt_at h) ?_)))⟩
      rw [e, wrap_next h (by omega)]
      exact Ev.neg c (g2 r hk)
theorem LevInv.next {l : List S42} {N : Int} {n : Nat} {pre rest out : List Int} {u : Int} {L L' : List Int} (hF : Fit N l) (hN : N = (n : Int)) (hO : IsOrd l n out) (ho : out = pre ++ u :: rest) (h : LevInv l n pre L) (hM : LevMid l n u L l L') : LevInv l n (pre ++ [u]) L' := by
  have hur := hO.rng u (by rw [ho]; simp)
  have hnd := hO.nodup
  rw [ho] at hnd
  have hnew : ∀ w ∈ pre ++ [u], lv L' w.toNat = lv L w.toNat := fun w hw => by
    have hwr := hO.rng w (by rw [ho]; rcases List.mem_append.1 hw with hw | hw <;> simp_all)
    rcases hM.new w.toNat (by omega) with h1 | ⟨_, _, x, hx, hx0, hx1⟩
    · exact h1
    · exfalso
      have hxr := hF.2.2.2 x hx
      have hxw : x.f1 = w := by omega
      rcases List.mem_append.1 hw with hw | hw
      · obtain ⟨p, q, hpq⟩ := List.append_of_mem hw
        have h2 := hO.pre p (q ++ u :: rest) w (by rw [ho, hpq]; simp) x hx hxw
        rw [hx0] at h2
        rw [hpq, List.nodup_append] at hnd
        exact hnd.2.2 u (by simp [h2]) u (by simp) rfl
      · rw [List.mem_singleton] at hw
        have h2 := hO.pre pre rest u ho x hx (by rw [hxw, hw])
        rw [hx0] at h2
        rw [List.nodup_append] at hnd
        exact hnd.2.2 u h2 u (by simp) rfl
  have huL : lv L u.toNat ≤ pre.length := h.le u.toNat (by omega)
  refine ⟨hM.len, fun x hx hx0 => ?_, fun v hv hp => ?_, fun v hv => by have := h.nn v hv; have := hM.ge v hv; omega, fun v hv => ?_, fun p q v hpq => ?_⟩
  · rw [hnew x.f0 hx0]
    rcases List.mem_append.1 hx0 with hx0 | hx0
    · have h1 := h.up x hx hx0
      have hxr := hF.2.2.2 x hx
      have := hM.ge x.f1.toNat (by omega)
      omega
    · rw [List.mem_singleton] at hx0
      have := hM.up x hx hx0
      rw [hx0]
      exact this
  · rcases hM.new v hv with h1 | ⟨h1, _, x, hx, hx0, hx1⟩
    · rw [h1] at hp
      obtain ⟨x, hx, hx1, hx0, hx2⟩ := h.from' v hv hp
      exact ⟨x, hx, hx1, List.mem_append_left _ hx0, by rw [h1, hx2, hnew x.f0 (List.mem_append_left _ hx0)]⟩
    · refine ⟨x, hx, hx1, by rw [hx0]; simp, ?_⟩
      rw [h1, hx0, hnew u (by simp)]
  · rw [List.length_append, List.length_singleton]
    have := h.le v hv
    rcases hM.new v hv with h1 | ⟨h1, _⟩ <;> omega
  · have hv : v ∈ pre ++ [u] := by rw [hpq]; simp
    rw [hnew v hv]
    rcases split_last hpq with ⟨_, rfl, rfl⟩ | ⟨q', _, hpre⟩
    · exact huL
    · exact h.at' p q' v hpre
theorem levels_l0 (l : List S42) (N : Int) (n : Nat) (hF : Fit N l) (hN : N = (n : Int)) (out : List Int) (hO : IsOrd l n out) : ∀ (post pre : List Int) (L : List Int), out = pre ++ post → LevInv l n pre L → ∃ L', Ev (fun k => graph_Levels.l0 k L out (out.length : Int) (pre.length : Int) N l) (L', 0) ∧ LevInv l n out L' := by
  -- the levels are found whatever the loops' own rounds: the states are functions of those before
  have h64 := hF.2.1
  have hol := hO.len
  intro post
  induction post with
  | nil =>
    intro pre L h hI
    have e : pre = out := by rw [h]; simp
    rw [e] at hI
    exact ⟨L, Ev.step (fun k => graph_Levels.l0.eq_2 ..) (Ev.neg (nlt_end h) (Ev.c rfl)), hI⟩
  | cons u post ih =>
    intro pre L h hI
    have hur := hO.rng u (by rw [h]; simp)
    have hno : ∀ x ∈ l, x.f0 = u → x.f1.toNat ≠ u.toNat := fun x hx hx0 hx1 => by
      have hxr := hF.2.2.2 x hx
      have h2 := hO.pre pre post u h x hx (by omega)
      have hnd := hO.nodup
      rw [hx0] at h2
      rw [h, List.nodup_append] at hnd
      exact hnd.2.2 u h2 u (by simp) rfl
    have hrd : rd out (pre.length : Int) = u := by rw [h]; simp [rd]
    have hb := hI.le u.toNat (by omega)
    have hb0 := hI.nn u.toNat (by omega)
    have hpl : pre.length < n := by have := congrArg List.length h; simp at this; omega
    obtain ⟨L1, g1, g2⟩ := levels_l1 l N n hF hN u (by omega) L hno (by omega) out (pre.length : Int) l [] L rfl ⟨hI.len, fun _ _ => Int.le_refl _, rfl, fun _ hy => absurd hy (by simp), fun _ _ => Or.inl rfl⟩
    obtain ⟨L2, g3, g4⟩ := ih (pre ++ [u]) L1 (app_one h) (hI.next hF hN hO h g1)
    refine ⟨L2, Ev.step (fun k => graph_Levels.l0.eq_2 ..) (Ev.pos (lt_at h) (Ev.pos (by omega) (Ev.pos (lt_at h) ?_))), g4⟩
    rw [hrd]
    refine g2 _ ?_
    rw [wrap_next h (by omega)]
    exact g3
theorem lv_rep {n u : Nat} : lv (List.replicate n 0) u = 0 := by
  unfold lv
  rw [List.getD_eq_getElem?_getD, List.getElem?_replicate]
  split <;> rfl
theorem LevInv.start (l : List S42) (n : Nat) : LevInv l n [] (List.replicate n 0) :=
  ⟨by simp, fun _ _ h => absurd h (by simp), fun v _ h => by rw [lv_rep] at h; omega, fun v _ => by rw [lv_rep]; omega, fun v _ => by rw [lv_rep]; simp, fun p q v h => by simp at h⟩
theorem LevInv.whole {l : List S42} {N : Int} {n : Nat} {out : List Int} {L : List Int} (hF : Fit N l) (hN : N = (n : Int)) (hO : IsOrd l n out) (h : LevInv l n out L) : IsLev l n L := by
  refine ⟨h.len, fun x hx => h.up x hx ?_, fun v hv hp => ?_, fun v hv => ⟨h.nn v hv, ?_⟩⟩
  · have hxr := hF.2.2.2 x hx
    have := hO.all x.f0.toNat (by omega)
    rwa [Int.toNat_of_nonneg hxr.1.1] at this
  · obtain ⟨x, hx, h1, _, h2⟩ := h.from' v hv hp
    exact ⟨x, hx, h1, h2⟩
  · obtain ⟨p, q, hpq⟩ := List.append_of_mem (hO.all v hv)
    have h1 := h.at' p q v hpq
    rw [Int.toNat_natCast] at h1
    have h2 := congrArg List.length hpq
    have h3 := hO.len
    simp at h2
    omega
/-- What graph.Levels returns. -/
theorem levels_spec (N : Int) (l : List S42) (hl : l.length ≤ 9223372036854775807) : ∃ r o, Ev (fun k => graph_Levels.f k N l) r ∧ Ev (fun k => graph_Order.f k N l) o ∧ r.2 = o.2 ∧ (o.2 ≠ 0 → r.1 = []) ∧ r.1.length ≤ 64 ∧ (o.2 = 0 → chk N l = 0 ∧ IsOrd l N.toNat o.1 ∧ IsLev l N.toNat r.1) := by
  unfold graph_Levels.f
  by_cases c : chk N l = 0
  · have hF := chk_fit c
    have h1 := hF.1
    have h2 := hF.2.1
    obtain ⟨o, ho, hs⟩ := order_spec N l hl c
    rcases hs with ⟨hz, hO⟩ | ⟨rfl, _⟩
    · obtain ⟨L, g1, g2⟩ := levels_l0 l N N.toNat hF (by omega) o.1 hO o.1 [] (List.replicate N.toNat 0) rfl (LevInv.start l N.toNat)
      have hL := g2.whole hF (by omega) hO
      refine ⟨(L, 0), o, Ev.bind ho (Ev.pos hz (Ev.pos h1 (Ev.pos (by omega) g1))), ho, hz.symm, fun h => absurd hz h, by show L.length ≤ 64; rw [hL.len]; omega, fun _ => ⟨c, hO, hL⟩⟩
    · exact ⟨([], 11), ([], 11), Ev.bind ho (Ev.neg (by decide) (Ev.c rfl)), ho, rfl, fun _ => rfl, by simp, fun h => absurd h (by decide)⟩
  · have ho : Ev (fun k => graph_Order.f k N l) ([], chk N l) := by
      unfold graph_Order.f
      exact Ev.bind (check_eq N l hl) (Ev.neg c (Ev.c rfl))
    exact ⟨([], chk N l), ([], chk N l), Ev.bind ho (Ev.neg c (Ev.c rfl)), ho, rfl, fun _ => rfl, by simp, fun h => absurd h c⟩
end Go.Proofs.Ytaldnhlojllanaa.Pl
