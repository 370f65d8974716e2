/- The plain law of GraphOrder: orders and cycles exclude each other, and both prove themselves, for every graph. -/
import Derived.Test.YtaldnhlojllanaaPg
import Derived.Test.YtaldnhlojllanaaPk
import Derived.Test.YtaldnhlojllanaaPc
import Derived.Test.YtaldnhlojllanaaStGraphOrder
namespace Go.Proofs.Ytaldnhlojllanaa.Pure
open Go.RowKit Go.Proofs.Ytaldnhlojllanaa.Opn Go.Proofs.Ytaldnhlojllanaa.Q Go.Proofs.Ytaldnhlojllanaa.Gd Go.Proofs.YtaldnhlojllanaaW.PrintWords Go.Proofs.Ytaldnhlojllanaa.Pl

/-! ### The order proves itself -/
/-- The places of an order's first nodes. -/
structure Placed (n : Nat) (pre pl : List Int) : Prop where
  len : pl.length = n
  out : ∀ u : Nat, u < n → (u : Int) ∉ pre → lv pl u = 0
  at' : ∀ (p q : List Int) (u : Nat), pre = p ++ (u : Int) :: q → lv pl u = (p.length : Int) + 1
theorem mem_split {l : List Int} {a : Int} (h : a ∈ l) : ∃ p q, l = p ++ a :: q := List.append_of_mem h
theorem ord_l1 (l : List S42) (N : Int) (n : Nat) (hF : Fit N l) (hN : N = (n : Int)) (out pl : List Int) (hO : IsOrd l n out) (hP : Placed n out pl) : ∀ (post pre : List S42), l = pre ++ post → Ev (fun k => papermilllaw10_GraphOrder.l1 k pl (pre.length : Int) N l) true := by
  intro post
  induction post with
  | nil =>
    intro pre h
    exact Ev.step (fun k => papermilllaw10_GraphOrder.l1.eq_2 ..) (Ev.neg (nlt_end h) (Ev.bind awake_eq (Ev.c rfl)))
  | cons x post ih =>
    intro pre h
    have e : rd_T42 l (pre.length : Int) = x := by rw [h]; exact rd42_at pre post x
    have hx := hF.2.2.2 x (mem_at h)
    have hl := hF.2.2.1
    have hlen := hP.len
    have ih := ih (pre ++ [x]) (app_one h)
    refine Ev.step (fun k => papermilllaw10_GraphOrder.l1.eq_2 ..) (Ev.pos (lt_at h) (Ev.pos (by omega) ?_))
    rw [e, wrap_next h (by omega)]
    have hlt : lv pl x.f0.toNat < lv pl x.f1.toNat := by
      obtain ⟨p, q, hpq⟩ := mem_split (hO.all x.f1.toNat (by omega))
      have h1 := hP.at' p q x.f1.toNat hpq
      have h2 := hO.pre p q _ hpq x (mem_at h) (by omega)
      obtain ⟨p1, q1, hp1⟩ := mem_split h2
      have h3 := hP.at' p1 (q1 ++ (x.f1.toNat : Int) :: q) x.f0.toNat (by rw [hpq, hp1, Int.toNat_of_nonneg hx.1.1]; simp)
      rw [h1, h3, hp1]
      simp only [List.length_append, List.length_cons]
      omega
    exact Ev.neg (by omega) (Ev.neg (by omega) (Ev.neg (by omega) (Ev.neg (by omega) (Ev.pos hx.1.1 (Ev.pos (by omega) (Ev.pos hx.2.1 (Ev.pos (by omega) (Ev.neg (by show ¬ lv pl x.f0.toNat ≥ lv pl x.f1.toNat; omega) ih))))))))
theorem ord_l0 (l : List S42) (N : Int) (n : Nat) (hF : Fit N l) (hN : N = (n : Int)) (out : List Int) (hO : IsOrd l n out) : ∀ (post pre pl : List Int), out = pre ++ post → Placed n pre pl → Ev (fun k => papermilllaw10_GraphOrder.l0 k out pl (pre.length : Int) N l) true := by
  have h64 := hF.2.1
  intro post
  induction post with
  | nil =>
    intro pre pl h hP
    have e : pre = out := by rw [h]; simp
    rw [e] at hP ⊢
    exact Ev.step (fun k => papermilllaw10_GraphOrder.l0.eq_2 ..) (Ev.neg (by omega) (ord_l1 l N n hF hN out pl hO hP l [] rfl))
  | cons v post ih =>
    intro pre pl h hP
    have hol := hO.len
    have hlt := lt_at h
    have e : rd out (pre.length : Int) = v := by rw [h]; unfold rd; simp
    have hv := hO.rng v (by rw [h]; simp)
    have hnp : v ∉ pre := fun hc => by
      have hnd := hO.nodup
      rw [h, List.nodup_append] at hnd
      exact hnd.2.2 v hc v (by simp) rfl
    have hz := hP.out v.toNat (by omega) (by rw [Int.toNat_of_nonneg hv.1]; exact hnp)
    have hlen := hP.len
    refine Ev.step (fun k => papermilllaw10_GraphOrder.l0.eq_2 ..) (Ev.pos hlt (Ev.pos (by omega) ?_))
    rw [e]
    refine Ev.neg (by omega) (Ev.neg (by omega) (Ev.pos hv.1 (Ev.pos (by omega) (Ev.pos hz ?_))))
    rw [wrap_next h (by omega)]
    refine ih (pre ++ [v]) _ (app_one h) ⟨by rw [List.length_set]; exact hlen, fun u hu hnu => ?_, fun p q u hpq => ?_⟩
    · rw [lv_set (by omega)]
      have hnu' : (u : Int) ∉ pre ∧ (u : Int) ≠ v := by simpa using hnu
      rw [if_neg (by omega)]
      exact hP.out u hu hnu'.1
    · have hu : u < n := by
        have := hO.rng u (by rw [app_one h, hpq]; simp)
        omega
      rw [lv_set (by omega)]
      rcases split_last hpq with ⟨_, rfl, e2⟩ | ⟨q', _, hq⟩
      · rw [if_pos (by omega)]
        simp
      · rw [if_neg]
        · exact hP.at' p q' u hq
        · intro hc
          exact hnp (by rw [hq, ← hc, Int.toNat_of_nonneg hv.1] at *; simp)

/-! ### The cycle proves itself -/
theorem arc_l0 (l : List S42) (N : Int) (hl : l.length ≤ 512) (a b : Int) : ∀ (post pre : List S42), l = pre ++ post → (∃ x ∈ post, x.f0 = a ∧ x.f1 = b) → Ev (fun k => papermilllaw10_arc.l0 k a b (pre.length : Int) N l) true := by
  intro post
  induction post with
  | nil =>
    intro pre h ⟨x, hx, _⟩
    simp at hx
  | cons x post ih =>
    intro pre h hx
    have e : rd_T42 l (pre.length : Int) = x := by rw [h]; exact rd42_at pre post x
    refine Ev.step (fun k => papermilllaw10_arc.l0.eq_2 ..) (Ev.pos (lt_at h) (Ev.pos (by omega) ?_))
    rw [e, wrap_next h (by omega)]
    have ih := ih (pre ++ [x]) (app_one h)
    by_cases c0 : x.f0 = a
    · by_cases c1 : x.f1 = b
      · exact Ev.pos c0 (Ev.pos c1 (Ev.c rfl))
      · refine Ev.pos c0 (Ev.neg c1 (ih ?_))
        obtain ⟨y, hy, y0, y1⟩ := hx
        rcases List.mem_cons.1 hy with rfl | hy
        · exact absurd y1 c1
        · exact ⟨y, hy, y0, y1⟩
    · refine Ev.neg c0 (ih ?_)
      obtain ⟨y, hy, y0, y1⟩ := hx
      rcases List.mem_cons.1 hy with rfl | hy
      · exact absurd y0 c0
      · exact ⟨y, hy, y0, y1⟩
theorem cyc_l3 (l : List S42) (N : Int) (n : Nat) (hn : n ≤ 64) (c : List Int) (hC : IsCyc l n c) (i : Nat) (hi : i < c.length) (r : Bool) (hk : Ev (fun k => papermilllaw10_GraphOrder.l2 k c ((i + 1 : Nat) : Int) N l) r) : ∀ (m j : Nat), j + m = i → Ev (fun k => papermilllaw10_GraphOrder.l3 k c (i : Int) (j : Int) N l) r := by
  have hle := hC.le
  intro m
  induction m with
  | zero =>
    intro j hj
    refine Ev.step (fun k => papermilllaw10_GraphOrder.l3.eq_2 ..) (Ev.neg (by omega) ?_)
    rw [wrap_nat (n := 100) (by omega) (by omega)]
    exact hk
  | succ m ih =>
    intro j hj
    have hne := hC.apart j i (by omega) hi
    refine Ev.step (fun k => papermilllaw10_GraphOrder.l3.eq_2 ..) (Ev.pos (by omega) (Ev.pos (by omega) (Ev.pos (by omega) (Ev.pos (by omega) (Ev.pos (by omega) (Ev.neg ?_ ?_))))))
    · show ¬ lv c (j : Int).toNat = lv c (i : Int).toNat
      rw [Int.toNat_natCast, Int.toNat_natCast]
      exact hne
    · rw [wrap_nat (n := 100) (by omega) (by omega)]
      exact ih (j + 1) (by omega)
theorem cyc_l2' (l : List S42) (N : Int) (n : Nat) (hl : l.length ≤ 512) (hn : n ≤ 64) (c : List Int) (hC : IsCyc l n c) : ∀ (m i : Nat), i + m = c.length → Ev (fun k => papermilllaw10_GraphOrder.l2 k c (i : Int) N l) true := by
  have hle := hC.le
  have hpos := hC.pos
  intro m
  induction m with
  | zero =>
    intro i hi
    exact Ev.step (fun k => papermilllaw10_GraphOrder.l2.eq_2 ..) (Ev.neg (by omega) (Ev.bind awake_eq (Ev.c rfl)))
  | succ m ih =>
    intro i hi
    refine Ev.step (fun k => papermilllaw10_GraphOrder.l2.eq_2 ..) (Ev.pos (by omega) (Ev.pos (by omega) (Ev.neg (by omega) ?_)))
    rw [wrap_nat (n := 100) (by omega) (by omega)]
    have h3 := cyc_l3 l N n hn c hC i (by omega) true (ih (i + 1) (by omega)) i 0 (by omega)
    have hleast : ¬ rd c (i : Int) < rd c 0 := by
      have := hC.least i (by omega)
      show ¬ lv c (i : Int).toNat < lv c (0 : Int).toNat
      rw [Int.toNat_natCast]
      have e0 : (0 : Int).toNat = 0 := rfl
      rw [e0]
      omega
    by_cases e : i + 1 < c.length
    · have ht : Int.tmod ((i + 1 : Nat) : Int) (c.length : Int) = ((i + 1 : Nat) : Int) := Int.tmod_eq_of_lt (by omega) (by omega)
      rw [ht]
      refine Ev.pos (by omega) (Ev.pos (by omega) (Ev.bind ?_ (Ev.pos rfl (Ev.pos (by omega) (Ev.neg hleast h3)))))
      unfold papermilllaw10_arc.f
      refine arc_l0 l N hl _ _ l [] rfl ?_
      have := hC.arcs i e
      show ∃ x ∈ l, x.f0 = lv c (i : Int).toNat ∧ x.f1 = lv c ((i + 1 : Nat) : Int).toNat
      rw [Int.toNat_natCast, Int.toNat_natCast]
      exact this
    · have e' : i + 1 = c.length := by omega
      have ht : Int.tmod ((i + 1 : Nat) : Int) (c.length : Int) = 0 := by rw [e']; exact Int.tmod_self
      rw [ht]
      refine Ev.pos (by omega) (Ev.pos (by omega) (Ev.bind ?_ (Ev.pos rfl (Ev.pos (by omega) (Ev.neg hleast h3)))))
      unfold papermilllaw10_arc.f
      refine arc_l0 l N hl _ _ l [] rfl ?_
      have := hC.last i e'
      show ∃ x ∈ l, x.f0 = lv c (i : Int).toNat ∧ x.f1 = lv c (0 : Int).toNat
      rw [Int.toNat_natCast]
      exact this
theorem GraphOrder : GraphOrder_Pure := by
  intro x0 _
  refine Ev.rounds ?_
  generalize x0.f0 = N
  generalize x0.f1 = l
  unfold papermilllaw10_GraphOrder.f
  refine Ev.sb (fun n => rfl) ?_
  by_cases c : (l.length : Int) > 600
  · exact Ev.pos (by simpa using c) (Ev.bind awake_eq (Ev.c rfl))
  refine Ev.neg (by simpa using c) ?_
  obtain ⟨r, h1, h2⟩ := cycle_eq N l (by omega)
  rcases h2 with ⟨k, rfl⟩ | ⟨k, h2⟩
  · refine Ev.bind (a := ([], chk N l)) ?_ (Ev.bind h1 (Ev.bind (check_eq N l (by omega)) (Ev.neg k (Ev.pos rfl (Ev.pos rfl (Ev.pos rfl (Ev.pos rfl (Ev.bind awake_eq (Ev.c rfl)))))))))
    unfold graph_Order.f
    exact Ev.bind (check_eq N l (by omega)) (Ev.neg k (Ev.c rfl))
  · have hF := chk_fit k
    obtain ⟨h0, h64, h512, _⟩ := hF
    have hN : N = (N.toNat : Int) := by omega
    have hF := chk_fit k
    obtain ⟨o, g1, g2⟩ := order_cyc N l (by omega) k
    refine Ev.bind g1 (Ev.bind h1 (Ev.bind (check_eq N l (by omega)) (Ev.pos k ?_)))
    rcases g2 with ⟨e1, e2, e3⟩ | ⟨rfl, v0, e3⟩
    · rcases h2 with ⟨rfl, _⟩ | ⟨v, _, hv, _⟩
      · have hol := e2.len
        refine Ev.pos e1 (Ev.pos rfl (Ev.pos rfl (Ev.pos (by omega) (Ev.pos h0 (Ev.pos (by omega) ?_)))))
        exact ord_l0 l N N.toNat hF hN o.1 e2 o.1 [] _ rfl ⟨by simp, fun u hu _ => by simp [lv, List.getD_eq_getElem?_getD, hu], fun p q u hpq => by simp at hpq⟩
      · exact absurd hv (e3 v)
    · rcases h2 with ⟨_, hno⟩ | ⟨v, hvn, hv, hleast, rfl⟩
      · have : v0 < N.toNat := by
          obtain ⟨u, ha, _⟩ := e3
          exact (arc_lt hF hN ha).1
        exact absurd e3 (hno v0 this)
      · have hC := cyc_is l N N.toNat v hF hN hvn hv hleast
        have hpos := hC.pos
        have hle := hC.le
        refine Ev.neg (by decide) (Ev.pos rfl (Ev.pos rfl (Ev.pos rfl (Ev.neg ?_ (Ev.neg ?_ ?_)))))
        · show ¬ ((cyc l N.toNat v).length : Int) = 0
          omega
        · show ¬ ((cyc l N.toNat v).length : Int) > N
          omega
        · exact cyc_l2' l N N.toNat h512 (by omega) _ hC (cyc l N.toNat v).length 0 (by omega)
end Go.Proofs.Ytaldnhlojllanaa.Pure
