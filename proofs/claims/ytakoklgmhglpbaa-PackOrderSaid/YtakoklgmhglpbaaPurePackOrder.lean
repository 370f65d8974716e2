/- The law PackOrder in plain Lean: for every list of batches and every number of sheets, within their kinds' bounds, the parts of the reams and what is left are, put together, the batches' sheets in their order. -/
import Derived.Test.YtakoklgmhglpbaaStPackOrder
import Derived.Test.YtakoklgmhglpbaaPg
namespace Go.Proofs.Ytakoklgmhglpbaa.Pure
open Go.RowKit Go.Proofs.Ytakoklgmhglpbaa.Opn Go.Proofs.Ytakoklgmhglpbaa.Q Go.Proofs.Ytakoklgmhglpbaa.Gd Go.Proofs.YtakoklgmhglpbaaW.PrintWords Go.Proofs.Ytakoklgmhglpbaa.Pl
/-- The parts of reams, put together. -/
def flat : List S38 → List S43
  | [] => []
  | r :: l => r.f0 ++ flat l
theorem flat_app (a b : List S38) : flat (a ++ b) = flat a ++ flat b := by
  induction a with
  | nil => rfl
  | cons x a ih => simp only [List.cons_append, flat, ih, List.append_assoc]
/-- Parts that follow on each other, from f to t, of the roll r. -/
def Chain (r t : Int) : Int → List S43 → Prop
  | f, [] => f = t
  | f, x :: l => x.f0 = r ∧ x.f1.f0 = f ∧ f < x.f1.f1 ∧ x.f1.f1 ≤ t ∧ Chain r t x.f1.f1 l
theorem go_chain (per r t : Int) (hper : 1 ≤ per) : ∀ (n : Nat) (s : St) (f : Int), (t - f).toNat ≤ n → f ≤ t → 1 ≤ s.m →
    ∃ c, Chain r t f c ∧ flat (go per n s r f t).o ++ (go per n s r f t).p = flat s.o ++ s.p ++ c ∧ c.length + s.o.length ≤ (go per n s r f t).o.length + 1 := by
  intro n
  induction n with
  | zero =>
    intro s f hn hf _
    exact ⟨[], by show f = t; omega, by simp [go], by simp [go]⟩
  | succ n ih =>
    intro s f hn hf h1
    unfold go
    by_cases c1 : t - f ≥ s.m
    · rw [if_pos c1]
      obtain ⟨c, hc, hf2, hl⟩ := ih ⟨s.o ++ [⟨s.p ++ [⟨r, ⟨f, f + s.m⟩⟩]⟩], [], per⟩ (f + s.m) (by omega) (by omega) hper
      refine ⟨⟨r, ⟨f, f + s.m⟩⟩ :: c, ⟨rfl, rfl, by show f < f + s.m; omega, by show f + s.m ≤ t; omega, hc⟩, ?_, ?_⟩
      · rw [hf2]
        simp [flat_app, flat]
      · simp only [List.length_append, List.length_cons, List.length_nil] at hl ⊢
        omega
    · rw [if_neg c1]
      by_cases c2 : t - f > 0
      · rw [if_pos c2]
        exact ⟨[⟨r, ⟨f, t⟩⟩], ⟨rfl, rfl, by show f < t; omega, Int.le_refl _, rfl⟩, by simp, by simp only [List.length_cons, List.length_nil]; omega⟩
      · rw [if_neg c2]
        exact ⟨[], by show f = t; omega, by simp, by simp only [List.length_nil]; omega⟩
/-- Parts that are batches' sheets in their order. -/
inductive Parts : List S43 → List S43 → Prop
  | nil : Parts [] []
  | cons (x : S43) (l c p : List S43) : Chain x.f0 x.f1.f1 x.f1.f0 c → Parts l p → Parts (x :: l) (c ++ p)
theorem goAll_parts (per : Int) (hper : 1 ≤ per) : ∀ (l : List S43) (s : St) (q : Nat), (∀ x ∈ l, Ok x) → Pl.Good per q s →
    ∃ p, Parts l p ∧ flat (goAll per l s).o ++ (goAll per l s).p = flat s.o ++ s.p ++ p ∧ p.length + s.o.length ≤ (goAll per l s).o.length + l.length := by
  intro l
  induction l with
  | nil => intro s q _ _; exact ⟨[], .nil, by simp [goAll], by simp [goAll]⟩
  | cons x l ih =>
    intro s q hv h
    have hx := hv x List.mem_cons_self
    have h1 : Pl.Good per (q + 1) (go per (sz x).toNat s x.f0 x.f1.f0 x.f1.f1) :=
      go_good per x.f0 hx.r1 hx.r2 x.f1.f1 hx.t q (sz x).toNat s x.f1.f0 (Nat.le_refl _) hx.f0 hx.ft (h.le (Nat.le_succ q)).o h.v h.s h.n h.m1 h.m2
    obtain ⟨p, hp, hf, hl⟩ := ih _ (q + 1) (fun y hy => hv y (List.mem_cons_of_mem _ hy)) h1
    obtain ⟨c, hc, hf2, hl2⟩ := go_chain per x.f0 x.f1.f1 hper (sz x).toNat s x.f1.f0 (Nat.le_refl _) hx.ft h.m1
    refine ⟨c ++ p, .cons x l c p hc hp, ?_, ?_⟩
    · show flat (goAll per l _).o ++ (goAll per l _).p = _
      rw [hf, hf2, List.append_assoc (flat s.o ++ s.p)]
    · show (c ++ p).length + s.o.length ≤ (goAll per l _).o.length + (l.length + 1)
      rw [List.length_append]
      omega

section
variable (l : List S43) (per : Int) (a : List S38) (b : List S43) (P : List S43)
theorem l3_eq (hb : ∀ x ∈ b, Ok x) (hbl : b.length ≤ 512) (hl : l.length ≤ 512) (ha : a.length ≤ 512) (hs : sumS b < per) (hP : P.length ≤ l.length + a.length) : ∀ (post pre : List S43), b = pre ++ post →
    Ev (fun k => papermilllaw53_PackOrder.l3 k l per a b P (P.length : Int) (sumS pre) (pre.length : Int)) true := by
  intro post
  induction post with
  | nil =>
    intro pre h
    have : pre = b := by rw [h]; simp
    subst this
    refine Ev.step (fun k => papermilllaw53_PackOrder.l3.eq_2 ..) ?_
    refine Ev.neg (by omega) (Ev.pos rfl (Ev.pos hs (Ev.pos ?_ (Ev.sb (fun _ => rfl) (Ev.c rfl)))))
    have w : wrap64 ((l.length : Int) + (a.length : Int)) = (l.length : Int) + (a.length : Int) := by unfold wrap64; omega
    rw [w]
    omega
  | cons x post ih =>
    intro pre h
    have e : rd_T43 b (pre.length : Int) = x := by rw [h]; exact rd43_at pre post x
    have hx : Ok x := hb x (by rw [h]; simp)
    have hpre : ∀ y ∈ pre, Ok y := fun y hy => hb y (by rw [h]; simp [hy])
    have hbp := sumS_bd hpre
    have hb2 := sz_bd hx
    have h0 := hx.f0; have h1 := hx.ft; have h2 := hx.t
    have hlen : pre.length + 1 ≤ 512 := by have := congrArg List.length h; simp at this; omega
    refine Ev.step (fun k => papermilllaw53_PackOrder.l3.eq_2 ..) ?_
    refine Ev.pos (lt_at h) (Ev.pos (by omega) ?_)
    rw [e, wrap_next h (by omega)]
    have w : wrap64 (wrap64 (sumS pre + x.f1.f1) - x.f1.f0) = sumS (pre ++ [x]) := by
      have w1 : wrap64 (sumS pre + x.f1.f1) = sumS pre + x.f1.f1 := by unfold wrap64; omega
      rw [w1, sumS_app]
      simp only [sumS]
      unfold sz at *
      unfold wrap64
      omega
    rw [w]
    exact ih (pre ++ [x]) (app_one h)
theorem l2_eq (hP : P.length ≤ 2000) (x : S43) (pre post : List S43) (h : l = pre ++ x :: post) (hl : l.length ≤ 512) (x13 : Int) (_hx : x.f1.f1 ≤ 17179869184) :
    ∀ (c p0 p1 : List S43) (f : Int), P = p0 ++ (c ++ p1) → Chain x.f0 x.f1.f1 f c → 0 ≤ f →
      Ev (fun k => papermilllaw53_PackOrder.l1 k l per a b P ((p0 ++ c).length : Int) x13 ((pre ++ [x]).length : Int)) true →
      Ev (fun k => papermilllaw53_PackOrder.l2 k l per a b P (p0.length : Int) x13 (pre.length : Int) f) true := by
  have e : rd_T43 l (pre.length : Int) = x := by rw [h]; exact rd43_at pre post x
  intro c
  induction c with
  | nil =>
    intro p0 p1 f hp hc h0 hE
    have hc' : f = x.f1.f1 := hc
    refine Ev.step (fun k => papermilllaw53_PackOrder.l2.eq_2 ..) ?_
    refine Ev.pos (by omega) (Ev.pos (lt_at h) (Ev.neg (by rw [e]; omega) ?_))
    rw [wrap_next h (by omega)]
    simpa using hE
  | cons y c ih =>
    intro p0 p1 f hp hc h0 hE
    obtain ⟨c1, c2, c3, c4, c5⟩ := hc
    have hp' : P = p0 ++ y :: (c ++ p1) := hp
    have ey : rd_T43 P (p0.length : Int) = y := by rw [hp']; exact rd43_at p0 (c ++ p1) y
    have hlt := lt_at hp'
    refine Ev.step (fun k => papermilllaw53_PackOrder.l2.eq_2 ..) ?_
    refine Ev.pos (by omega) (Ev.pos (lt_at h) (Ev.pos (by rw [e]; omega) (Ev.neg (by omega) (Ev.pos (by omega) (Ev.pos hlt ?_)))))
    rw [ey, e, wrap_next hp' (by omega)]
    refine Ev.pos c1 (Ev.pos c2 (Ev.neg (by omega) (Ev.neg (by omega) ?_)))
    refine ih (p0 ++ [y]) p1 y.f1.f1 (by rw [hp']; simp) c5 (by omega) ?_
    simpa using hE
theorem l1_eq (hP : P.length ≤ 2000) (hl : l.length ≤ 512) (hv : ∀ x ∈ l, Ok x) (hE : Ev (fun k => papermilllaw53_PackOrder.l3 k l per a b P (P.length : Int) 0 0) true) :
    ∀ (post pre p0 p1 : List S43), l = pre ++ post → P = p0 ++ p1 → Parts post p1 → Ev (fun k => papermilllaw53_PackOrder.l1 k l per a b P (p0.length : Int) 0 (pre.length : Int)) true := by
  intro post
  induction post with
  | nil =>
    intro pre p0 p1 h hp hparts
    cases hparts
    refine Ev.step (fun k => papermilllaw53_PackOrder.l1.eq_2 ..) ?_
    refine Ev.neg (nlt_end h) ?_
    rw [List.append_nil] at hp
    rw [← hp]
    exact hE
  | cons x post ih =>
    intro pre p0 p1 h hp hparts
    cases hparts with
    | cons _ _ c p hc hp2 =>
      have e : rd_T43 l (pre.length : Int) = x := by rw [h]; exact rd43_at pre post x
      have hx : Ok x := hv x (by rw [h]; simp)
      refine Ev.step (fun k => papermilllaw53_PackOrder.l1.eq_2 ..) ?_
      refine Ev.pos (lt_at h) (Ev.pos (by omega) ?_)
      rw [e]
      refine l2_eq l per a b P hP x pre post h hl 0 hx.t c p0 p x.f1.f0 hp hc hx.f0 ?_
      exact ih (pre ++ [x]) (p0 ++ c) p (app_one h) (by rw [hp]; simp) hp2
theorem count_full (r : S38) (q : Nat) (hq : q ≤ 512) (h : Full per q r) : Ev (fun k => pack_Count.f k r.f0) (per, 0) := by
  have hc : chk r.f0 = 0 := chk_of (Nat.le_trans h.n hq) fun x hx => (h.v x hx).1
  unfold pack_Count.f
  refine Ev.sb (fun n => check_eq r.f0) (Ev.pos hc (Ev.bind (count_eq hc) (Ev.c ?_)))
  rw [h.s]
theorem l0_eq (q : Nat) (hq : q ≤ 512) (ha : a.length ≤ 512) (hg : ∀ r ∈ a, Full per q r) (hb : b.length ≤ 512) (hlen : (flat a).length ≤ 100000) (hE : Ev (fun k => papermilllaw53_PackOrder.l1 k l per a b (flat a ++ b) 0 0 0) true) :
    ∀ (post pre : List S38), a = pre ++ post → Ev (fun k => papermilllaw53_PackOrder.l0 k l per a b (flat pre) (pre.length : Int)) true := by
  intro post
  induction post with
  | nil =>
    intro pre h
    have : pre = a := by rw [h]; simp
    subst this
    refine Ev.step (fun k => papermilllaw53_PackOrder.l0.eq_2 ..) ?_
    exact Ev.neg (by omega) (Ev.pos (by omega) hE)
  | cons r post ih =>
    intro pre h
    have e : rd_T38 a (pre.length : Int) = r := by rw [h]; exact rd38_at pre post r
    have hr := hg r (by rw [h]; simp)
    have hfl : (flat pre).length + r.f0.length ≤ (flat a).length := by
      rw [h, flat_app]
      simp only [flat, List.length_append]
      omega
    refine Ev.step (fun k => papermilllaw53_PackOrder.l0.eq_2 ..) ?_
    refine Ev.pos (lt_at h) (Ev.pos (by omega) ?_)
    rw [e]
    refine Ev.bind (count_full per r q hq hr) (Ev.pos rfl (Ev.pos rfl (Ev.pos (by omega) ?_)))
    rw [wrap_next h (by omega)]
    have := ih (pre ++ [r]) (app_one h)
    rw [flat_app] at this
    simpa [flat] using this
end
theorem PackOrder : PackOrder_Pure := by
  intro l per _ _
  refine Ev.rounds ?_
  unfold papermilllaw53_PackOrder.f
  by_cases h : (l.length : Int) > 520
  · exact Ev.pos h (Ev.sb (fun _ => rfl) (Ev.c rfl))
  · refine Ev.neg h (Ev.bind (pack_reams l per) ?_)
    obtain ⟨s1, s2, s3⟩ := reams_small l per
    revert s1 s2 s3
    unfold reamsS
    by_cases h0 : chk l = 0
    · rw [if_pos h0]
      obtain ⟨h1, h2⟩ := chk_zero h0
      by_cases h3 : per < 1 ∨ per > 17179869184
      · rw [if_pos h3]
        intro _ _ _
        exact Ev.neg (by decide) (Ev.sb (fun _ => rfl) (Ev.c rfl))
      · rw [if_neg h3]
        by_cases h4 : sumS l / per > 512
        · rw [if_pos h4]
          intro _ _ _
          exact Ev.neg (by decide) (Ev.sb (fun _ => rfl) (Ev.c rfl))
        · rw [if_neg h4]
          intro s1 s2 s3
          replace s1 : (goAll per l ⟨[], [], per⟩).o.length ≤ 512 := s1
          replace s3 : (goAll per l ⟨[], [], per⟩).p.length ≤ 512 := s3
          have hper : 1 ≤ per := by omega
          have hg := goAll_good per l ⟨[], [], per⟩ 0 h2 (good_start hper)
          obtain ⟨p, hp, hf, hl⟩ := goAll_parts per hper l ⟨[], [], per⟩ 0 h2 (good_start hper)
          simp only [flat, List.nil_append, List.length_nil, Nat.add_zero] at hf hl
          rw [Nat.zero_add] at hg
          have hm1 := hg.m1
          have hs := hg.s
          have hfl : (flat (goAll per l ⟨[], [], per⟩).o).length + (goAll per l ⟨[], [], per⟩).p.length = p.length := by rw [← hf, List.length_append]
          refine Ev.pos rfl ?_
          refine l0_eq l per _ _ l.length h1 s1 hg.o s3 (by omega) ?_ _ [] rfl
          rw [hf]
          refine l1_eq l per _ _ p (by omega) h1 h2 ?_ l [] [] p rfl rfl hp
          exact l3_eq l per _ _ p (fun x hx => (hg.v x hx).1) s3 h1 s1 (by omega) (by omega) _ [] rfl
    · rw [if_neg h0]
      intro _ _ _
      exact Ev.neg h0 (Ev.sb (fun _ => rfl) (Ev.c rfl))
end Go.Proofs.Ytakoklgmhglpbaa.Pure
