/- The law PackOnce in plain Lean: for every list of batches, number of sheets, roll and sheet, within their kinds' bounds, a sheet is in the reams and among what is left as often as in the batches, and Where finds it just if it is in a ream. -/
import Derived.Test.YtakoklgmhglpbaaStPackOnce
import Derived.Test.YtakoklgmhglpbaaPw
import Derived.Test.YtakoklgmhglpbaaPg
namespace Go.Proofs.Ytakoklgmhglpbaa.Pure
open Go.RowKit Go.Proofs.Ytakoklgmhglpbaa.Opn Go.Proofs.Ytakoklgmhglpbaa.Q Go.Proofs.Ytakoklgmhglpbaa.Gd Go.Proofs.YtakoklgmhglpbaaW.PrintWords Go.Proofs.Ytakoklgmhglpbaa.Pl
/-- How often a sheet is in reams. -/
def cntR (roll sheet : Int) : List S38 → Nat
  | [] => 0
  | r :: l => cnt roll sheet r.f0 + cntR roll sheet l
theorem cntR_app (roll sheet : Int) (a b : List S38) : cntR roll sheet (a ++ b) = cntR roll sheet a + cntR roll sheet b := by
  induction a with
  | nil => simp [cntR]
  | cons x a ih => simp only [List.cons_append, cntR, ih]; omega
theorem cnt_one (roll sheet r f t : Int) : cnt roll sheet [⟨r, ⟨f, t⟩⟩] = if r = roll ∧ f ≤ sheet ∧ sheet < t then 1 else 0 := by
  simp only [cnt, hits, Nat.add_zero]
theorem cnt_cut (roll sheet r f g t : Int) (h1 : f ≤ g) (h2 : g ≤ t) : cnt roll sheet [⟨r, ⟨f, g⟩⟩] + cnt roll sheet [⟨r, ⟨g, t⟩⟩] = cnt roll sheet [⟨r, ⟨f, t⟩⟩] := by
  rw [cnt_one, cnt_one, cnt_one]
  by_cases hr : r = roll
  · by_cases a : f ≤ sheet ∧ sheet < g
    · rw [if_pos ⟨hr, a.1, a.2⟩, if_neg (by omega), if_pos ⟨hr, a.1, by omega⟩]
    · by_cases b : g ≤ sheet ∧ sheet < t
      · rw [if_neg (by omega), if_pos ⟨hr, b.1, b.2⟩, if_pos ⟨hr, by omega, b.2⟩]
      · rw [if_neg (by omega), if_neg (by omega), if_neg (by omega)]
  · rw [if_neg (fun h => hr h.1), if_neg (fun h => hr h.1), if_neg (fun h => hr h.1)]
theorem go_cnt (per roll sheet r t : Int) : ∀ (n : Nat) (s : St) (f : Int), (t - f).toNat ≤ n → f ≤ t → 1 ≤ s.m → 1 ≤ per →
    cntR roll sheet (go per n s r f t).o + cnt roll sheet (go per n s r f t).p = cntR roll sheet s.o + cnt roll sheet s.p + cnt roll sheet [⟨r, ⟨f, t⟩⟩] := by
  intro n
  induction n with
  | zero =>
    intro s f hn hf _ _
    have : t = f := by omega
    subst this
    rw [cnt_one, if_neg (by omega)]
    rfl
  | succ n ih =>
    intro s f hn hf h1 hper
    unfold go
    by_cases c1 : t - f ≥ s.m
    · rw [if_pos c1]
      have := ih ⟨s.o ++ [⟨s.p ++ [⟨r, ⟨f, f + s.m⟩⟩]⟩], [], per⟩ (f + s.m) (by omega) (by omega) hper hper
      rw [this, ← cnt_cut roll sheet r f (f + s.m) t (by omega) (by omega)]
      simp only [cntR_app, cntR, cnt_app, cnt]
      omega
    · rw [if_neg c1]
      by_cases c2 : t - f > 0
      · rw [if_pos c2]
        show cntR roll sheet s.o + cnt roll sheet (s.p ++ [_]) = _
        rw [cnt_app]
        omega
      · rw [if_neg c2]
        have : t = f := by omega
        subst this
        rw [cnt_one, if_neg (by omega)]
        rfl
theorem goAll_cnt (per roll sheet : Int) (hper : 1 ≤ per) : ∀ (l : List S43) (s : St) (q : Nat), (∀ x ∈ l, Ok x) → Pl.Good per q s →
    cntR roll sheet (goAll per l s).o + cnt roll sheet (goAll per l s).p = cntR roll sheet s.o + cnt roll sheet s.p + cnt roll sheet l := by
  intro l
  induction l with
  | nil => intro s q _ _; simp [goAll, cnt]
  | cons x l ih =>
    intro s q hv h
    have hx := hv x List.mem_cons_self
    have h1 : Pl.Good per (q + 1) (go per (sz x).toNat s x.f0 x.f1.f0 x.f1.f1) :=
      go_good per x.f0 hx.r1 hx.r2 x.f1.f1 hx.t q (sz x).toNat s x.f1.f0 (Nat.le_refl _) hx.f0 hx.ft (h.le (Nat.le_succ q)).o h.v h.s h.n h.m1 h.m2
    have h2 := ih _ (q + 1) (fun y hy => hv y (List.mem_cons_of_mem _ hy)) h1
    have h3 := go_cnt per roll sheet x.f0 x.f1.f1 (sz x).toNat s x.f1.f0 (Nat.le_refl _) hx.ft h.m1 hper
    show cntR roll sheet (goAll per l (go per (sz x).toNat s x.f0 x.f1.f0 x.f1.f1)).o + cnt roll sheet (goAll per l (go per (sz x).toNat s x.f0 x.f1.f0 x.f1.f1)).p = _
    rw [h2, h3, show cnt roll sheet (x :: l) = cnt roll sheet [x] + cnt roll sheet l by simp [cnt]]
    show _ = _ + (cnt roll sheet [(⟨x.f0, ⟨x.f1.f0, x.f1.f1⟩⟩ : S43)] + _)
    omega
theorem fnd_once (roll sheet per : Int) : ∀ (l : List S38) (c : Int), (∀ r ∈ l, (∀ x ∈ r.f0, Ok x) ∧ sumS r.f0 = per) → 0 ≤ c →
    (fndS roll sheet l c = (0, 0, 7) ∧ cntR roll sheet l = 0) ∨ (∃ i v, fndS roll sheet l c = (i, v, 0) ∧ c ≤ i ∧ i < c + l.length ∧ 0 ≤ v ∧ v < per ∧ 0 < cntR roll sheet l) := by
  intro l
  induction l with
  | nil => intro c _ _; exact Or.inl ⟨rfl, rfl⟩
  | cons r l ih =>
    intro c h hc
    obtain ⟨hv, hs⟩ := h r List.mem_cons_self
    simp only [fndS, cntR]
    cases hp : plS roll sheet r.f0 0 with
    | some v =>
      have hb := plS_bd roll sheet r.f0 hv 0 v hp
      have hn : cnt roll sheet r.f0 ≠ 0 := fun h0 => by rw [(plS_none roll sheet r.f0 0).2 h0] at hp; cases hp
      refine Or.inr ⟨c, v, rfl, Int.le_refl _, by simp only [List.length_cons]; omega, by omega, by omega, by omega⟩
    | none =>
      have h0 := (plS_none roll sheet r.f0 0).1 hp
      rcases ih (c + 1) (fun x hx => h x (List.mem_cons_of_mem _ hx)) (by omega) with ⟨h1, h2⟩ | ⟨i, v, h1, h2, h3, h4, h5, h6⟩
      · exact Or.inl ⟨h1, by omega⟩
      · exact Or.inr ⟨i, v, h1, by omega, by simp only [List.length_cons]; omega, h4, h5, by omega⟩
theorem loop (per : Int) (a : List S38) (b : List S43) (roll sheet : Int) (ha : a.length ≤ 512) (hp : ∀ r ∈ a, r.f0.length ≤ 1000) (hb : b.length ≤ 1000) (want : Int) (hw : want = ((cnt roll sheet b + cntR roll sheet a : Nat) : Int))
    (hg : ∀ r ∈ a, chk r.f0 = 0 ∧ sumS r.f0 = per) :
    ∀ (post pre : List S38), a = pre ++ post → Ev (fun k => papermilllaw53_PackOnce.l0 k per a b want ((cnt roll sheet b + cntR roll sheet pre : Nat) : Int) (pre.length : Int) roll sheet) true := by
  have hsm : ∀ (l : List S38), (∀ r ∈ l, r.f0.length ≤ 1000) → cntR roll sheet l ≤ l.length * 1000 := by
    intro l
    induction l with
    | nil => intro _; simp [cntR]
    | cons x l ih =>
      intro h
      have h1 := cnt_le roll sheet x.f0
      have h2 := h x List.mem_cons_self
      have h3 := ih fun y hy => h y (List.mem_cons_of_mem _ hy)
      simp only [cntR, List.length_cons]
      omega
  have hbc := cnt_le roll sheet b
  intro post
  induction post with
  | nil =>
    intro pre h
    have hpre : pre = a := by rw [h]; simp
    subst hpre
    refine Ev.step (fun k => papermilllaw53_PackOnce.l0.eq_2 ..) ?_
    refine Ev.neg (by omega) ?_
    refine Ev.bind (pack_where pre roll sheet ha) (Ev.pos hw.symm (Ev.bind (times_eq roll sheet b (by omega)) ?_))
    have he := errS_of fun r hr => (hg r hr).1
    unfold whS wrS
    rw [if_pos he]
    rcases fnd_once roll sheet per pre 0 (fun r hr => ⟨(chk_zero (hg r hr).1).2, (hg r hr).2⟩) (Int.le_refl _) with ⟨h1, h2⟩ | ⟨i, v, h1, h2, h3, h4, h5, h6⟩
    · rw [h1]
      refine Ev.neg ?_ (Ev.neg (by decide) (Ev.pos rfl (Ev.pos rfl (Ev.pos rfl (Ev.sb (fun _ => rfl) (Ev.c rfl))))))
      have : ¬ want > (cnt roll sheet b : Int) := by omega
      simp [this]
    · rw [h1]
      refine Ev.neg ?_ (Ev.pos rfl (Ev.pos (by show i ≥ 0; omega) (Ev.pos (by show i < _; omega) (Ev.pos (by show v ≥ 0; omega) (Ev.pos h5 (Ev.sb (fun _ => rfl) (Ev.c rfl)))))))
      have : want > (cnt roll sheet b : Int) := by omega
      simp [this]
  | cons x post ih =>
    intro pre h
    have e : rd_T38 a (pre.length : Int) = x := by rw [h]; exact rd38_at pre post x
    have hx := hp x (by rw [h]; simp)
    have hpre := hsm pre fun y hy => hp y (by rw [h]; simp [hy])
    have hcx := cnt_le roll sheet x.f0
    have hlen : pre.length + 1 ≤ 512 := by have := congrArg List.length h; simp at this; omega
    refine Ev.step (fun k => papermilllaw53_PackOnce.l0.eq_2 ..) ?_
    refine Ev.pos (lt_at h) (Ev.pos (by omega) ?_)
    rw [e]
    refine Ev.bind (times_eq roll sheet x.f0 (by omega)) ?_
    rw [wrap_next h (by omega)]
    have w : wrap64 (((cnt roll sheet b + cntR roll sheet pre : Nat) : Int) + (cnt roll sheet x.f0 : Int)) = ((cnt roll sheet b + cntR roll sheet (pre ++ [x]) : Nat) : Int) := by
      rw [cntR_app]
      simp only [cntR]
      unfold wrap64
      omega
    rw [w]
    exact ih (pre ++ [x]) (app_one h)
theorem PackOnce : PackOnce_Pure := by
  intro l per x _ _ _
  refine Ev.rounds ?_
  unfold papermilllaw53_PackOnce.f
  by_cases h : (l.length : Int) > 60
  · exact Ev.pos h (Ev.sb (fun _ => rfl) (Ev.c rfl))
  · refine Ev.neg h (Ev.bind (pack_reams l per) ?_)
    obtain ⟨s1, s2, s3⟩ := reams_small l per
    revert s1 s2 s3
    unfold reamsS
    by_cases h0 : chk l = 0
    · rw [if_pos h0]
      obtain ⟨h1, h2⟩ := chk_zero h0
      by_cases h3 : per < 1 ∨ per > 17179869184
      · rw [if_pos h3]
        intro _ _ _
        exact Ev.neg (by decide) (Ev.pos rfl (Ev.pos rfl (Ev.sb (fun _ => rfl) (Ev.c rfl))))
      · rw [if_neg h3]
        by_cases h4 : sumS l / per > 512
        · rw [if_pos h4]
          intro _ _ _
          exact Ev.neg (by decide) (Ev.pos rfl (Ev.pos rfl (Ev.sb (fun _ => rfl) (Ev.c rfl))))
        · rw [if_neg h4]
          intro s1 s2 s3
          replace s1 : (goAll per l ⟨[], [], per⟩).o.length ≤ 512 := s1
          replace s2 : ∀ r ∈ (goAll per l ⟨[], [], per⟩).o, r.f0.length ≤ 512 := s2
          replace s3 : (goAll per l ⟨[], [], per⟩).p.length ≤ 512 := s3
          have hper : 1 ≤ per := by omega
          have hg := goAll_good per l ⟨[], [], per⟩ 0 h2 (good_start hper)
          have hc := goAll_cnt per x.f0 x.f1 hper l ⟨[], [], per⟩ 0 h2 (good_start hper)
          simp only [cntR, cnt, Nat.zero_add] at hc
          refine Ev.pos rfl (Ev.bind (times_eq x.f0 x.f1 l (by omega)) (Ev.bind (times_eq x.f0 x.f1 (goAll per l ⟨[], [], per⟩).p (by omega)) ?_))
          have := loop per (goAll per l ⟨[], [], per⟩).o (goAll per l ⟨[], [], per⟩).p x.f0 x.f1 s1 (fun r hr => by have := s2 r hr; omega) (by omega) (cnt x.f0 x.f1 l : Int) (by rw [← hc, Nat.add_comm])
            (fun r hr => ⟨chk_of (s2 r hr) (fun y hy => ((hg.o r hr).v y hy).1), (hg.o r hr).s⟩) _ [] rfl
          simpa [cntR] using this
    · rw [if_neg h0]
      intro _ _ _
      exact Ev.neg h0 (Ev.pos rfl (Ev.pos rfl (Ev.sb (fun _ => rfl) (Ev.c rfl))))
end Go.Proofs.Ytakoklgmhglpbaa.Pure
