/- Plain laws on shipments: the checks of the program and of the reference, for every list no longer than a slice can be. -/
import Derived.Test.YtegilakgfoglpaaQ6
import Derived.Test.YtegilakgfoglpaaQ9
import Derived.Test.YtegilakgfoglpaaQ1
import Derived.Test.YtegilakgfoglpaaGd
namespace Go.Proofs.Ytegilakgfoglpaa.Pl
open Go.RowKit Go.Proofs.Ytegilakgfoglpaa.Opn Go.Proofs.Ytegilakgfoglpaa.Q Go.Proofs.Ytegilakgfoglpaa.Gd Go.Proofs.YtegilakgfoglpaaW.PrintWords

section
variable {α β : Type}
theorem Ev.pos {c : Prop} [Decidable c] {a b : Nat → Option α} {r : α} (h : c) (k : Ev a r) : Ev (fun n => if c then a n else b n) r := Ev.congr (fun n => by rw [if_pos h]) k
theorem Ev.neg {c : Prop} [Decidable c] {a b : Nat → Option α} {r : α} (h : ¬ c) (k : Ev b r) : Ev (fun n => if c then a n else b n) r := Ev.congr (fun n => by rw [if_neg h]) k
theorem Ev.sb {a : β} {o : Nat → Option β} {f : Nat → β → Option α} {r : α} (h : ∀ n, o n = some a) (k : Ev (fun n => f n a) r) : Ev (fun n => (o n).bind (f n)) r := Ev.congr (fun n => by rw [h n, Option.bind_some]) k
theorem Ev.c {r : α} {a : α} (h : a = r) : Ev (fun _ => some a) r := h ▸ Ev.now a
theorem Ev.iteE {c : Prop} [Decidable c] {a b : Nat → Option α} {r r' : α} (h : c → Ev a r) (k : ¬ c → Ev b r') : Ev (fun n => if c then a n else b n) (if c then r else r') := by
  by_cases d : c
  · have := Ev.pos (b := b) d (h d)
    rwa [show (if c then r else r') = r from if_pos d]
  · have := Ev.neg (a := a) d (k d)
    rwa [show (if c then r else r') = r' from if_neg d]
theorem Ev.unique {g : Nat → Option α} {r r' : α} (h : Ev g r) (h' : Ev g r') : r = r' := by
  obtain ⟨K, hK⟩ := h
  obtain ⟨K', hK'⟩ := h'
  have h1 := hK (max K K') (Nat.le_max_left _ _)
  have h2 := hK' (max K K') (Nat.le_max_right _ _)
  rw [h1] at h2
  exact Option.some.inj h2
end

theorem wrap_next {α : Type} {l pre post : List α} {x : α} (h : l = pre ++ x :: post) (hl : l.length ≤ 9223372036854775807) : wrap64 ((pre.length : Int) + 1) = ((pre ++ [x]).length : Int) := by
  subst h
  simp only [List.length_append, List.length_cons, List.length_nil] at hl ⊢
  unfold wrap64
  omega
theorem wrap_nat {n j : Nat} (h : j < n) (hn : n ≤ 9223372036854775807) : wrap64 ((j : Int) + 1) = ((j + 1 : Nat) : Int) := by
  unfold wrap64
  omega
theorem lt_at {α : Type} {l pre post : List α} {x : α} (h : l = pre ++ x :: post) : (pre.length : Int) < (l.length : Int) := by
  subst h
  simp only [List.length_append, List.length_cons]
  omega
theorem app_one {α : Type} {l pre post : List α} {x : α} (h : l = pre ++ x :: post) : l = (pre ++ [x]) ++ post := by simp [h]
theorem nlt_end {α : Type} {l pre : List α} (h : l = pre ++ []) : ¬ (pre.length : Int) < (l.length : Int) := by
  subst h
  simp
theorem mem_at {α : Type} {l pre post : List α} {x : α} (h : l = pre ++ x :: post) : x ∈ l := by simp [h]
theorem rd_at {l pre post : List Int} {x : Int} (h : l = pre ++ x :: post) : rd l (pre.length : Int) = x := by subst h; simp [rd]
theorem rd44_at {l pre post : List S44} {x : S44} (h : l = pre ++ x :: post) : rd_T44 l (pre.length : Int) = x := by subst h; simp [rd_T44]
theorem rd39_at {l pre post : List S39} {x : S39} (h : l = pre ++ x :: post) : rd_T39 l (pre.length : Int) = x := by subst h; simp [rd_T39]

/-! ### The closed example -/
set_option maxRecDepth 100000 in
theorem awake_at : papermilllaw56_awake.f 60 = some true := by kernel_rfl
theorem awake_eq : Ev (fun k => papermilllaw56_awake.f k) true := Ev.of (fun k => papermilllaw56_awake.mono k) awake_at

/-! ### One shipment -/
def badR (r : Int) : Bool := decide (r < 1) || decide (r > 1000000)
/-- The error of a shipment. -/
def oneE (x : S44) : Int := if x.f0 < 1 ∨ x.f0 > 1000000 ∨ x.f1 < 0 ∨ x.f1 > 2147483647 then 1 else if x.f2.length = 0 then 10 else if x.f2.length > 512 then 8 else if x.f2.any badR = true then 1 else 0
theorem one_l0 (l : List Int) (hl : l.length ≤ 9223372036854775807) : ∀ (post pre : List Int), l = pre ++ post → Ev (fun k => ship_one.l0 k l (l.length : Int) (pre.length : Int)) (if post.any badR = true then 1 else 0) := by
  intro post
  induction post with
  | nil =>
    intro pre h
    exact Ev.step (fun k => ship_one.l0.eq_2 ..) (Ev.neg (nlt_end h) (Ev.c rfl))
  | cons x post ih =>
    intro pre h
    refine Ev.step (fun k => ship_one.l0.eq_2 ..) (Ev.pos (lt_at h) (Ev.pos (by omega) (Ev.pos (lt_at h) ?_)))
    rw [rd_at h, wrap_next h hl]
    have ih := ih (pre ++ [x]) (app_one h)
    have hi : ship_id.f x = some (!badR x) := by
      unfold ship_id.f badR
      by_cases c : x ≥ 1
      · rw [if_pos c]
        have c0 : ¬ x < 1 := by omega
        by_cases d : x ≤ 1000000
        · have d0 : ¬ x > 1000000 := by omega
          simp [c0, d, d0]
        · have d0 : x > 1000000 := by omega
          simp [c0, d, d0]
      · have c0 : x < 1 := by omega
        rw [if_neg c]
        simp [c0]
    refine Ev.sb (fun _ => hi) ?_
    rw [List.any_cons]
    cases hb : badR x with
    | true => exact Ev.neg (by simp) (Ev.c rfl)
    | false => rw [Bool.false_or]; exact Ev.pos rfl ih
theorem one_j0 (x : S44) (b : Bool) (hb : b = decide (x.f0 < 1 ∨ x.f0 > 1000000 ∨ x.f1 < 0 ∨ x.f1 > 2147483647)) (hl : x.f2.length ≤ 9223372036854775807) : Ev (fun k => ship_one.j0 k b x.f0 x.f1 x.f2) (oneE x) := by
  refine Ev.step (fun k => ship_one.j0.eq_2 ..) ?_
  unfold oneE
  by_cases c : x.f0 < 1 ∨ x.f0 > 1000000 ∨ x.f1 < 0 ∨ x.f1 > 2147483647
  · rw [decide_eq_true c] at hb
    rw [if_pos c]
    exact Ev.pos hb (Ev.c rfl)
  · rw [decide_eq_false c] at hb
    rw [if_neg c]
    refine Ev.neg (by rw [hb]; decide) ?_
    by_cases c1 : x.f2.length = 0
    · rw [if_pos c1]; exact Ev.pos (by omega) (Ev.c rfl)
    rw [if_neg c1]
    refine Ev.neg (by omega) ?_
    by_cases c2 : x.f2.length > 512
    · rw [if_pos c2]; exact Ev.pos (by omega) (Ev.c rfl)
    rw [if_neg c2]
    exact Ev.neg (by omega) (one_l0 x.f2 hl x.f2 [] rfl)
theorem one_eq (x : S44) (hl : x.f2.length ≤ 9223372036854775807) : Ev (fun k => ship_one.f k x.f0 x.f1 x.f2) (oneE x) := by
  unfold ship_one.f ship_id.f
  by_cases c0 : x.f0 ≥ 1
  · refine Ev.sb (a := decide (x.f0 ≤ 1000000)) (fun _ => by rw [if_pos c0]) ?_
    by_cases c1 : x.f0 ≤ 1000000
    · refine Ev.pos (by simpa using c1) ?_
      by_cases c2 : x.f1 < 0
      · exact Ev.pos c2 (one_j0 x true (by rw [decide_eq_true]; omega) hl)
      · exact Ev.neg c2 (one_j0 x _ (by apply decide_eq_decide.2; omega) hl)
    · exact Ev.neg (by simpa using c1) (one_j0 x true (by rw [decide_eq_true]; omega) hl)
  · refine Ev.sb (a := false) (fun _ => by rw [if_neg c0]) ?_
    exact Ev.neg (by decide) (one_j0 x true (by rw [decide_eq_true]; omega) hl)
theorem rone_l0 (a b : Int) (l : List Int) (hl : l.length ≤ 9223372036854775807) : ∀ (post pre : List Int), l = pre ++ post → Ev (fun k => papermillref56_one.l0 k (pre.length : Int) a b l) (if post.any badR = true then 1 else 0) := by
  intro post
  induction post with
  | nil =>
    intro pre h
    exact Ev.step (fun k => papermillref56_one.l0.eq_2 ..) (Ev.neg (nlt_end h) (Ev.c rfl))
  | cons x post ih =>
    intro pre h
    refine Ev.step (fun k => papermillref56_one.l0.eq_2 ..) (Ev.pos (lt_at h) (Ev.pos (by omega) ?_))
    rw [rd_at h, wrap_next h hl]
    have ih := ih (pre ++ [x]) (app_one h)
    rw [List.any_cons]
    by_cases c1 : x < 1
    · exact Ev.pos c1 (Ev.c (by simp [badR, c1]))
    by_cases c2 : x > 1000000
    · exact Ev.neg c1 (Ev.pos c2 (Ev.c (by simp [badR, c2])))
    have hb : badR x = false := by simp [badR]; omega
    rw [hb, Bool.false_or]
    exact Ev.neg c1 (Ev.neg c2 ih)
theorem rone_j0 (x : S44) (b : Bool) (hb : b = decide (x.f0 < 1 ∨ x.f0 > 1000000 ∨ x.f1 < 0 ∨ x.f1 > 2147483647)) (hl : x.f2.length ≤ 9223372036854775807) : Ev (fun k => papermillref56_one.j0 k b x.f0 x.f1 x.f2) (oneE x) := by
  refine Ev.step (fun k => papermillref56_one.j0.eq_2 ..) ?_
  unfold oneE
  by_cases c : x.f0 < 1 ∨ x.f0 > 1000000 ∨ x.f1 < 0 ∨ x.f1 > 2147483647
  · rw [decide_eq_true c] at hb
    rw [if_pos c]
    exact Ev.pos hb (Ev.c rfl)
  · rw [decide_eq_false c] at hb
    rw [if_neg c]
    refine Ev.neg (by rw [hb]; decide) ?_
    by_cases c1 : x.f2.length = 0
    · rw [if_pos c1]; exact Ev.pos (by omega) (Ev.c rfl)
    rw [if_neg c1]
    refine Ev.neg (by omega) ?_
    by_cases c2 : x.f2.length > 512
    · rw [if_pos c2]; exact Ev.pos (by omega) (Ev.c rfl)
    rw [if_neg c2]
    exact Ev.neg (by omega) (rone_l0 x.f0 x.f1 x.f2 hl x.f2 [] rfl)
theorem rone_eq (x : S44) (hl : x.f2.length ≤ 9223372036854775807) : Ev (fun k => papermillref56_one.f k x.f0 x.f1 x.f2) (oneE x) := by
  unfold papermillref56_one.f
  by_cases c0 : x.f0 < 1
  · exact Ev.pos c0 (rone_j0 x true (by rw [decide_eq_true]; omega) hl)
  by_cases c1 : x.f0 > 1000000
  · exact Ev.neg c0 (Ev.pos c1 (rone_j0 x true (by rw [decide_eq_true]; omega) hl))
  by_cases c2 : x.f1 < 0
  · exact Ev.neg c0 (Ev.neg c1 (Ev.pos c2 (rone_j0 x true (by rw [decide_eq_true]; omega) hl)))
  · exact Ev.neg c0 (Ev.neg c1 (Ev.neg c2 (rone_j0 x _ (by apply decide_eq_decide.2; omega) hl)))
theorem oneE_len {x : S44} (h : oneE x = 0) : x.f2.length ≤ 512 := by
  unfold oneE at h
  split at h
  · omega
  · split at h
    · omega
    · split at h <;> omega

/-! ### All shipments -/
/-- The first error of the shipments. -/
def onesE : List S44 → Int
  | [] => 0
  | x :: t => if oneE x = 0 then onesE t else oneE x
/-- What Check returns. -/
def chkE (l : List S44) : Int := if l.length > 512 then 8 else if onesE l = 0 then (if dupB [] (l.map (·.f0)) = true then 6 else if unordB l = true then 9 else if dupB [] (l.flatMap (·.f2)) = true then 34 else 0) else onesE l
theorem onesE_each : ∀ {l : List S44}, onesE l = 0 → ∀ x ∈ l, oneE x = 0
  | [], _, x, hx => by simp at hx
  | y :: t, h, x, hx => by
    unfold onesE at h
    by_cases c : oneE y = 0
    · rw [if_pos c] at h
      rcases List.mem_cons.1 hx with rfl | hx
      · exact c
      · exact onesE_each h x hx
    · rw [if_neg c] at h; exact absurd h c
theorem ckOnes_eq : ∀ (l : List S44), (∀ x ∈ l, x.f2.length ≤ 9223372036854775807) → Ev (fun k => ckOnes k l) (onesE l)
  | [], _ => Ev.c rfl
  | x :: t, h => by
    unfold ckOnes onesE
    refine Ev.bind (one_eq x (h x (by simp))) ?_
    by_cases c : oneE x = 0
    · rw [if_pos c]; exact Ev.pos c (ckOnes_eq t (fun y hy => h y (List.mem_cons_of_mem _ hy)))
    · rw [if_neg c]; exact Ev.neg c (Ev.c rfl)
theorem check_eq (l : List S44) (h : ∀ x ∈ l, x.f2.length ≤ 9223372036854775807) : Ev (fun k => ship_Check.f k l) (chkE l) := by
  unfold ship_Check.f chkE
  by_cases c : l.length > 512
  · rw [if_pos c]; exact Ev.pos (by omega) (Ev.c rfl)
  rw [if_neg c]
  refine Ev.neg (by omega) (Ev.bind (ckOnes_eq l h) ?_)
  exact Ev.iteE (fun _ => Ev.iteE (fun _ => Ev.c rfl) fun _ => Ev.iteE (fun _ => Ev.c rfl) fun _ => Ev.iteE (fun _ => Ev.c rfl) fun _ => Ev.c rfl) fun _ => Ev.c rfl
theorem in_l0 (l : List Int) (a : Int) (hl : l.length ≤ 9223372036854775807) : ∀ (post pre : List Int), l = pre ++ post → Ev (fun k => papermillref56_in.l0 k l a (pre.length : Int)) (decide (a ∈ post)) := by
  intro post
  induction post with
  | nil =>
    intro pre h
    exact Ev.step (fun k => papermillref56_in.l0.eq_2 ..) (Ev.neg (nlt_end h) (Ev.c (by simp)))
  | cons x post ih =>
    intro pre h
    refine Ev.step (fun k => papermillref56_in.l0.eq_2 ..) (Ev.pos (lt_at h) (Ev.pos (by omega) ?_))
    rw [rd_at h, wrap_next h hl]
    by_cases c : x = a
    · exact Ev.pos c (Ev.c (by simp [c]))
    · have e : decide (a ∈ x :: post) = decide (a ∈ post) := decide_eq_decide.2 ⟨fun h => (List.mem_cons.1 h).resolve_left (Ne.symm c), List.mem_cons_of_mem _⟩
      rw [e]
      exact Ev.neg c (ih (pre ++ [x]) (app_one h))
theorem in_eq (l : List Int) (a : Int) (hl : l.length ≤ 9223372036854775807) : Ev (fun k => papermillref56_in.f k l a) (decide (a ∈ l)) := by
  unfold papermillref56_in.f
  exact in_l0 l a hl l [] rfl
theorem rcheck_l3 (l : List S44) (hl : l.length ≤ 512) (ho : ∀ x ∈ l, x.f2.length ≤ 512) : ∀ (post pre : List S44) (seen : List Int), l = pre ++ post → seen.length ≤ pre.length * 512 → Ev (fun k => papermillref56_Check.l3 k l seen (pre.length : Int)) (if dupB seen (post.flatMap (·.f2)) = true then 34 else 0) := by
  intro post
  induction post with
  | nil =>
    intro pre seen h _
    exact Ev.step (fun k => papermillref56_Check.l3.eq_2 ..) (Ev.neg (nlt_end h) (Ev.c rfl))
  | cons x post ih =>
    intro pre seen h hs
    refine Ev.step (fun k => papermillref56_Check.l3.eq_2 ..) (Ev.pos (lt_at h) ?_)
    have hx := ho x (mem_at h)
    have hlt := lt_at h
    have key : ∀ (p2 p1 : List Int) (sn : List Int), x.f2 = p1 ++ p2 → sn.length ≤ pre.length * 512 + p1.length → Ev (fun k => papermillref56_Check.l4 k l sn (pre.length : Int) (p1.length : Int)) (if dupB sn (p2 ++ post.flatMap (·.f2)) = true then 34 else 0) := by
      intro p2
      induction p2 with
      | nil =>
        intro p1 sn h2 hsn
        refine Ev.step (fun k => papermillref56_Check.l4.eq_2 ..) (Ev.pos (by omega) (Ev.pos hlt ?_))
        rw [rd44_at h, wrap_next h (by omega)]
        refine Ev.neg (nlt_end h2) ?_
        have e : p1 = x.f2 := by rw [h2]; simp
        exact ih (pre ++ [x]) sn (app_one h) (by rw [List.length_append, List.length_singleton]; rw [e] at hsn; omega)
      | cons y p2 ih2 =>
        intro p1 sn h2 hsn
        refine Ev.step (fun k => papermillref56_Check.l4.eq_2 ..) (Ev.pos (by omega) (Ev.pos hlt ?_))
        have h2l := lt_at h2
        rw [rd44_at h, rd_at h2, wrap_next h2 (by omega)]
        refine Ev.pos h2l (Ev.pos (by omega) (Ev.bind (in_eq sn y (by omega)) ?_))
        rw [List.cons_append]
        unfold dupB
        by_cases c : y ∈ sn
        · rw [if_pos c]
          exact Ev.pos (decide_eq_true c) (Ev.c rfl)
        · rw [if_neg c]
          refine Ev.neg (by simpa using c) (Ev.pos (by omega) ?_)
          exact ih2 (p1 ++ [y]) (sn ++ [y]) (app_one h2) (by simp only [List.length_append, List.length_singleton]; omega)
    rw [List.flatMap_cons]
    exact key x.f2 [] seen rfl (by simpa using hs)
theorem rcheck_l2 (l : List S44) (hl : l.length ≤ 512) (ho : ∀ x ∈ l, x.f2.length ≤ 512) : ∀ (post : List S44) (pre : List S44) (x : S44), l = pre ++ x :: post → Ev (fun k => papermillref56_Check.l2 k l ((pre.length : Int) + 1)) (if unordB (x :: post) = true then 9 else if dupB [] (l.flatMap (·.f2)) = true then 34 else 0) := by
  intro post
  induction post with
  | nil =>
    intro pre x h
    have hll : l.length = pre.length + 1 := by rw [h]; simp
    refine Ev.step (fun k => papermillref56_Check.l2.eq_2 ..) (Ev.neg (by omega) ?_)
    exact rcheck_l3 l hl ho l [] [] rfl (by simp)
  | cons y post ih =>
    intro pre x h
    have h2 : l = (pre ++ [x]) ++ y :: post := by rw [h]; simp
    have hlt := lt_at h2
    have hll : (pre ++ [x]).length = pre.length + 1 := by simp
    rw [hll] at hlt
    refine Ev.step (fun k => papermillref56_Check.l2.eq_2 ..) (Ev.pos (by omega) (Ev.pos (by omega) ?_))
    have hw : wrap64 ((pre.length : Int) + 1 - 1) = (pre.length : Int) := by unfold wrap64; omega
    have hw2 : wrap64 ((pre.length : Int) + 1 + 1) = ((pre ++ [x]).length : Int) + 1 := by rw [hll]; unfold wrap64; omega
    have e1 : rd_T44 l ((pre.length : Int) + 1) = y := by have := rd44_at h2; rw [hll] at this; exact this
    rw [hw, hw2, rd44_at h, e1]
    refine Ev.pos (by omega) (Ev.pos (by omega) ?_)
    unfold unordB
    by_cases c : y.f1 < x.f1
    · rw [if_pos c]; exact Ev.pos c (Ev.c rfl)
    · rw [if_neg c]; exact Ev.neg c (ih (pre ++ [x]) y h2)
theorem rcheck_l1 (l : List S44) (hl : l.length ≤ 512) (ho : ∀ x ∈ l, x.f2.length ≤ 512) : ∀ (post pre : List S44) (seen : List Int), l = pre ++ post → seen.length = pre.length → Ev (fun k => papermillref56_Check.l1 k l seen (pre.length : Int)) (if dupB seen (post.map (·.f0)) = true then 6 else if unordB l = true then 9 else if dupB [] (l.flatMap (·.f2)) = true then 34 else 0) := by
  intro post
  induction post with
  | nil =>
    intro pre seen h _
    refine Ev.step (fun k => papermillref56_Check.l1.eq_2 ..) (Ev.neg (nlt_end h) ?_)
    cases hc : l with
    | nil =>
      refine Ev.step (fun k => papermillref56_Check.l2.eq_2 ..) (Ev.neg (by simp) ?_)
      exact rcheck_l3 [] (by simp) (by simp) [] [] [] rfl (by simp)
    | cons x t =>
      have := rcheck_l2 l hl ho t [] x hc
      rw [hc] at this
      exact this
  | cons x post ih =>
    intro pre seen h hs
    have hlt := lt_at h
    refine Ev.step (fun k => papermillref56_Check.l1.eq_2 ..) (Ev.pos hlt (Ev.pos (by omega) ?_))
    rw [rd44_at h, wrap_next h (by omega), List.map_cons]
    refine Ev.bind (in_eq seen x.f0 (by omega)) ?_
    rw [show dupB seen (x.f0 :: post.map (·.f0)) = if x.f0 ∈ seen then true else dupB (seen ++ [x.f0]) (post.map (·.f0)) from rfl]
    by_cases c : x.f0 ∈ seen
    · rw [if_pos c]; exact Ev.pos (decide_eq_true c) (Ev.c rfl)
    · rw [if_neg c]
      refine Ev.neg (by simpa using c) (Ev.pos (by omega) ?_)
      exact ih (pre ++ [x]) (seen ++ [x.f0]) (app_one h) (by simp [hs])
theorem rcheck_l0 (l : List S44) (hl : l.length ≤ 512) (h63 : ∀ x ∈ l, x.f2.length ≤ 9223372036854775807) : ∀ (post pre : List S44), l = pre ++ post → (∀ x ∈ pre, oneE x = 0) → Ev (fun k => papermillref56_Check.l0 k l (pre.length : Int)) (if onesE post = 0 then (if dupB [] (l.map (·.f0)) = true then 6 else if unordB l = true then 9 else if dupB [] (l.flatMap (·.f2)) = true then 34 else 0) else onesE post) := by
  intro post
  induction post with
  | nil =>
    intro pre h ho
    have e : pre = l := by rw [h]; simp
    refine Ev.step (fun k => papermillref56_Check.l0.eq_2 ..) (Ev.neg (nlt_end h) ?_)
    rw [e] at ho
    exact rcheck_l1 l hl (fun x hx => oneE_len (ho x hx)) l [] [] rfl rfl
  | cons x post ih =>
    intro pre h ho
    have hlt := lt_at h
    refine Ev.step (fun k => papermillref56_Check.l0.eq_2 ..) (Ev.pos hlt (Ev.pos (by omega) ?_))
    rw [rd44_at h, wrap_next h (by omega)]
    refine Ev.bind (rone_eq x (h63 x (mem_at h))) ?_
    unfold onesE
    by_cases c : oneE x = 0
    · rw [if_pos c]
      refine Ev.pos c (ih (pre ++ [x]) (app_one h) (fun y hy => ?_))
      rcases List.mem_append.1 hy with hy | hy
      · exact ho y hy
      · rw [List.mem_singleton] at hy; rw [hy]; exact c
    · rw [if_neg c, if_neg c]; exact Ev.neg c (Ev.c rfl)
theorem rcheck_eq (l : List S44) (h : ∀ x ∈ l, x.f2.length ≤ 9223372036854775807) : Ev (fun k => papermillref56_Check.f k l) (chkE l) := by
  unfold papermillref56_Check.f chkE
  by_cases c : l.length > 512
  · rw [if_pos c]; exact Ev.pos (by omega) (Ev.c rfl)
  rw [if_neg c]
  exact Ev.neg (by omega) (rcheck_l0 l (by omega) h l [] rfl (by simp))

/-! ### Few shipments -/
theorem few_l0 (l : List S44) (hl : l.length ≤ 600) : ∀ (post pre : List S44), l = pre ++ post → ∃ b, Ev (fun k => papermilllaw56_few.l0 k l (pre.length : Int)) b := by
  intro post
  induction post with
  | nil =>
    intro pre h
    exact ⟨true, Ev.step (fun k => papermilllaw56_few.l0.eq_2 ..) (Ev.neg (nlt_end h) (Ev.c rfl))⟩
  | cons x post ih =>
    intro pre h
    have hlt := lt_at h
    obtain ⟨b, hb⟩ := ih (pre ++ [x]) (app_one h)
    have step : ∀ r, Ev (fun k => if ((x.f2.length : Int) > 30) then (if ((x.f2.length : Int) ≤ 512) then some false else (if ((x.f2.length : Int) > 600) then some false else papermilllaw56_few.l0 k l ((pre ++ [x]).length : Int))) else (if ((x.f2.length : Int) > 600) then some false else papermilllaw56_few.l0 k l ((pre ++ [x]).length : Int))) r → Ev (fun k => papermilllaw56_few.l0 k l (pre.length : Int)) r := fun r hr => by
      refine Ev.step (fun k => papermilllaw56_few.l0.eq_2 ..) (Ev.pos hlt (Ev.pos (by omega) ?_))
      rw [rd44_at h, wrap_next h (by omega)]
      exact hr
    by_cases c1 : (x.f2.length : Int) > 30
    · by_cases c2 : (x.f2.length : Int) ≤ 512
      · exact ⟨false, step _ (Ev.pos c1 (Ev.pos c2 (Ev.c rfl)))⟩
      · by_cases c3 : (x.f2.length : Int) > 600
        · exact ⟨false, step _ (Ev.pos c1 (Ev.neg c2 (Ev.pos c3 (Ev.c rfl))))⟩
        · exact ⟨b, step _ (Ev.pos c1 (Ev.neg c2 (Ev.neg c3 hb)))⟩
    · by_cases c3 : (x.f2.length : Int) > 600
      · exact ⟨false, step _ (Ev.neg c1 (Ev.pos c3 (Ev.c rfl)))⟩
      · exact ⟨b, step _ (Ev.neg c1 (Ev.neg c3 hb))⟩
theorem few_ev (l : List S44) : ∃ b, Ev (fun k => papermilllaw56_few.f k l) b := by
  have key : ∀ b, (b = false → l.length ≤ 600) → ∃ r, Ev (fun k => papermilllaw56_few.j0 k l b) r := fun b hb => by
    cases b with
    | true => exact ⟨false, Ev.step (fun k => papermilllaw56_few.j0.eq_2 ..) (Ev.pos rfl (Ev.c rfl))⟩
    | false =>
      obtain ⟨r, hr⟩ := few_l0 l (hb rfl) l [] rfl
      exact ⟨r, Ev.step (fun k => papermilllaw56_few.j0.eq_2 ..) (Ev.neg (by decide) hr)⟩
  unfold papermilllaw56_few.f
  by_cases c1 : (l.length : Int) > 40
  · by_cases c2 : (l.length : Int) ≤ 512
    · obtain ⟨r, hr⟩ := key true (fun h => by cases h)
      exact ⟨r, Ev.pos c1 (Ev.pos c2 hr)⟩
    · obtain ⟨r, hr⟩ := key (decide ((l.length : Int) > 600)) (fun h => by have := of_decide_eq_false h; omega)
      exact ⟨r, Ev.pos c1 (Ev.neg c2 hr)⟩
  · obtain ⟨r, hr⟩ := key (decide ((l.length : Int) > 600)) (fun h => by have := of_decide_eq_false h; omega)
    exact ⟨r, Ev.neg c1 hr⟩
end Go.Proofs.Ytegilakgfoglpaa.Pl
