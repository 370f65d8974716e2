/- Plain laws on paths: what is reached, by the visit and by the reference's rounds, for every graph that passes the check. -/
import Derived.Test.YtaldnhlojllanaaPl
namespace Go.Proofs.Ytaldnhlojllanaa.Pl
open Go.RowKit Go.Proofs.Ytaldnhlojllanaa.Opn Go.Proofs.Ytaldnhlojllanaa.Q Go.Proofs.Ytaldnhlojllanaa.Gd Go.Proofs.YtaldnhlojllanaaW.PrintWords

/-- Is there an arc from one node to another one. -/
def Arc (l : List S42) (u v : Nat) : Prop := ∃ x ∈ l, x.f0.toNat = u ∧ x.f1.toNat = v
/-- Does a path (of any number of arcs) lead from one node to another one. -/
inductive Path (l : List S42) (s : Nat) : Nat → Prop
  | refl : Path l s s
  | step {u v : Nat} : Path l s u → Arc l u v → Path l s v
theorem Path.trans {l : List S42} {a b c : Nat} (h : Path l a b) (k : Path l b c) : Path l a c := by
  induction k with
  | refl => exact h
  | step _ ha ih => exact ih.step ha
theorem Path.one {l : List S42} {a b : Nat} (h : Arc l a b) : Path l a b := Path.refl.step h
/-- Is a node marked. -/
def mkd (o : List Bool) (u : Nat) : Prop := o.getD u false = true
theorem mk_set_self {o : List Bool} {u : Nat} (h : u < o.length) : mkd (o.set u true) u := by simp [mkd, h]
theorem mk_set {o : List Bool} {u v : Nat} (h : mkd o v) : mkd (o.set u true) v := by
  unfold mkd at *
  simp only [List.getD_eq_getElem?_getD, List.getElem?_set] at *
  by_cases e : u = v
  · subst e
    rw [if_pos rfl]
    by_cases hu : u < o.length
    · simp [hu]
    · rw [List.getElem?_eq_none (by omega)] at h; simp at h
  · rw [if_neg e]; exact h
theorem mk_of_set {o : List Bool} {u v : Nat} (h : mkd (o.set u true) v) : v = u ∨ mkd o v := by
  unfold mkd at *
  simp only [List.getD_eq_getElem?_getD, List.getElem?_set] at *
  by_cases e : u = v
  · exact Or.inl e.symm
  · rw [if_neg e] at h; exact Or.inr h
theorem mk_rep {n u : Nat} : ¬ mkd (List.replicate n false) u := by
  unfold mkd
  rw [List.getD_eq_getElem?_getD, List.getElem?_replicate]
  split <;> simp
theorem mk_lt {o : List Bool} {u : Nat} (h : mkd o u) : u < o.length := by
  unfold mkd at h
  by_cases hu : u < o.length
  · exact hu
  · rw [List.getD_eq_getElem?_getD, List.getElem?_eq_none (by omega)] at h; simp at h
theorem mk_ext {o o' : List Bool} (hl : o.length = o'.length) (h : ∀ u, mkd o u ↔ mkd o' u) : o = o' := by
  apply List.ext_getElem hl
  intro i h1 h2
  have := h i
  unfold mkd at this
  simp only [List.getD_eq_getElem?_getD, List.getElem?_eq_getElem h1, List.getElem?_eq_getElem h2, Option.getD_some] at this
  exact Bool.eq_iff_iff.2 this
theorem not_mk {o : List Bool} {u : Nat} : ¬ mkd o u ↔ o.getD u false = false := by unfold mkd; simp
/-- How many nodes are marked. -/
def ct (o : List Bool) : Nat := o.count true
theorem ct_le (o : List Bool) : ct o ≤ o.length := List.count_le_length
theorem ct_set {o : List Bool} {u : Nat} (hu : u < o.length) (h : ¬ mkd o u) : ct (o.set u true) = ct o + 1 := by
  have h := not_mk.1 h
  simp only [List.getD_eq_getElem?_getD, List.getElem?_eq_getElem hu, Option.getD_some] at h
  unfold ct
  rw [List.count_set hu, h]
  simp
theorem ct_mono : ∀ (o o' : List Bool), o.length = o'.length → (∀ u, mkd o u → mkd o' u) → ct o ≤ ct o'
  | [], [], _, _ => Nat.le_refl _
  | [], _ :: _, h, _ => by simp at h
  | _ :: _, [], h, _ => by simp at h
  | a :: o, b :: o', hl, h => by
    have h1 := ct_mono o o' (by simpa using hl) (fun u hu => by have := h (u + 1); simpa [mkd] using this (by simpa [mkd] using hu))
    have h0 := h 0
    unfold ct mkd at *
    cases a <;> cases b <;> simp at h0 ⊢ <;> omega

/-! ### The visit -/
structure Post (l : List S42) (s : Nat) (o o' : List Bool) : Prop where
  len : o'.length = o.length
  up : ∀ u, mkd o u → mkd o' u
  self : mkd o' s
  sound : ∀ u, mkd o' u → mkd o u ∨ Path l s u
  closed : ∀ u v, mkd o' u → ¬ mkd o u → Arc l u v → mkd o' v
/-- Where the loop over the arcs stands. -/
structure Mid (l : List S42) (s : Nat) (o : List Bool) (pre : List S42) (o1 : List Bool) : Prop where
  len : o1.length = o.length
  up : ∀ u, mkd o u → mkd o1 u
  self : mkd o1 s
  sound : ∀ u, mkd o1 u → mkd o u ∨ Path l s u
  closed : ∀ u v, u ≠ s → mkd o1 u → ¬ mkd o u → Arc l u v → mkd o1 v
  here : ∀ x ∈ pre, x.f0.toNat = s → mkd o1 x.f1.toNat
theorem visit_ok (l : List S42) (N : Int) (n : Nat) (hF : Fit N l) (hN : N = (n : Int)) : ∀ (k s : Nat) (o : List Bool), o.length = n → s < n → ¬ mkd o s → n ≤ k + ct o → ∃ o', rVisit l k (s : Int) o = some o' ∧ Post l s o o' := by
  intro k
  induction k with
  | zero =>
    intro s o hl hs hm hk
    have := ct_set (by omega) hm
    have := ct_le (o.set s true)
    rw [List.length_set] at this
    omega
  | succ k ih =>
    intro s o hl hs hm hk
    unfold rVisit
    have hc := ct_set (u := s) (by omega) hm
    have key : ∀ (post pre : List S42) (o1 : List Bool), l = pre ++ post → Mid l s o pre o1 → ∃ o', post.foldlM (fun o a => if a.f0 = (s : Int) then (if o.getD a.f1.toNat false = true then some o else rVisit l k a.f1 o) else some o) o1 = some o' ∧ Mid l s o l o' := by
      intro post
      induction post with
      | nil => intro pre o1 h hM; exact ⟨o1, rfl, by rw [List.append_nil] at h; rw [h]; rw [h] at hM; exact hM⟩
      | cons x post ihp =>
        intro pre o1 h hM
        have hx := hF.2.2.2 x (mem_at h)
        rw [List.foldlM_cons]
        by_cases c : x.f0 = (s : Int)
        · rw [if_pos c]
          by_cases c2 : o1.getD x.f1.toNat false = true
          · rw [if_pos c2]
            refine ihp (pre ++ [x]) o1 (app_one h) ⟨hM.len, hM.up, hM.self, hM.sound, hM.closed, fun y hy hy0 => ?_⟩
            rcases List.mem_append.1 hy with hy | hy
            · exact hM.here y hy hy0
            · rw [List.mem_singleton] at hy; subst hy; exact c2
          · rw [if_neg c2]
            have hup : ∀ u, mkd (o.set s true) u → mkd o1 u := fun u hu => by
              rcases mk_of_set hu with rfl | hu
              · exact hM.self
              · exact hM.up u hu
            have hct := ct_mono (o.set s true) o1 (by rw [List.length_set]; exact hM.len.symm) hup
            have hl1 := hM.len
            obtain ⟨o2, h2, hP⟩ := ih x.f1.toNat o1 (by omega) (by omega) c2 (by omega)
            rw [Int.toNat_of_nonneg hx.2.1] at h2
            rw [h2]
            refine ihp (pre ++ [x]) o2 (app_one h) ⟨by rw [hP.len]; exact hM.len, fun u hu => hP.up u (hM.up u hu), hP.up s hM.self, fun u hu => ?_, fun u v hus hu hnu ha => ?_, fun y hy hy0 => ?_⟩
            · rcases hP.sound u hu with h1 | h1
              · exact hM.sound u h1
              · exact Or.inr ((Path.one ⟨x, mem_at h, by rw [c]; simp, rfl⟩).trans h1)
            · by_cases h1 : mkd o1 u
              · exact hP.up v (hM.closed u v hus h1 hnu ha)
              · exact hP.closed u v hu h1 ha
            · rcases List.mem_append.1 hy with hy | hy
              · exact hP.up _ (hM.here y hy hy0)
              · rw [List.mem_singleton] at hy; subst hy; exact hP.self
        · rw [if_neg c]
          refine ihp (pre ++ [x]) o1 (app_one h) ⟨hM.len, hM.up, hM.self, hM.sound, hM.closed, fun y hy hy0 => ?_⟩
          rcases List.mem_append.1 hy with hy | hy
          · exact hM.here y hy hy0
          · rw [List.mem_singleton] at hy; subst hy; exact absurd (by omega) c
    obtain ⟨o', h1, hM⟩ := key l [] (o.set s true) rfl ⟨List.length_set, fun u hu => mk_set hu, mk_set_self (by omega), fun u hu => by
      rcases mk_of_set hu with rfl | hu
      · exact Or.inr Path.refl
      · exact Or.inl hu, fun u v hus hu hnu _ => by
      rcases mk_of_set hu with rfl | hu
      · exact absurd rfl hus
      · exact absurd hu hnu, fun x hx => absurd hx (by simp)⟩
    refine ⟨o', h1, hM.len, hM.up, hM.self, hM.sound, fun u v hu hnu ha => ?_⟩
    by_cases e : u = s
    · subst e
      obtain ⟨x, hx, hx0, hx1⟩ := ha
      rw [← hx1]
      exact hM.here x hx hx0
    · exact hM.closed u v e hu hnu ha
/-- What is reached from a node. -/
structure IsReach (l : List S42) (n s : Nat) (o : List Bool) : Prop where
  len : o.length = n
  iff : ∀ u, mkd o u ↔ Path l s u
theorem IsReach.unique {l : List S42} {n s : Nat} {o o' : List Bool} (h : IsReach l n s o) (h' : IsReach l n s o') : o = o' := mk_ext (by rw [h.len, h'.len]) fun u => (h.iff u).trans (h'.iff u).symm
theorem isReach_of {l : List S42} {n s : Nat} {o : List Bool} (hl : o.length = n) (hs : mkd o s) (hsound : ∀ u, mkd o u → Path l s u) (hc : ∀ u v, mkd o u → Arc l u v → mkd o v) : IsReach l n s o :=
  ⟨hl, fun u => ⟨hsound u, fun h => by induction h with
    | refl => exact hs
    | step _ ha ih => exact hc _ _ ih ha⟩⟩
theorem visit_eq (l : List S42) (N : Int) (n s : Nat) (hF : Fit N l) (hN : N = (n : Int)) (hs : s < n) : ∃ o, Ev (fun k => rVisit l k (s : Int) (List.replicate n false)) o ∧ IsReach l n s o := by
  have hv : ∀ k, n ≤ k → ∃ o', rVisit l k (s : Int) (List.replicate n false) = some o' ∧ IsReach l n s o' := fun k hk => by
    obtain ⟨o', h1, h2⟩ := visit_ok l N n hF hN k s (List.replicate n false) (by simp) hs mk_rep (by omega)
    refine ⟨o', h1, isReach_of (by rw [h2.len]; simp) h2.self (fun u hu => ?_) fun u v hu ha => h2.closed u v hu mk_rep ha⟩
    rcases h2.sound u hu with h | h
    · exact absurd h mk_rep
    · exact h
  obtain ⟨o, h1, h2⟩ := hv n (Nat.le_refl _)
  refine ⟨o, ⟨n, fun k hk => ?_⟩, h2⟩
  obtain ⟨o', h3, h4⟩ := hv k hk
  show rVisit l k (s : Int) (List.replicate n false) = some o
  rw [h3, h4.unique h2]

/-- What graph.Reach returns. -/
theorem reach_one (N : Int) (l : List S42) (s : Int) (hl : l.length ≤ 9223372036854775807) : ∃ r, Ev (fun k => graph_Reach.f k N l s) r ∧ r.1.length ≤ 64 ∧ (chk N l = 0 → 0 ≤ s → s < N → r.2 = 0 ∧ IsReach l N.toNat s.toNat r.1) ∧ ((chk N l ≠ 0 ∨ s < 0 ∨ s ≥ N) → r = ([], if chk N l = 0 then 7 else chk N l)) := by
  unfold graph_Reach.f
  by_cases c : chk N l = 0
  · have hF := chk_fit c
    have h1 := hF.1
    have h2 := hF.2.1
    by_cases c1 : s < 0
    · exact ⟨([], 7), Ev.bind (check_eq N l hl) (Ev.pos c (Ev.pos c1 (Ev.c rfl))), by simp, fun _ h => by omega, fun _ => by rw [if_pos c]⟩
    by_cases c2 : s ≥ N
    · exact ⟨([], 7), Ev.bind (check_eq N l hl) (Ev.pos c (Ev.neg c1 (Ev.pos c2 (Ev.c rfl)))), by simp, fun _ _ h => by omega, fun _ => by rw [if_pos c]⟩
    obtain ⟨o, h3, h4⟩ := visit_eq l N N.toNat s.toNat hF (by omega) (by omega)
    rw [Int.toNat_of_nonneg (by omega)] at h3
    exact ⟨(o, 0), Ev.bind (check_eq N l hl) (Ev.pos c (Ev.neg c1 (Ev.neg c2 (Ev.bind h3 (Ev.c rfl))))), by show o.length ≤ 64; rw [h4.len]; omega, fun _ _ _ => ⟨rfl, h4⟩, fun h => by omega⟩
  · exact ⟨([], chk N l), Ev.bind (check_eq N l hl) (Ev.neg c (Ev.c rfl)), by simp, fun h => absurd h c, fun _ => by rw [if_neg c]⟩
end Go.Proofs.Ytaldnhlojllanaa.Pl
