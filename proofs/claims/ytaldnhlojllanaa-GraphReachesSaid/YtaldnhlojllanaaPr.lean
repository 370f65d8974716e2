/- Plain laws on paths: what is reached, by the visit and by the reference's rounds, for every graph that passes the check. -/
import Derived.Test.YtaldnhlojllanaaPl
import Derived.Test.YtaldnhlojllanaaQ11
namespace Go.Proofs.Ytaldnhlojllanaa.Pl
open Go.RowKit Go.Proofs.Ytaldnhlojllanaa.Opn Go.Proofs.Ytaldnhlojllanaa.Q Go.Proofs.Ytaldnhlojllanaa.Gd Go.Proofs.YtaldnhlojllanaaW.PrintWords

/-- Is there an arc from one node to another one. -/
def Arc (l : List S42) (u v : Nat) : Prop := ∃ x ∈ l, x.f0.toNat = u ∧ x.f1.toNat = v
/-- Does a path (of any number of arcs) lead from one node to another one. -/
inductive Path (l : List S42) (s : Nat) : Nat → Prop
  | refl : Path l s s
  | step {u v : Nat} : Path l s u → Arc l u v → Path l s v
theorem Path.trans {l : List S42} {a b c : Nat} (h : Path l a b) (k : Path l b c) : Path l a c := by
  induction k with
  | refl => exact h
  | step _ ha ih => exact ih.step ha
theorem Path.one {l : List S42} {a b : Nat} (h : Arc l a b) : Path l a b := Path.refl.step h
/-- Is a node marked. -/
def mk (o : List Bool) (u : Nat) : Prop := o.getD u false = true
theorem mk_set_self {o : List Bool} {u : Nat} (h : u < o.length) : mk (o.set u true) u := by simp [mk, h]
theorem mk_set {o : List Bool} {u v : Nat} (h : mk o v) : mk (o.set u true) v := by
  unfold mk at *
  simp only [List.getD_eq_getElem?_getD, List.getElem?_set] at *
  by_cases e : u = v
  · subst e
    rw [if_pos rfl]
    by_cases hu : u < o.length
    · simp [hu]
    · rw [List.getElem?_eq_none (by omega)] at h; simp at h
  · rw [if_neg e]; exact h
theorem mk_of_set {o : List Bool} {u v : Nat} (h : mk (o.set u true) v) : v = u ∨ mk o v := by
  unfold mk at *
  simp only [List.getD_eq_getElem?_getD, List.getElem?_set] at *
  by_cases e : u = v
  · exact Or.inl e.symm
  · rw [if_neg e] at h; exact Or.inr h
theorem mk_rep {n u : Nat} : ¬ mk (List.replicate n false) u := by
  unfold mk
  rw [List.getD_eq_getElem?_getD, List.getElem?_replicate]
  split <;> simp
theorem mk_lt {o : List Bool} {u : Nat} (h : mk o u) : u < o.length := by
  unfold mk at h
  by_cases hu : u < o.length
  · exact hu
  · rw [List.getD_eq_getElem?_getD, List.getElem?_eq_none (by omega)] at h; simp at h
theorem mk_ext {o o' : List Bool} (hl : o.length = o'.length) (h : ∀ u, mk o u ↔ mk o' u) : o = o' := by
  apply List.ext_getElem hl
  intro i h1 h2
  have := h i
  unfold mk at this
  simp only [List.getD_eq_getElem?_getD, List.getElem?_eq_getElem h1, List.getElem?_eq_getElem h2, Option.getD_some] at this
  exact Bool.eq_iff_iff.2 this
theorem not_mk {o : List Bool} {u : Nat} : ¬ mk o u ↔ o.getD u false = false := by unfold mk; simp
/-- How many nodes are marked. -/
def ct (o : List Bool) : Nat := o.count true
theorem ct_le (o : List Bool) : ct o ≤ o.length := List.count_le_length
theorem ct_set {o : List Bool} {u : Nat} (hu : u < o.length) (h : ¬ mk o u) : ct (o.set u true) = ct o + 1 := by
  have h := not_mk.1 h
  simp only [List.getD_eq_getElem?_getD, List.getElem?_eq_getElem hu, Option.getD_some] at h
  unfold ct
  rw [List.count_set hu, h]
  simp
theorem ct_mono : ∀ (o o' : List Bool), o.length = o'.length → (∀ u, mk o u → mk o' u) → ct o ≤ ct o'
  | [], [], _, _ => Nat.le_refl _
  | [], _ :: _, h, _ => by simp at h
  | _ :: _, [], h, _ => by simp at h
  | a :: o, b :: o', hl, h => by
    have h1 := ct_mono o o' (by simpa using hl) (fun u hu => by have := h (u + 1); simpa [mk] using this (by simpa [mk] using hu))
    have h0 := h 0
    unfold ct mk at *
    cases a <;> cases b <;> simp at h0 ⊢ <;> omega

/-! ### The visit -/
structure Post (l : List S42) (s : Nat) (o o' : List Bool) : Prop where
  len : o'.length = o.length
  up : ∀ u, mk o u → mk o' u
  self : mk o' s
  sound : ∀ u, mk o' u → mk o u ∨ Path l s u
  closed : ∀ u v, mk o' u → ¬ mk o u → Arc l u v → mk o' v
/-- Where the loop over the arcs stands. -/
structure Mid (l : List S42) (s : Nat) (o : List Bool) (pre : List S42) (o1 : List Bool) : Prop where
  len : o1.length = o.length
  up : ∀ u, mk o u → mk o1 u
  self : mk o1 s
  sound : ∀ u, mk o1 u → mk o u ∨ Path l s u
  closed : ∀ u v, u ≠ s → mk o1 u → ¬ mk o u → Arc l u v → mk o1 v
  here : ∀ x ∈ pre, x.f0.toNat = s → mk o1 x.f1.toNat
theorem visit_ok (l : List S42) (N : Int) (n : Nat) (hF : Fit N l) (hN : N = (n : Int)) : ∀ (k s : Nat) (o : List Bool), o.length = n → s < n → ¬ mk o s → n ≤ k + ct o → ∃ o', rVisit l k (s : Int) o = some o' ∧ Post l s o o' := by
  intro k
  induction k with
  | zero =>
    intro s o hl hs hm hk
    have := ct_set (by omega) hm
    have := ct_le (o.set s true)
    rw [List.length_set] at this
    omega
  | succ k ih =>
    intro s o hl hs hm hk
    unfold rVisit
    have hc := ct_set (u := s) (by omega) hm
    have key : ∀ (post pre : List S42) (o1 : List Bool), l = pre ++ post → Mid l s o pre o1 → ∃ o', post.foldlM (fun o a => if a.f0 = (s : Int) then (if o.getD a.f1.toNat false = true then some o else rVisit l k a.f1 o) else some o) o1 = some o' ∧ Mid l s o l o' := by
      intro post
      induction post with
      | nil => intro pre o1 h hM; exact ⟨o1, rfl, by rw [List.append_nil] at h; rw [h]; rw [h] at hM; exact hM⟩
      | cons x post ihp =>
        intro pre o1 h hM
        have hx := hF.2.2.2 x (mem_at h)
        rw [List.foldlM_cons]
        by_cases c : x.f0 = (s : Int)
        · rw [if_pos c]
          by_cases c2 : o1.getD x.f1.toNat false = true
          · rw [if_pos c2]
            refine ihp (pre ++ [x]) o1 (app_one h) ⟨hM.len, hM.up, hM.self, hM.sound, hM.closed, fun y hy hy0 => ?_⟩
            rcases List.mem_append.1 hy with hy | hy
            · exact hM.here y hy hy0
            · rw [List.mem_singleton] at hy; subst hy; exact c2
          · rw [if_neg c2]
            have hup : ∀ u, mk (o.set s true) u → mk o1 u := fun u hu => by
              rcases mk_of_set hu with rfl | hu
              · exact hM.self
              · exact hM.up u hu
            have hct := ct_mono (o.set s true) o1 (by rw [List.length_set]; exact hM.len.symm) hup
            have hl1 := hM.len
            obtain ⟨o2, h2, hP⟩ := ih x.f1.toNat o1 (by omega) (by omega) c2 (by omega)
            rw [Int.toNat_of_nonneg hx.2.1] at h2
            rw [h2]
            refine ihp (pre ++ [x]) o2 (app_one h) ⟨by rw [hP.len]; exact hM.len, fun u hu => hP.up u (hM.up u hu), hP.up s hM.self, fun u hu => ?_, fun u v hus hu hnu ha => ?_, fun y hy hy0 => ?_⟩
            · rcases hP.sound u hu with h1 | h1
              · exact hM.sound u h1
              · exact Or.inr ((Path.one ⟨x, mem_at h, by rw [c]; simp, rfl⟩).trans h1)
            · by_cases h1 : mk o1 u
              · exact hP.up v (hM.closed u v hus h1 hnu ha)
              · exact hP.closed u v hu h1 ha
            · rcases List.mem_append.1 hy with hy | hy
              · exact hP.up _ (hM.here y hy hy0)
              · rw [List.mem_singleton] at hy; subst hy; exact hP.self
        · rw [if_neg c]
          refine ihp (pre ++ [x]) o1 (app_one h) ⟨hM.len, hM.up, hM.self, hM.sound, hM.closed, fun y hy hy0 => ?_⟩
          rcases List.mem_append.1 hy with hy | hy
          · exact hM.here y hy hy0
          · rw [List.mem_singleton] at hy; subst hy; exact absurd (by omega) c
    obtain ⟨o', h1, hM⟩ := key l [] (o.set s true) rfl ⟨List.length_set, fun u hu => mk_set hu, mk_set_self (by omega), fun u hu => by
      rcases mk_of_set hu with rfl | hu
      · exact Or.inr Path.refl
      · exact Or.inl hu, fun u v hus hu hnu _ => by
      rcases mk_of_set hu with rfl | hu
      · exact absurd rfl hus
      · exact absurd hu hnu, fun x hx => absurd hx (by simp)⟩
    refine ⟨o', h1, hM.len, hM.up, hM.self, hM.sound, fun u v hu hnu ha => ?_⟩
    by_cases e : u = s
    · subst e
      obtain ⟨x, hx, hx0, hx1⟩ := ha
      rw [← hx1]
      exact hM.here x hx hx0
    · exact hM.closed u v e hu hnu ha
/-- What is reached from a node. -/
structure IsReach (l : List S42) (n s : Nat) (o : List Bool) : Prop where
  len : o.length = n
  iff : ∀ u, mk o u ↔ Path l s u
theorem IsReach.unique {l : List S42} {n s : Nat} {o o' : List Bool} (h : IsReach l n s o) (h' : IsReach l n s o') : o = o' := mk_ext (by rw [h.len, h'.len]) fun u => (h.iff u).trans (h'.iff u).symm
theorem isReach_of {l : List S42} {n s : Nat} {o : List Bool} (hl : o.length = n) (hs : mk o s) (hsound : ∀ u, mk o u → Path l s u) (hc : ∀ u v, mk o u → Arc l u v → mk o v) : IsReach l n s o :=
  ⟨hl, fun u => ⟨hsound u, fun h => by induction h with
    | refl => exact hs
    | step _ ha ih => exact hc _ _ ih ha⟩⟩
theorem visit_eq (l : List S42) (N : Int) (n s : Nat) (hF : Fit N l) (hN : N = (n : Int)) (hs : s < n) : ∃ o, Ev (fun k => rVisit l k (s : Int) (List.replicate n false)) o ∧ IsReach l n s o := by
  have hv : ∀ k, n ≤ k → ∃ o', rVisit l k (s : Int) (List.replicate n false) = some o' ∧ IsReach l n s o' := fun k hk => by
    obtain ⟨o', h1, h2⟩ := visit_ok l N n hF hN k s (List.replicate n false) (by simp) hs mk_rep (by omega)
    refine ⟨o', h1, isReach_of (by rw [h2.len]; simp) h2.self (fun u hu => ?_) fun u v hu ha => h2.closed u v hu mk_rep ha⟩
    rcases h2.sound u hu with h | h
    · exact absurd h mk_rep
    · exact h
  obtain ⟨o, h1, h2⟩ := hv n (Nat.le_refl _)
  refine ⟨o, ⟨n, fun k hk => ?_⟩, h2⟩
  obtain ⟨o', h3, h4⟩ := hv k hk
  show rVisit l k (s : Int) (List.replicate n false) = some o
  rw [h3, h4.unique h2]

/-! ### The reference's rounds -/
def rstep (o : List Bool) (x : S42) : List Bool := if o.getD x.f0.toNat false = true then o.set x.f1.toNat true else o
theorem rstep_yes {o : List Bool} {x : S42} (h : mk o x.f0.toNat) : rstep o x = o.set x.f1.toNat true := if_pos h
theorem rstep_no {o : List Bool} {x : S42} (h : ¬ mk o x.f0.toNat) : rstep o x = o := if_neg h
theorem rstep_len (o : List Bool) (x : S42) : (rstep o x).length = o.length := by
  unfold rstep
  split <;> simp
theorem rfold_len : ∀ (l : List S42) (o : List Bool), (l.foldl rstep o).length = o.length
  | [], _ => rfl
  | x :: l, o => by rw [List.foldl_cons, rfold_len l, rstep_len]
def rnds (l : List S42) : Nat → List Bool → List Bool
  | 0, o => o
  | m + 1, o => rnds l m (l.foldl rstep o)
theorem rnds_len (l : List S42) : ∀ (m : Nat) (o : List Bool), (rnds l m o).length = o.length
  | 0, _ => rfl
  | m + 1, o => by unfold rnds; rw [rnds_len l m, rfold_len]
theorem rreach_l1 (l : List S42) (N : Int) (n : Nat) (j : Int) (r : List Bool × Int) (hF : Fit N l) (hN : N = (n : Int)) : ∀ (post pre : List S42) (o : List Bool), l = pre ++ post → o.length = n → Ev (fun k => papermillref10_Reach.l0 k (post.foldl rstep o) (wrap64 (j + 1)) N l) r → Ev (fun k => papermillref10_Reach.l1 k o j (pre.length : Int) N l) r := by
  intro post
  induction post with
  | nil =>
    intro pre o h _ hk
    exact Ev.step (fun k => papermillref10_Reach.l1.eq_2 ..) (Ev.neg (nlt_end h) hk)
  | cons x post ih =>
    intro pre o h ho hk
    have e : rd_T42 l (pre.length : Int) = x := by rw [h]; exact rd42_at pre post x
    have hx := hF.2.2.2 x (mem_at h)
    have hl := hF.2.2.1
    refine Ev.step (fun k => papermillref10_Reach.l1.eq_2 ..) (Ev.pos (lt_at h) (Ev.pos (by omega) ?_))
    rw [e, wrap_next h (by omega)]
    refine Ev.pos hx.1.1 (Ev.pos (by omega) ?_)
    rw [List.foldl_cons] at hk
    by_cases c : rdOf false o x.f0 = true
    · refine Ev.pos c (Ev.pos hx.2.1 (Ev.pos (by omega) (ih (pre ++ [x]) _ (app_one h) (by rw [List.length_set]; exact ho) ?_)))
      have : rstep o x = o.set x.f1.toNat true := rstep_yes c
      rw [← this]; exact hk
    · refine Ev.neg c (ih (pre ++ [x]) _ (app_one h) ho ?_)
      have : rstep o x = o := rstep_no c
      rw [this] at hk; exact hk
theorem rreach_l0 (l : List S42) (N : Int) (n : Nat) (hF : Fit N l) (hN : N = (n : Int)) : ∀ (m j : Nat) (o : List Bool), j + m = n → o.length = n → Ev (fun k => papermillref10_Reach.l0 k o (j : Int) N l) (rnds l m o, 0) := by
  intro m
  induction m with
  | zero =>
    intro j o hj _
    exact Ev.step (fun k => papermillref10_Reach.l0.eq_2 ..) (Ev.neg (by omega) (Ev.c rfl))
  | succ m ih =>
    intro j o hj ho
    have h64 := hF.2.1
    refine Ev.step (fun k => papermillref10_Reach.l0.eq_2 ..) (Ev.pos (by omega) (rreach_l1 l N n j _ hF hN l [] o rfl ho ?_))
    rw [wrap_nat (n := n) (by omega) (by omega)]
    exact ih (j + 1) _ (by omega) (by rw [rfold_len]; exact ho)
theorem rstep_up {o : List Bool} {x : S42} {u : Nat} (h : mk o u) : mk (rstep o x) u := by
  unfold rstep
  split
  · exact mk_set h
  · exact h
theorem rfold_up : ∀ (l : List S42) (o : List Bool) (u : Nat), mk o u → mk (l.foldl rstep o) u
  | [], _, _, h => h
  | x :: l, o, u, h => by rw [List.foldl_cons]; exact rfold_up l _ u (rstep_up h)
theorem rfold_sound (l' : List S42) (s : Nat) : ∀ (l : List S42) (o : List Bool), (∀ x ∈ l, x ∈ l') → (∀ u, mk o u → Path l' s u) → ∀ u, mk (l.foldl rstep o) u → Path l' s u
  | [], _, _, h, u, hu => h u hu
  | x :: l, o, hm, h, u, hu => by
    rw [List.foldl_cons] at hu
    refine rfold_sound l' s l (rstep o x) (fun y hy => hm y (List.mem_cons_of_mem _ hy)) (fun v hv => ?_) u hu
    unfold rstep at hv
    split at hv
    · rename_i hx
      rcases mk_of_set hv with rfl | hv
      · exact (h _ hx).step ⟨x, hm x List.mem_cons_self, rfl, rfl⟩
      · exact h v hv
    · exact h v hv
theorem rfold_grow : ∀ (l : List S42) (o : List Bool), (∀ x ∈ l, x.f1.toNat < o.length) → (l.foldl rstep o = o ∧ ∀ x ∈ l, mk o x.f0.toNat → mk o x.f1.toNat) ∨ ct o < ct (l.foldl rstep o)
  | [], _, _ => Or.inl ⟨rfl, fun _ h => absurd h (by simp)⟩
  | x :: l, o, hb => by
    rw [List.foldl_cons]
    by_cases h0 : mk o x.f0.toNat
    · by_cases h1 : mk o x.f1.toNat
      · have e : rstep o x = o := by
          rw [rstep_yes h0]
          refine mk_ext (by simp) fun u => ⟨fun hu => ?_, mk_set⟩
          rcases mk_of_set hu with rfl | hu
          · exact h1
          · exact hu
        rw [e]
        rcases rfold_grow l o (fun y hy => hb y (List.mem_cons_of_mem _ hy)) with ⟨h2, h3⟩ | h2
        · refine Or.inl ⟨h2, fun y hy h => ?_⟩
          rcases List.mem_cons.1 hy with rfl | hy
          · exact h1
          · exact h3 y hy h
        · exact Or.inr h2
      · right
        have e : rstep o x = o.set x.f1.toNat true := rstep_yes h0
        have h2 := ct_set (hb x List.mem_cons_self) h1
        have h3 := ct_mono (rstep o x) (l.foldl rstep (rstep o x)) (by rw [rfold_len]) (fun u hu => rfold_up l _ u hu)
        rw [e] at h3 ⊢
        omega
    · have e : rstep o x = o := rstep_no h0
      rw [e]
      rcases rfold_grow l o (fun y hy => hb y (List.mem_cons_of_mem _ hy)) with ⟨h2, h3⟩ | h2
      · refine Or.inl ⟨h2, fun y hy h => ?_⟩
        rcases List.mem_cons.1 hy with rfl | hy
        · exact absurd h h0
        · exact h3 y hy h
      · exact Or.inr h2
theorem rnds_fix (l : List S42) {o : List Bool} (h : l.foldl rstep o = o) : ∀ m, rnds l m o = o
  | 0 => rfl
  | m + 1 => by unfold rnds; rw [h]; exact rnds_fix l h m
theorem rnds_ok (l : List S42) (s n : Nat) : ∀ (m : Nat) (o : List Bool), o.length = n → (∀ x ∈ l, x.f1.toNat < n) → mk o s → (∀ u, mk o u → Path l s u) → n < m + ct o + 1 → mk (rnds l m o) s ∧ (∀ u, mk (rnds l m o) u → Path l s u) ∧ ∀ x ∈ l, mk (rnds l m o) x.f0.toNat → mk (rnds l m o) x.f1.toNat := by
  intro m
  induction m with
  | zero =>
    intro o ho hb hs hso hc
    refine ⟨hs, hso, fun x hx _ => ?_⟩
    show mk o x.f1.toNat
    by_cases h1 : mk o x.f1.toNat
    · exact h1
    · have h2 := ct_set (by rw [ho]; exact hb x hx) h1
      have h3 := ct_le (o.set x.f1.toNat true)
      rw [List.length_set] at h3
      omega
  | succ m ih =>
    intro o ho hb hs hso hc
    rcases rfold_grow l o (fun x hx => by rw [ho]; exact hb x hx) with ⟨h1, h2⟩ | h1
    · rw [rnds_fix l h1]
      exact ⟨hs, hso, h2⟩
    · unfold rnds
      exact ih _ (by rw [rfold_len]; exact ho) hb (rfold_up l o s hs) (rfold_sound l s l o (fun _ h => h) hso) (by omega)
theorem rreach_is (l : List S42) (N : Int) (n s : Nat) (hF : Fit N l) (hN : N = (n : Int)) (hs : s < n) : IsReach l n s (rnds l n ((List.replicate n false).set s true)) := by
  have hm : mk ((List.replicate n false).set s true) s := mk_set_self (by simpa using hs)
  obtain ⟨h1, h2, h3⟩ := rnds_ok l s n n ((List.replicate n false).set s true) (by simp) (fun x hx => by have := hF.2.2.2 x hx; omega) hm (fun u hu => by
    rcases mk_of_set hu with rfl | hu
    · exact Path.refl
    · exact absurd hu mk_rep) (by omega)
  refine isReach_of (by rw [rnds_len]; simp) h1 h2 fun u v hu ha => ?_
  obtain ⟨x, hx, rfl, rfl⟩ := ha
  exact h3 x hx hu
/-- What graph.Reach returns, and what the reference returns: the same. -/
theorem reach_eq (N : Int) (l : List S42) (s : Int) (hl : l.length ≤ 9223372036854775807) : ∃ r, Ev (fun k => graph_Reach.f k N l s) r ∧ Ev (fun k => papermillref10_Reach.f k N l s) r ∧ r.1.length ≤ 64 ∧ (chk N l = 0 → 0 ≤ s → s < N → r.2 = 0 ∧ IsReach l N.toNat s.toNat r.1) ∧ ((chk N l ≠ 0 ∨ s < 0 ∨ s ≥ N) → r = ([], if chk N l = 0 then 7 else chk N l)) := by
  unfold graph_Reach.f papermillref10_Reach.f
  by_cases c : chk N l = 0
  · have hF := chk_fit c
    have h1 := hF.1
    have h2 := hF.2.1
    by_cases c1 : s < 0
    · refine ⟨([], 7), Ev.bind (check_eq N l hl) (Ev.pos c (Ev.pos c1 (Ev.c rfl))), Ev.bind (rcheck_eq N l hl) (Ev.pos c (Ev.pos c1 (Ev.step (fun k => papermillref10_Reach.j0.eq_2 ..) (Ev.pos rfl (Ev.c rfl))))), by simp, fun _ h => by omega, fun _ => by rw [if_pos c]⟩
    by_cases c2 : s ≥ N
    · refine ⟨([], 7), Ev.bind (check_eq N l hl) (Ev.pos c (Ev.neg c1 (Ev.pos c2 (Ev.c rfl)))), Ev.bind (rcheck_eq N l hl) (Ev.pos c (Ev.neg c1 (Ev.step (fun k => papermillref10_Reach.j0.eq_2 ..) (Ev.pos (by simpa using c2) (Ev.c rfl))))), by simp, fun _ _ h => by omega, fun _ => by rw [if_pos c]⟩
    obtain ⟨o, h3, h4⟩ := visit_eq l N N.toNat s.toNat hF (by omega) (by omega)
    rw [Int.toNat_of_nonneg (by omega)] at h3
    have h5 := rreach_is l N N.toNat s.toNat hF (by omega) (by omega)
    have h6 := rreach_l0 l N N.toNat hF (by omega) N.toNat 0 ((List.replicate N.toNat false).set s.toNat true) (by omega) (by simp)
    rw [h5.unique h4] at h6
    refine ⟨(o, 0), Ev.bind (check_eq N l hl) (Ev.pos c (Ev.neg c1 (Ev.neg c2 (Ev.bind h3 (Ev.c rfl))))), Ev.bind (rcheck_eq N l hl) (Ev.pos c (Ev.neg c1 (Ev.step (fun k => papermillref10_Reach.j0.eq_2 ..) (Ev.neg (by simp; omega) (Ev.pos h1 (Ev.pos (by omega) (Ev.sb (fun _ => rfl) (Ev.pos (by omega) (Ev.pos (by simp; omega) h6))))))))), by show o.length ≤ 64; rw [h4.len]; omega, fun _ _ _ => ⟨rfl, h4⟩, fun h => by omega⟩
  · refine ⟨([], chk N l), Ev.bind (check_eq N l hl) (Ev.neg c (Ev.c rfl)), Ev.bind (rcheck_eq N l hl) (Ev.neg c (Ev.c rfl)), by simp, fun h => absurd h c, fun _ => by rw [if_neg c]⟩
end Go.Proofs.Ytaldnhlojllanaa.Pl
