/- Plain laws on orders: what an order is, and what is left where there is none, for every graph that passes the check. -/
import Derived.Test.YtaldnhlojllanaaPr
namespace Go.Proofs.Ytaldnhlojllanaa.Pl
open Go.RowKit Go.Proofs.Ytaldnhlojllanaa.Opn Go.Proofs.Ytaldnhlojllanaa.Q Go.Proofs.Ytaldnhlojllanaa.Gd Go.Proofs.YtaldnhlojllanaaW.PrintWords

theorem Ev.unique {α : Type} {g : Nat → Option α} {r r' : α} (h : Ev g r) (h' : Ev g r') : r = r' := by
  obtain ⟨K, hK⟩ := h
  obtain ⟨K', hK'⟩ := h'
  have h1 := hK (max K K') (Nat.le_max_left _ _)
  have h2 := hK' (max K K') (Nat.le_max_right _ _)
  rw [h1] at h2
  exact Option.some.inj h2
/-- An order so far: what is marked is what stands in it, each node once, behind all from which an arc leads to it. -/
structure OrdInv (l : List S42) (n : Nat) (d : List Bool) (out : List Int) : Prop where
  len : d.length = n
  cnt : ct d = out.length
  mem : ∀ u : Nat, mkd d u ↔ (u : Int) ∈ out
  nn : ∀ v ∈ out, 0 ≤ v
  nodup : out.Nodup
  pre : ∀ (p q : List Int) (v : Int), out = p ++ v :: q → ∀ x ∈ l, x.f1 = v → x.f0 ∈ p
theorem OrdInv.start (l : List S42) (n : Nat) : OrdInv l n (List.replicate n false) [] :=
  ⟨by simp, by simp [ct, List.count_replicate], fun u => ⟨fun h => absurd h mk_rep, fun h => by simp at h⟩, fun _ h => by simp at h, by simp, fun p q v h => by simp at h⟩
theorem split_last {p q out : List Int} {v i : Int} (h : out ++ [i] = p ++ v :: q) : (q = [] ∧ p = out ∧ v = i) ∨ ∃ q', q = q' ++ [i] ∧ out = p ++ v :: q' := by
  rcases List.eq_nil_or_concat q with rfl | ⟨q', j, rfl⟩
  · left
    have := List.append_inj' (t₁ := [i]) (t₂ := [v]) h rfl
    obtain ⟨h1, h2⟩ := this
    simp at h2
    exact ⟨rfl, h1.symm, h2.symm⟩
  · right
    have h' : out ++ [i] = (p ++ v :: q') ++ [j] := by rw [h]; simp
    obtain ⟨h1, h2⟩ := List.append_inj' h' rfl
    simp at h2
    subst h2
    exact ⟨q', by simp, h1⟩
theorem OrdInv.next {l : List S42} {n : Nat} {d : List Bool} {out : List Int} {N : Int} (hF : Fit N l) (h : OrdInv l n d out) {i : Nat} (hi : i < n) (hf : oFree l d i = true) : OrdInv l n (d.set i true) (out ++ [(i : Int)]) := by
  unfold oFree at hf
  rw [Bool.and_eq_true] at hf
  obtain ⟨h1, h2⟩ := hf
  have hm : ¬ mkd d i := by rw [not_mk]; simpa using h1
  have ha : ∀ x ∈ l, x.f1 = (i : Int) → mkd d x.f0.toNat := fun x hx hx1 => by
    have h3 : l.any (arcHit d (i : Int)) = false := by simpa using h2
    rw [List.any_eq_false] at h3
    have h4 := h3 x hx
    unfold arcHit at h4
    unfold mkd
    cases hv : d.getD x.f0.toNat false with
    | true => rfl
    | false => rw [hv] at h4; simp [hx1] at h4
  have hni : (i : Int) ∉ out := fun hc => hm ((h.mem i).2 hc)
  refine ⟨by rw [List.length_set]; exact h.len, by rw [ct_set (by rw [h.len]; exact hi) hm, List.length_append, List.length_singleton, h.cnt], fun u => ?_, fun v hv => ?_, ?_, fun p q v hs x hx hx1 => ?_⟩
  · rw [List.mem_append, List.mem_singleton]
    refine ⟨fun hu => ?_, fun hu => ?_⟩
    · rcases mk_of_set hu with rfl | hu
      · exact Or.inr rfl
      · exact Or.inl ((h.mem u).1 hu)
    · rcases hu with hu | hu
      · exact mk_set ((h.mem u).2 hu)
      · have : u = i := by omega
        subst this
        exact mk_set_self (by rw [h.len]; exact hi)
  · rcases List.mem_append.1 hv with hv | hv
    · exact h.nn v hv
    · rw [List.mem_singleton] at hv; omega
  · rw [List.nodup_append]
    refine ⟨h.nodup, by simp, fun a ha b hb => ?_⟩
    rw [List.mem_singleton] at hb
    subst hb
    rintro rfl
    exact hni ha
  · rcases split_last hs with ⟨_, rfl, rfl⟩ | ⟨q', _, ho⟩
    · have := (h.mem _).1 (ha x hx hx1)
      rwa [Int.toNat_of_nonneg (hF.2.2.2 x hx).1.1] at this
    · exact h.pre p q' v ho x hx hx1
/-- The whole order, or nodes none of which is free. -/
theorem oRun_spec (l : List S42) (N : Int) (n : Nat) (hF : Fit N l) (hN : N = (n : Int)) : ∀ (m : Nat) (d : List Bool) (out : List Int), out.length + m = n → OrdInv l n d out → ∃ r, Ev (fun k => oRun l N k d out) r ∧ ((r.2 = 0 ∧ r.1.length = n ∧ ∃ d', OrdInv l n d' r.1) ∨ (r = ([], 11) ∧ ∃ d' out', OrdInv l n d' out' ∧ out'.length < n ∧ ∀ i, i < n → oFree l d' i = false)) := by
  intro m
  induction m with
  | zero =>
    intro d out ho hI
    exact ⟨(out, 0), Ev.step (fun k => oRun.eq_2 ..) (Ev.neg (by omega) (Ev.c rfl)), Or.inl ⟨rfl, by show out.length = n; omega, d, hI⟩⟩
  | succ m ih =>
    intro d out ho hI
    have hn : N.toNat = n := by omega
    rcases (oNext_least l d n).h with ⟨h1, h2⟩ | ⟨i, h1, h2, h3, _⟩
    · refine ⟨([], 11), Ev.step (fun k => oRun.eq_2 ..) (Ev.pos (by omega) ?_), Or.inr ⟨rfl, d, out, hI, by omega, h2⟩⟩
      rw [hn, h1]
      exact Ev.pos (by decide) (Ev.c rfl)
    · obtain ⟨r, g1, g2⟩ := ih (d.set i true) (out ++ [(i : Int)]) (by rw [List.length_append, List.length_singleton]; omega) (hI.next hF h2 h3)
      refine ⟨r, Ev.step (fun k => oRun.eq_2 ..) (Ev.pos (by omega) ?_), g2⟩
      rw [hn, h1]
      refine Ev.neg (by omega) ?_
      rw [Int.toNat_natCast]
      exact g1
/-- A whole order. -/
structure IsOrd (l : List S42) (n : Nat) (out : List Int) : Prop where
  len : out.length = n
  rng : ∀ v ∈ out, 0 ≤ v ∧ v < (n : Int)
  nodup : out.Nodup
  all : ∀ u, u < n → (u : Int) ∈ out
  pre : ∀ (p q : List Int) (v : Int), out = p ++ v :: q → ∀ x ∈ l, x.f1 = v → x.f0 ∈ p
theorem ct_all : ∀ (o : List Bool), ct o = o.length → ∀ u, u < o.length → mkd o u
  | [], _, u, h => by simp at h
  | a :: o, hc, u, hu => by
    have h1 := ct_le o
    unfold ct at hc h1
    cases a with
    | false => simp at hc; omega
    | true =>
      simp at hc
      cases u with
      | zero => simp [mkd]
      | succ u => have := ct_all o hc u (by simpa using hu); simpa [mkd] using this
theorem OrdInv.whole {l : List S42} {n : Nat} {d : List Bool} {out : List Int} (h : OrdInv l n d out) (hl : out.length = n) : IsOrd l n out := by
  refine ⟨hl, fun v hv => ⟨h.nn v hv, ?_⟩, h.nodup, fun u hu => (h.mem u).1 (ct_all d (by rw [h.cnt, hl, h.len]) u (by rw [h.len]; exact hu)), h.pre⟩
  have hm : mkd d v.toNat := (h.mem _).2 (by rw [Int.toNat_of_nonneg (h.nn v hv)]; exact hv)
  have := mk_lt hm
  have := h.nn v hv
  rw [h.len] at *
  omega
/-- Where no order is found: nodes that are not marked, to each of which an arc leads from one of them. -/
structure Stuck (l : List S42) (n : Nat) (d : List Bool) : Prop where
  some : ∃ u, u < n ∧ ¬ mkd d u
  back : ∀ v, v < n → ¬ mkd d v → ∃ u, u < n ∧ ¬ mkd d u ∧ Arc l u v
theorem stuck_of {l : List S42} {N : Int} {n : Nat} {d : List Bool} {out : List Int} (hF : Fit N l) (hN : N = (n : Int)) (h : OrdInv l n d out) (hl : out.length < n) (hf : ∀ i, i < n → oFree l d i = false) : Stuck l n d := by
  refine ⟨?_, fun v hv hm => ?_⟩
  · by_cases hall : ∀ u, u < n → mkd d u
    · exfalso
      have h1 : ct (List.replicate n true) ≤ ct d := ct_mono _ _ (by simp [h.len]) fun u hu => hall u (by have := mk_lt hu; simpa using this)
      have h2 : ct (List.replicate n true) = n := by simp [ct]
      have := h.cnt
      omega
    · simp only [Classical.not_forall] at hall
      obtain ⟨u, hu, hm⟩ := hall
      exact ⟨u, hu, hm⟩
  · have h1 := hf v hv
    unfold oFree at h1
    rw [not_mk.1 hm] at h1
    simp only [Bool.not_false, Bool.true_and, Bool.not_eq_false'] at h1
    rw [List.any_eq_true] at h1
    obtain ⟨x, hx, hx1⟩ := h1
    unfold arcHit at hx1
    rw [Bool.and_eq_true] at hx1
    have hr := hF.2.2.2 x hx
    refine ⟨x.f0.toNat, by omega, ?_, x, hx, rfl, ?_⟩
    · rw [not_mk]; simpa using hx1.2
    · have := hx1.1
      simp at this
      omega
theorem order_spec (N : Int) (l : List S42) (hl : l.length ≤ 9223372036854775807) (c : chk N l = 0) : ∃ r, Ev (fun k => graph_Order.f k N l) r ∧ ((r.2 = 0 ∧ IsOrd l N.toNat r.1) ∨ (r = ([], 11) ∧ ∃ d, Stuck l N.toNat d)) := by
  have hF := chk_fit c
  have h1 := hF.1
  obtain ⟨r, a, b⟩ := oRun_spec l N N.toNat hF (by omega) N.toNat (List.replicate N.toNat false) [] (by simp) (OrdInv.start l N.toNat)
  refine ⟨r, ?_, ?_⟩
  · unfold graph_Order.f
    exact Ev.bind (check_eq N l hl) (Ev.pos c a)
  · rcases b with ⟨b1, b2, d, b3⟩ | ⟨b1, d, out, b2, b3, b4⟩
    · exact Or.inl ⟨b1, b3.whole b2⟩
    · exact Or.inr ⟨b1, d, stuck_of hF (by omega) b2 b3 b4⟩
end Go.Proofs.Ytaldnhlojllanaa.Pl
