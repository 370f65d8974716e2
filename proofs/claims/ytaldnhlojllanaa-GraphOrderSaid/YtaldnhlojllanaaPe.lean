/- Plain laws on the way round: the node that follows on the least cycle, for every graph that passes the check. -/
import Derived.Test.YtaldnhlojllanaaPd
namespace Go.Proofs.Ytaldnhlojllanaa.Pl
open Go.RowKit Go.Proofs.Ytaldnhlojllanaa.Opn Go.Proofs.Ytaldnhlojllanaa.Q Go.Proofs.Ytaldnhlojllanaa.Gd Go.Proofs.YtaldnhlojllanaaW.PrintWords

/-- One arc of the program's search for the node that follows. -/
def bstep (d : List Int) (a : Int) (b : Int) (x : S42) : Int :=
  if x.f0 = a then (if lv d x.f1.toNat ≥ 0 then (if b < 0 then x.f1 else (if lv d x.f1.toNat < lv d b.toNat then x.f1 else (if lv d x.f1.toNat = lv d b.toNat then (if x.f1 < b then x.f1 else b) else b))) else b) else b
/-- One arc of the reference's search. -/
def nstep (d : List Int) (a j : Int) (b : Int) (x : S42) : Int :=
  if x.f0 = a then (if lv d x.f1.toNat = j then (if b < 0 then x.f1 else (if x.f1 < b then x.f1 else b)) else b) else b
/-- The node that the program takes. -/
def PB (l : List S42) (d : List Int) (a b : Int) : Prop :=
  (b = -1 ∧ ∀ x ∈ l, x.f0 = a → lv d x.f1.toNat < 0) ∨ ((∃ x ∈ l, x.f0 = a ∧ x.f1 = b) ∧ 0 ≤ b ∧ 0 ≤ lv d b.toNat ∧ ∀ y ∈ l, y.f0 = a → 0 ≤ lv d y.f1.toNat → lv d b.toNat < lv d y.f1.toNat ∨ (lv d b.toNat = lv d y.f1.toNat ∧ b ≤ y.f1))
/-- The node that the reference takes. -/
def NB (l : List S42) (d : List Int) (a j b : Int) : Prop :=
  (b = -1 ∧ ∀ x ∈ l, x.f0 = a → lv d x.f1.toNat ≠ j) ∨ ((∃ x ∈ l, x.f0 = a ∧ x.f1 = b) ∧ 0 ≤ b ∧ lv d b.toNat = j ∧ ∀ y ∈ l, y.f0 = a → lv d y.f1.toNat = j → b ≤ y.f1)
theorem PB.next {l : List S42} {d : List Int} {a b : Int} {x : S42} (hx : 0 ≤ x.f1) (h : PB l d a b) : PB (l ++ [x]) d a (bstep d a b x) := by
  have grow : ∀ {p : S42 → Prop}, (∀ y ∈ l, p y) → p x → ∀ y ∈ l ++ [x], p y := fun h1 h2 y hy => by
    rcases List.mem_append.1 hy with hy | hy
    · exact h1 y hy
    · rw [List.mem_singleton] at hy; subst hy; exact h2
  have keep : (∃ y ∈ l, y.f0 = a ∧ y.f1 = b) → ∃ y ∈ l ++ [x], y.f0 = a ∧ y.f1 = b := fun ⟨y, hy, h1⟩ => ⟨y, List.mem_append_left _ hy, h1⟩
  have new : x.f0 = a → ∃ y ∈ l ++ [x], y.f0 = a ∧ y.f1 = x.f1 := fun h1 => ⟨x, by simp, h1, rfl⟩
  unfold bstep
  by_cases c1 : x.f0 = a
  · rw [if_pos c1]
    by_cases c2 : lv d x.f1.toNat ≥ 0
    · rw [if_pos c2]
      rcases h with ⟨rfl, h2⟩ | ⟨h1, h2, h3, h4⟩
      · rw [if_pos (by decide)]
        refine Or.inr ⟨new c1, hx, c2, grow (fun y hy hy1 hy2 => ?_) (fun _ _ => Or.inr ⟨rfl, Int.le_refl _⟩)⟩
        have := h2 y hy hy1
        omega
      · rw [if_neg (by omega)]
        by_cases c3 : lv d x.f1.toNat < lv d b.toNat
        · rw [if_pos c3]
          refine Or.inr ⟨new c1, hx, c2, grow (fun y hy hy1 hy2 => ?_) (fun _ _ => Or.inr ⟨rfl, Int.le_refl _⟩)⟩
          have := h4 y hy hy1 hy2
          omega
        · rw [if_neg c3]
          by_cases c4 : lv d x.f1.toNat = lv d b.toNat
          · rw [if_pos c4]
            by_cases c5 : x.f1 < b
            · rw [if_pos c5]
              refine Or.inr ⟨new c1, hx, c2, grow (fun y hy hy1 hy2 => ?_) (fun _ _ => Or.inr ⟨rfl, Int.le_refl _⟩)⟩
              have := h4 y hy hy1 hy2
              omega
            · rw [if_neg c5]
              exact Or.inr ⟨keep h1, h2, h3, grow h4 fun _ _ => by omega⟩
          · rw [if_neg c4]
            exact Or.inr ⟨keep h1, h2, h3, grow h4 fun _ _ => by omega⟩
    · rw [if_neg c2]
      rcases h with ⟨rfl, h2⟩ | ⟨h1, h2, h3, h4⟩
      · exact Or.inl ⟨rfl, grow h2 fun _ => by omega⟩
      · exact Or.inr ⟨keep h1, h2, h3, grow h4 fun _ _ => by omega⟩
  · rw [if_neg c1]
    rcases h with ⟨rfl, h2⟩ | ⟨h1, h2, h3, h4⟩
    · exact Or.inl ⟨rfl, grow h2 fun h => absurd h c1⟩
    · exact Or.inr ⟨keep h1, h2, h3, grow h4 fun h => absurd h c1⟩
theorem NB.next {l : List S42} {d : List Int} {a j b : Int} {x : S42} (hx : 0 ≤ x.f1) (h : NB l d a j b) : NB (l ++ [x]) d a j (nstep d a j b x) := by
  have grow : ∀ {p : S42 → Prop}, (∀ y ∈ l, p y) → p x → ∀ y ∈ l ++ [x], p y := fun h1 h2 y hy => by
    rcases List.mem_append.1 hy with hy | hy
    · exact h1 y hy
    · rw [List.mem_singleton] at hy; subst hy; exact h2
  have keep : (∃ y ∈ l, y.f0 = a ∧ y.f1 = b) → ∃ y ∈ l ++ [x], y.f0 = a ∧ y.f1 = b := fun ⟨y, hy, h1⟩ => ⟨y, List.mem_append_left _ hy, h1⟩
  have new : x.f0 = a → ∃ y ∈ l ++ [x], y.f0 = a ∧ y.f1 = x.f1 := fun h1 => ⟨x, by simp, h1, rfl⟩
  unfold nstep
  by_cases c1 : x.f0 = a
  · rw [if_pos c1]
    by_cases c2 : lv d x.f1.toNat = j
    · rw [if_pos c2]
      rcases h with ⟨rfl, h2⟩ | ⟨h1, h2, h3, h4⟩
      · rw [if_pos (by decide)]
        refine Or.inr ⟨new c1, hx, c2, grow (fun y hy hy1 hy2 => ?_) (fun _ _ => Int.le_refl _)⟩
        exact absurd hy2 (h2 y hy hy1)
      · rw [if_neg (by omega)]
        by_cases c5 : x.f1 < b
        · rw [if_pos c5]
          refine Or.inr ⟨new c1, hx, c2, grow (fun y hy hy1 hy2 => ?_) (fun _ _ => Int.le_refl _)⟩
          have := h4 y hy hy1 hy2
          omega
        · rw [if_neg c5]
          exact Or.inr ⟨keep h1, h2, h3, grow h4 fun _ _ => by omega⟩
    · rw [if_neg c2]
      rcases h with ⟨rfl, h2⟩ | ⟨h1, h2, h3, h4⟩
      · exact Or.inl ⟨rfl, grow h2 fun _ => c2⟩
      · exact Or.inr ⟨keep h1, h2, h3, grow h4 fun _ h => absurd h c2⟩
  · rw [if_neg c1]
    rcases h with ⟨rfl, h2⟩ | ⟨h1, h2, h3, h4⟩
    · exact Or.inl ⟨rfl, grow h2 fun h => absurd h c1⟩
    · exact Or.inr ⟨keep h1, h2, h3, grow h4 fun h => absurd h c1⟩
def pb (l : List S42) (d : List Int) (a : Int) : Int := l.foldl (bstep d a) (-1)
def nx (l : List S42) (d : List Int) (a j : Int) : Int := l.foldl (nstep d a j) (-1)
theorem pb_spec {N : Int} {l : List S42} (hF : Fit N l) (d : List Int) (a : Int) : PB l d a (pb l d a) := by
  have key : ∀ (post pre : List S42) (b : Int), l = pre ++ post → PB pre d a b → PB l d a (post.foldl (bstep d a) b) := by
    intro post
    induction post with
    | nil => intro pre b h hb; have e : pre = l := by rw [h]; simp
             rw [← e]; exact hb
    | cons x post ih =>
      intro pre b h hb
      exact ih (pre ++ [x]) _ (app_one h) (hb.next (hF.2.2.2 x (mem_at h)).2.1)
  exact key l [] (-1) rfl (Or.inl ⟨rfl, fun _ h => absurd h (by simp)⟩)
theorem nx_spec {N : Int} {l : List S42} (hF : Fit N l) (d : List Int) (a j : Int) : NB l d a j (nx l d a j) := by
  have key : ∀ (post pre : List S42) (b : Int), l = pre ++ post → NB pre d a j b → NB l d a j (post.foldl (nstep d a j) b) := by
    intro post
    induction post with
    | nil => intro pre b h hb; have e : pre = l := by rw [h]; simp
             rw [← e]; exact hb
    | cons x post ih =>
      intro pre b h hb
      exact ih (pre ++ [x]) _ (app_one h) (hb.next (hF.2.2.2 x (mem_at h)).2.1)
  exact key l [] (-1) rfl (Or.inl ⟨rfl, fun _ h => absurd h (by simp)⟩)
theorem PB.toNB {l : List S42} {d : List Int} {a b : Int} (h : PB l d a b) (hb : 0 ≤ b) : NB l d a (lv d b.toNat) b := by
  rcases h with ⟨rfl, _⟩ | ⟨h1, h2, h3, h4⟩
  · omega
  · refine Or.inr ⟨h1, h2, rfl, fun y hy hy1 hy2 => ?_⟩
    have := h4 y hy hy1 (by omega)
    omega
theorem NB.uniq {l : List S42} {d : List Int} {a j b b' : Int} (h : NB l d a j b) (h' : NB l d a j b') : b = b' := by
  rcases h with ⟨rfl, h2⟩ | ⟨⟨x, hx, hx0, hx1⟩, h2, h3, h4⟩
  · rcases h' with ⟨rfl, _⟩ | ⟨⟨x, hx, hx0, hx1⟩, k2, k3, _⟩
    · rfl
    · exact absurd (by rw [hx1]; exact k3) (h2 x hx hx0)
  · rcases h' with ⟨rfl, k2⟩ | ⟨⟨y, hy, hy0, hy1⟩, k2, k3, k4⟩
    · exact absurd (by rw [hx1]; exact h3) (k2 x hx hx0)
    · have e1 := h4 y hy hy0 (by rw [hy1]; exact k3)
      have e2 := k4 x hx hx0 (by rw [hx1]; exact h3)
      omega
/-- Where a node is k + 1 arcs off, the node that follows is k arcs off: for the program as for the reference. -/
theorem IsDist.follow {l : List S42} {N : Int} {n dst : Nat} {d : List Int} (hF : Fit N l) (hN : N = (n : Int)) (h : IsDist l n dst d) {a : Int} {k : Nat} (h0 : 0 ≤ a) (h1 : a < n) (hk : lv d a.toNat = ((k + 1 : Nat) : Int)) :
    pb l d a = nx l d a k ∧ 0 ≤ nx l d a k ∧ nx l d a k < n ∧ lv d (nx l d a k).toNat = k ∧ Arc l a.toNat (nx l d a k).toNat := by
  obtain ⟨x, hx, hx0, hx1⟩ := h.down a.toNat (by omega) (by omega)
  have hxr := hF.2.2.2 x hx
  have hp := pb_spec hF d a
  have hpos : 0 ≤ pb l d a ∧ lv d (pb l d a).toNat = k := by
    rcases hp with ⟨_, h2⟩ | ⟨⟨y, hy, hy0, hy1⟩, h2, h3, h4⟩
    · have := h2 x hx (by omega)
      omega
    · have e := h4 x hx (by omega) (by omega)
      have u := h.up y hy (by rw [hy1]; exact h3)
      rw [hy0, hy1] at u
      omega
  have hn := hp.toNB hpos.1
  rw [hpos.2] at hn
  have e := hn.uniq (nx_spec hF d a k)
  refine ⟨e, ?_⟩
  rw [← e]
  rcases hn with ⟨hc, _⟩ | ⟨⟨y, hy, hy0, hy1⟩, h2, h3, _⟩
  · omega
  · have hyr := hF.2.2.2 y hy
    exact ⟨h2, by omega, h3, y, hy, by rw [hy0], by rw [hy1]⟩
/-- The way down: the nodes from a on, which is k arcs off, up to the one ahead of the end. -/
def down (l : List S42) (d : List Int) : Nat → Int → List Int
  | 0, _ => []
  | k + 1, a => a :: down l d k (nx l d a k)
theorem down_len (l : List S42) (d : List Int) : ∀ (k : Nat) (a : Int), (down l d k a).length = k
  | 0, _ => rfl
  | k + 1, a => by rw [down, List.length_cons, down_len l d k]
/-- The cycle from a node on. -/
def cyc (l : List S42) (n v : Nat) : List Int := (v : Int) :: down l (farD l n v) (lv (farD l n v) (pb l (farD l n v) v).toNat).toNat (pb l (farD l n v) v)
theorem pb_cyc {l : List S42} {N : Int} {n v : Nat} (hF : Fit N l) (hN : N = (n : Int)) (hv : v < n) : 0 ≤ pb l (farD l n v) v ↔ OnCyc l v := by
  have hd := farD_is l N n v hF hN hv
  have hp := pb_spec hF (farD l n v) (v : Int)
  constructor
  · intro h0
    rcases hp with ⟨hc, _⟩ | ⟨⟨y, hy, hy0, hy1⟩, h2, h3, _⟩
    · omega
    · have hyr := hF.2.2.2 y hy
      refine ⟨(pb l (farD l n v) v).toNat, ⟨y, hy, by omega, by rw [hy1]⟩, ?_⟩
      exact (hd.path hF hN (by omega)).1 h3
  · rintro ⟨u, ha, hpu⟩
    have hu := (arc_lt hF hN ha).2
    have h0 := (hd.path hF hN hu).2 hpu
    obtain ⟨y, hy, hy0, hy1⟩ := ha
    have hyr := hF.2.2.2 y hy
    rcases hp with ⟨_, h2⟩ | ⟨_, h2, _⟩
    · have := h2 y hy (by omega)
      rw [hy1] at this
      omega
    · exact h2
theorem pb_rng {l : List S42} {N : Int} {n v : Nat} (hF : Fit N l) (hN : N = (n : Int)) (hv : v < n) (h0 : 0 ≤ pb l (farD l n v) v) : pb l (farD l n v) v < n ∧ 0 ≤ lv (farD l n v) (pb l (farD l n v) v).toNat ∧ lv (farD l n v) (pb l (farD l n v) v).toNat < n ∧ Arc l v (pb l (farD l n v) v).toNat := by
  have hd := farD_is l N n v hF hN hv
  rcases pb_spec hF (farD l n v) (v : Int) with ⟨hc, _⟩ | ⟨⟨y, hy, hy0, hy1⟩, h2, h3, _⟩
  · omega
  · have hyr := hF.2.2.2 y hy
    exact ⟨by omega, h3, (hd.rng _ (by omega)).2, y, hy, by omega, by rw [hy1]⟩
end Go.Proofs.Ytaldnhlojllanaa.Pl
