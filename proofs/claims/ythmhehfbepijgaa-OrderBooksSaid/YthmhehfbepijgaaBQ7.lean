import Derived.Test.YthmhehfbepijgaaBQ0
import Derived.Test.YthmhehfbepijgaaBQ2
import Derived.Test.YthmhehfbepijgaaBR12
import Derived.Test.YthmhehfbepijgaaBQ5
import Derived.Test.YthmhehfbepijgaaBQ6
namespace Go.Proofs.Ythmhehfbepijgaa.Q
open Go.RowKit Go.Proofs.YthmhehfbepijgaaW.PrintWords Go.Proofs.YthmhehfbepijgaaW.PrintLast Go.Proofs.YthmhehfbepijgaaW.PrintMore
attribute [local go_sem] max2_int min2_int max_two min_two max_three min_three max_four min_four
set_option linter.unusedVariables false
set_option linter.unusedSimpArgs false
structure EntOk (T : Nat) (f : Int → Option (Int × Bool)) (i : Nat) (x : S68) : Prop where
  chk : chkO x.f0 = 0
  len : x.f1.length ≤ T
  lim : (x.f1.length : Int) ≤ x.f0.f6 + x.f0.f7
  nodup : x.f1.Nodup
  rng : ∀ n ∈ x.f1, 1 ≤ n ∧ n ≤ 1000000
  fwd : ∀ n ∈ x.f1, ∃ s, f n = some ((i : Int), s)
  shut : x.f2 = true → (∀ n ∈ x.f1, f n = some ((i : Int), true)) ∧ x.f0.f6 - x.f0.f8 ≤ (x.f1.length : Int)
structure Bk.Inv (B : Bk) (T : Nat) : Prop where
  es : B.es.length ≤ 64
  n : B.n ≤ 100 * T
  ent : ∀ i x, B.es[i]? = some x → EntOk T B.asg i x
  ids : ∀ (i j : Nat) x y, B.es[i]? = some x → B.es[j]? = some y → x.f0.f0 = y.f0.f0 → i = j
  bwd : ∀ n k s, B.asg n = some (k, s) → ∃ i x, k = ((i : Nat) : Int) ∧ B.es[i]? = some x ∧ n ∈ x.f1
theorem ite0 {p : Prop} [Decidable p] {a b : Int} (ha : a ≠ 0) (h : (if p then a else b) = 0) : ¬ p ∧ b = 0 := by
  by_cases hp : p
  · rw [if_pos hp] at h; exact absurd h ha
  · rw [if_neg hp] at h; exact ⟨hp, h⟩
theorem chkO_rng {o : S23} (h : chkO o = 0) : 1 ≤ o.f0 ∧ o.f0 ≤ 1000000 ∧ 1 ≤ o.f6 ∧ o.f6 ≤ 1000 ∧ 0 ≤ o.f7 ∧ o.f7 ≤ 1000 ∧ 0 ≤ o.f8 ∧ o.f8 ≤ 1000 := by
  unfold chkO at h
  obtain ⟨h1, h⟩ := ite0 (by decide) h
  obtain ⟨h2, h⟩ := ite0 (by decide) h
  obtain ⟨h3, h⟩ := ite0 (by decide) h
  obtain ⟨h4, h⟩ := ite0 (by decide) h
  obtain ⟨h5, h⟩ := ite0 (by decide) h
  obtain ⟨h6, h⟩ := ite0 (by decide) h
  obtain ⟨h7, h⟩ := ite0 (by decide) h
  obtain ⟨h8, h⟩ := ite0 (by decide) h
  obtain ⟨h9, h⟩ := ite0 (by decide) h
  obtain ⟨h10, h⟩ := ite0 (by decide) h
  obtain ⟨h11, h⟩ := ite0 (by decide) h
  obtain ⟨h12, h⟩ := ite0 (by decide) h
  obtain ⟨h13, h⟩ := ite0 (by decide) h
  obtain ⟨h14, h⟩ := ite0 (by decide) h
  obtain ⟨h15, h⟩ := ite0 (by decide) h
  obtain ⟨h16, h⟩ := ite0 (by decide) h
  obtain ⟨h17, h⟩ := ite0 (by decide) h
  obtain ⟨h18, h⟩ := ite0 (by decide) h
  obtain ⟨h19, h⟩ := ite0 (by decide) h
  obtain ⟨h20, h⟩ := ite0 (by decide) h
  obtain ⟨h21, h⟩ := ite0 (by decide) h
  obtain ⟨h22, h⟩ := ite0 (by decide) h
  obtain ⟨h23, h⟩ := ite0 (by decide) h
  obtain ⟨h24, h⟩ := ite0 (by decide) h
  omega
set_option maxHeartbeats 4000000 in
theorem chkO_count {o : S23} {c : Int} (h : chkO o = 0) (g1 : ¬ c < 1) (g2 : ¬ c > 1000) : chkO { o with f6 := c } = 0 := by
  obtain ⟨a0, a1, a2, a3, a4, a5, a6, a7, a8, a9, a10, a11⟩ := o
  unfold chkO at h ⊢
  dsimp only at h ⊢
  obtain ⟨h1, h⟩ := ite0 (by decide) h
  obtain ⟨h2, h⟩ := ite0 (by decide) h
  obtain ⟨h3, h⟩ := ite0 (by decide) h
  obtain ⟨h4, h⟩ := ite0 (by decide) h
  obtain ⟨h5, h⟩ := ite0 (by decide) h
  obtain ⟨h6, h⟩ := ite0 (by decide) h
  obtain ⟨h7, h⟩ := ite0 (by decide) h
  obtain ⟨h8, h⟩ := ite0 (by decide) h
  obtain ⟨h9, h⟩ := ite0 (by decide) h
  obtain ⟨h10, h⟩ := ite0 (by decide) h
  obtain ⟨h11, h⟩ := ite0 (by decide) h
  obtain ⟨h12, h⟩ := ite0 (by decide) h
  obtain ⟨h13, h⟩ := ite0 (by decide) h
  obtain ⟨h14, h⟩ := ite0 (by decide) h
  obtain ⟨h15, h⟩ := ite0 (by decide) h
  obtain ⟨h16, h⟩ := ite0 (by decide) h
  obtain ⟨h17, h⟩ := ite0 (by decide) h
  obtain ⟨h18, h⟩ := ite0 (by decide) h
  obtain ⟨h19, h⟩ := ite0 (by decide) h
  obtain ⟨h20, h⟩ := ite0 (by decide) h
  obtain ⟨h21, h⟩ := ite0 (by decide) h
  obtain ⟨h22, h⟩ := ite0 (by decide) h
  obtain ⟨h23, h⟩ := ite0 (by decide) h
  obtain ⟨h24, h⟩ := ite0 (by decide) h
  rw [if_neg h1, if_neg h2, if_neg h3, if_neg h4, if_neg h5, if_neg h6, if_neg h7, if_neg h8, if_neg h9, if_neg h10, if_neg h11, if_neg h12, if_neg g1, if_neg g2, if_neg h15, if_neg h16, if_neg h17, if_neg h18, if_neg h19, if_neg h20, if_neg h21, if_neg h22, if_neg h23, if_neg h24]
theorem rd68_of {l : List S68} {i : Nat} {x : S68} (h : l[i]? = some x) : rd_T68 l (i : Int) = x := by
  unfold rd_T68
  rw [Int.toNat_natCast, List.getD_eq_getElem?_getD, h]
  rfl
theorem findIdx_is {α : Type} (p : α → Bool) : ∀ (l : List α) (k : Nat), l.findIdx? p = some k → ∃ x, l[k]? = some x ∧ p x = true
  | [], k, h => by simp at h
  | x :: t, k, h => by
    rw [List.findIdx?_cons] at h
    cases hp : p x with
    | true =>
      rw [hp] at h
      obtain rfl := Option.some.inj (show some 0 = some k from h)
      exact ⟨x, rfl, hp⟩
    | false =>
      rw [hp] at h
      cases hq : t.findIdx? p with
      | none => rw [hq] at h; simp at h
      | some j =>
        rw [hq] at h
        obtain rfl : j + 1 = k := by simpa using h
        exact findIdx_is p t j hq
theorem find_is {B : Bk} {id : Int} (h : ¬ B.find id < 0) : ∃ (i : Nat) (x : S68), B.find id = (i : Int) ∧ B.es[i]? = some x ∧ x.f0.f0 = id := by
  unfold Bk.find idxI at h ⊢
  cases hf : B.es.findIdx? (isId id) with
  | none => rw [hf] at h; exact absurd (by decide) h
  | some k =>
    obtain ⟨x, h1, h2⟩ := findIdx_is _ _ _ hf
    exact ⟨k, x, rfl, h1, by unfold isId at h2; exact eq_of_beq h2⟩
theorem find_none {B : Bk} {id : Int} (h : B.find id < 0) (i : Nat) (x : S68) (hx : B.es[i]? = some x) : x.f0.f0 ≠ id := by
  unfold Bk.find idxI at h
  cases hf : B.es.findIdx? (isId id) with
  | some k => rw [hf] at h; exact absurd h (by simp only; omega)
  | none =>
    have := List.findIdx?_eq_none_iff.1 hf x (List.mem_of_getElem? hx)
    unfold isId at this
    intro e
    rw [e] at this
    simp at this
theorem open_is {B : Bk} {id : Int} (h : (B.open_ id).2 = 0) : ∃ (i : Nat) (x : S68), (B.open_ id).1 = (i : Int) ∧ B.es[i]? = some x ∧ x.f0.f0 = id ∧ x.f2 = false ∧ rd_T68 B.es (B.open_ id).1 = x := by
  unfold Bk.open_ at h ⊢
  split
  · rename_i hc
    rw [if_pos hc] at h
    exact absurd h (by decide)
  · rename_i hc
    rw [if_neg hc] at h
    obtain ⟨i, x, h1, h2, h3⟩ := find_is hc
    have h4 : rd_T68 B.es (B.find id) = x := by rw [h1, rd68_of h2]
    rw [h4] at h ⊢
    split
    · rename_i hq
      rw [if_pos hq] at h
      exact absurd h (by decide)
    · rename_i hq
      exact ⟨i, x, h1, h2, h3, by simpa using hq, h4⟩
theorem held_is {B : Bk} {roll : Int} (h : (B.held roll).2 = 0) : ∃ k, B.asg roll = some (k, false) ∧ (B.held roll).1 = k := by
  unfold Bk.held at h ⊢
  cases hf : B.asg roll with
  | none => rw [hf] at h; exact absurd h (by decide)
  | some p =>
    obtain ⟨k, s⟩ := p
    rw [hf] at h
    cases s with
    | true => exact absurd h (by simp)
    | false => exact ⟨k, rfl, by simp⟩
theorem held_in {B : Bk} {T : Nat} (hi : B.Inv T) {roll : Int} (h : (B.held roll).2 = 0) : ∃ (i : Nat) (x : S68), (B.held roll).1 = (i : Int) ∧ B.asg roll = some ((i : Int), false) ∧ B.es[i]? = some x ∧ roll ∈ x.f1 ∧ rd_T68 B.es (B.held roll).1 = x := by
  obtain ⟨k, h1, h2⟩ := held_is h
  obtain ⟨i, x, rfl, h3, h4⟩ := hi.bwd _ _ _ h1
  exact ⟨i, x, h2, h1, h3, h4, by rw [h2, rd68_of h3]⟩
theorem Bk.Inv.hin {B : Bk} {T : Nat} (hi : B.Inv T) (roll : Int) : (B.held roll).2 = 0 → 0 ≤ (B.held roll).1 ∧ (B.held roll).1 < (B.es.length : Int) ∧ (rd_T68 B.es (B.held roll).1).f1 ≠ [] := by
  intro h
  obtain ⟨i, x, h1, _, h3, h4, h5⟩ := held_in hi h
  have := (List.getElem?_eq_some_iff.1 h3).1
  rw [h5, h1]
  exact ⟨by omega, by omega, List.ne_nil_of_mem h4⟩
theorem wfR {n : Int} (h : 1 ≤ n ∧ n ≤ 1000000) : (Lit.int .i64 n).wf = true := Plm.wf_of (by omega) (by omega)
theorem Bk.Inv.ok {B : Bk} {T : Nat} (hi : B.Inv T) (hT : T ≤ 900) : B.Ok := by
  refine ⟨by have := hi.es; omega, by have := hi.n; omega, fun x hx => ?_⟩
  obtain ⟨i, h⟩ := List.getElem?_of_mem hx
  have q := hi.ent i x h
  exact ⟨by have := q.len; omega, fun n hn => wfR (q.rng n hn)⟩
theorem EntOk.mono {T T' : Nat} {f : Int → Option (Int × Bool)} {i : Nat} {x : S68} (h : EntOk T f i x) (ht : T ≤ T') : EntOk T' f i x := ⟨h.chk, Nat.le_trans h.len ht, h.lim, h.nodup, h.rng, h.fwd, h.shut⟩
theorem Bk.Inv.mono {B : Bk} {T T' : Nat} (h : B.Inv T) (ht : T ≤ T') : B.Inv T' := ⟨h.es, by have := h.n; omega, fun i x hx => (h.ent i x hx).mono ht, h.ids, h.bwd⟩
theorem Bk.Inv.new : Bk.new.Inv 0 := ⟨by decide, Nat.le_refl _, fun i x h => by simp [Bk.new] at h, fun i j x y h => by simp [Bk.new] at h, fun n k s h => by simp [Bk.new] at h⟩
theorem set_is {l : List S68} {i j : Nat} {x y : S68} (h : (l.set i x)[j]? = some y) : (i = j ∧ y = x) ∨ (i ≠ j ∧ l[j]? = some y) := by
  rw [List.getElem?_set] at h
  split at h
  · rename_i e
    split at h
    · exact .inl ⟨e, (Option.some.inj h).symm⟩
    · cases h
  · rename_i e
    exact .inr ⟨e, h⟩
theorem set_self {l : List S68} {i : Nat} {x y : S68} (h : l[i]? = some y) : (l.set i x)[i]? = some x := by
  rw [List.getElem?_set_self (List.getElem?_eq_some_iff.1 h).1]
theorem set_other {l : List S68} {i j : Nat} {x : S68} (h : i ≠ j) : (l.set i x)[j]? = l[j]? := List.getElem?_set_ne h
theorem Bk.Inv.put {B : Bk} {T T' n' : Nat} {f' : Int → Option (Int × Bool)} (h : B.Inv T) (ht : T ≤ T') (hn : n' ≤ 100 * T') {i : Nat} {x x' : S68} (hx : B.es[i]? = some x) (hid : x'.f0.f0 = x.f0.f0)
    (h1 : EntOk T' f' i x') (h2 : ∀ j y, j ≠ i → B.es[j]? = some y → EntOk T' f' j y)
    (h3 : ∀ n k s, f' n = some (k, s) → (k = (i : Int) ∧ n ∈ x'.f1) ∨ ∃ j y, k = ((j : Nat) : Int) ∧ j ≠ i ∧ B.es[j]? = some y ∧ n ∈ y.f1) : Bk.Inv ⟨B.es.set i x', n', f'⟩ T' := by
  refine ⟨by simpa using h.es, hn, fun j y hy => ?_, fun j k y z hy hz he => ?_, fun n k s hk => ?_⟩
  · rcases set_is hy with ⟨rfl, rfl⟩ | ⟨hne, hy⟩
    · exact h1
    · exact h2 j y (Ne.symm hne) hy
  · rcases set_is hy with ⟨e1, e2⟩ | ⟨hne, hy'⟩ <;> rcases set_is hz with ⟨e3, e4⟩ | ⟨hne', hz'⟩
    · exact e1.symm.trans e3
    · exact e1 ▸ h.ids i k x z hx hz' (by rw [← hid, ← he, e2])
    · exact e3 ▸ h.ids j i y x hy' hx (by rw [he, e4, hid])
    · exact h.ids _ _ _ _ hy' hz' he
  · rcases h3 n k s hk with ⟨rfl, hm⟩ | ⟨j, y, rfl, hne, hy, hm⟩
    · exact ⟨i, x', rfl, set_self hx, hm⟩
    · exact ⟨j, y, rfl, (set_other (Ne.symm hne)).trans hy, hm⟩
theorem Bk.Inv.Add {B : Bk} {T : Nat} (h : B.Inv T) (o : S23) : (B.Add o).1.Inv (T + 1) := by
  have h0 := h.mono (Nat.le_succ T)
  unfold Bk.Add
  split
  · rename_i hc
    split
    · exact h0
    rename_i hf
    split
    · exact h0
    rename_i hl
    have hlast : ∀ (j : Nat) (y : S68), (B.es ++ [⟨o, [], false⟩])[j]? = some y → B.es[j]? = some y ∨ (j = B.es.length ∧ y = ⟨o, [], false⟩) := by
      intro j y hy
      rcases Nat.lt_or_ge j B.es.length with hj | hj
      · rw [List.getElem?_append_left hj] at hy; exact .inl hy
      · rw [List.getElem?_append_right hj] at hy
        have : j - B.es.length < [(⟨o, [], false⟩ : S68)].length := (List.getElem?_eq_some_iff.1 hy).1
        have hj0 : j - B.es.length = 0 := by simpa using this
        rw [hj0] at hy
        exact .inr ⟨by omega, (Option.some.inj hy).symm⟩
    have hleft : ∀ {j : Nat} {y : S68}, B.es[j]? = some y → (B.es ++ [⟨o, [], false⟩])[j]? = some y := fun {j y} hy => by
      rw [List.getElem?_append_left (List.getElem?_eq_some_iff.1 hy).1]; exact hy
    have hf' : B.find o.f0 < 0 := by omega
    refine ⟨by simp; omega, h0.n, fun j y hy => ?_, fun j k y z hy hz he => ?_, fun n k s hk => ?_⟩
    · rcases hlast j y hy with hy | ⟨rfl, rfl⟩
      · exact h0.ent j y hy
      · have := chkO_rng hc
        exact ⟨hc, Nat.zero_le _, by simp; omega, List.nodup_nil, fun n hn => by simp at hn, fun n hn => by simp at hn, fun hq => by simp at hq⟩
    · rcases hlast j y hy with hy | ⟨rfl, rfl⟩ <;> rcases hlast k z hz with hz | ⟨rfl, rfl⟩
      · exact h.ids _ _ _ _ hy hz he
      · exact absurd he (find_none hf' _ _ hy)
      · exact absurd he.symm (find_none hf' _ _ hz)
      · rfl
    · obtain ⟨i, x, e, hx, hm⟩ := h.bwd n k s hk
      exact ⟨i, x, e, hleft hx, hm⟩
  · exact h0
theorem wrapS {a : Int} (h : -9223372036854775808 ≤ a) (h1 : a ≤ 9223372036854775807) : wrap64 a = a := by
  unfold wrap64
  omega
theorem Bk.Inv.Amend {B : Bk} {T : Nat} (h : B.Inv T) (id c : Int) : (B.Amend id c).1.Inv (T + 1) := by
  have h0 := h.mono (Nat.le_succ T)
  unfold Bk.Amend
  split
  · rename_i ho
    obtain ⟨i, x, e1, hx, hid, hcl, e2⟩ := open_is ho
    rw [e2, e1]
    have q := h0.ent i x hx
    have hr := chkO_rng q.chk
    split
    · exact h0
    split
    · exact h0
    split
    · exact h0
    rename_i hc1 hc2 hl
    rw [wrapS (by omega) (by omega)] at hl
    refine h0.put (Nat.le_refl _) h0.n hx rfl ⟨?_, q.len, by simp only; omega, q.nodup, q.rng, q.fwd, fun hq => by rw [hcl] at hq; cases hq⟩ (fun j y _ hy => h0.ent j y hy) (fun n k s hk => ?_)
    · exact chkO_count q.chk hc1 hc2
    · obtain ⟨j, y, e, hy, hm⟩ := h.bwd n k s hk
      by_cases hj : j = i
      · subst hj
        rw [hx] at hy
        obtain rfl := Option.some.inj hy
        exact .inl ⟨e, hm⟩
      · exact .inr ⟨j, y, e, hj, hy, hm⟩
  · exact h0
theorem Bk.Inv.Assign {B : Bk} {T : Nat} (h : B.Inv T) (id roll : Int) : (B.Assign id roll).1.Inv (T + 1) := by
  have h0 := h.mono (Nat.le_succ T)
  unfold Bk.Assign
  split
  · rename_i ho
    obtain ⟨i, x, e1, hx, hid, hcl, e2⟩ := open_is ho
    rw [e2, e1]
    have q := h.ent i x hx
    have hr := chkO_rng q.chk
    split
    · exact h0
    split
    · exact h0
    split
    · exact h0
    split
    · exact h0
    rename_i hc1 hc2 hs hl
    rw [wrapS (by omega) (by omega)] at hl
    have hno : B.asg roll = none := by simpa using hs
    have hnot : ∀ (j : Nat) (y : S68), B.es[j]? = some y → roll ∉ y.f1 := fun j y hy hm => by
      obtain ⟨s, hs⟩ := (h.ent j y hy).fwd roll hm
      rw [hno] at hs
      cases hs
    have hupd : ∀ (j : Nat) (y : S68), B.es[j]? = some y → ∀ n ∈ y.f1, Plm.plUpd B.asg roll (some ((i : Int), false)) n = B.asg n := fun j y hy n hn => by
      unfold Plm.plUpd
      rw [if_neg (fun e : n = roll => hnot j y hy (e ▸ hn))]
    refine h.put (Nat.le_succ _) (by have := h.n; omega) hx rfl ⟨q.chk, by simp; have := q.len; omega, by simp; omega, ?_, ?_, ?_, fun hq => by rw [hcl] at hq; cases hq⟩ (fun j y _ hy => ?_) (fun n k s hk => ?_)
    · rw [List.nodup_append]
      exact ⟨q.nodup, by simp, fun a ha b hb e => by
        have hb' : b = roll := by simpa using hb
        exact hnot i x hx (by rw [← hb', ← e]; exact ha)⟩
    · intro n hn
      rcases List.mem_append.1 hn with hn | hn
      · exact q.rng n hn
      · have : n = roll := by simpa using hn
        omega
    · intro n hn
      rcases List.mem_append.1 hn with hn | hn
      · rw [hupd i x hx n hn]; exact q.fwd n hn
      · have : n = roll := by simpa using hn
        exact ⟨false, by unfold Plm.plUpd; rw [if_pos this]; rfl⟩
    · have qy := h0.ent j y hy
      exact ⟨qy.chk, qy.len, qy.lim, qy.nodup, qy.rng, fun n hn => by rw [hupd j y hy n hn]; exact qy.fwd n hn, fun hq => ⟨fun n hn => by rw [hupd j y hy n hn]; exact (qy.shut hq).1 n hn, (qy.shut hq).2⟩⟩
    · unfold Plm.plUpd at hk
      split at hk
      · rename_i e
        injection hk with hk
        injection hk with hk _
        exact .inl ⟨hk.symm, by simp [e]⟩
      · obtain ⟨j, y, e, hy, hm⟩ := h.bwd n k s hk
        by_cases hj : j = i
        · subst hj
          rw [hx] at hy
          obtain rfl := Option.some.inj hy
          exact .inl ⟨e, List.mem_append_left _ hm⟩
        · exact .inr ⟨j, y, e, hj, hy, hm⟩
  · exact h0
theorem mem_delR {roll n : Int} {l : List Int} : n ∈ delR roll l ↔ n ∈ l ∧ n ≠ roll := by
  unfold delR isR
  rw [List.mem_filter]
  simp
theorem Bk.Inv.Release {B : Bk} {T : Nat} (h : B.Inv T) (roll : Int) : (B.Release roll).1.Inv (T + 1) := by
  have h0 := h.mono (Nat.le_succ T)
  unfold Bk.Release
  split
  · rename_i ho
    obtain ⟨i, x, e1, ha, hx, hm, e2⟩ := held_in h ho
    rw [e2, e1]
    have q := h.ent i x hx
    have hle : (delR roll x.f1).length ≤ x.f1.length := List.length_filter_le _ _
    have hu : ∀ n, n ≠ roll → Plm.plUpd B.asg roll none n = B.asg n := fun n hn => by unfold Plm.plUpd; rw [if_neg hn]
    refine h.put (Nat.le_succ _) (by have := h.n; omega) hx rfl ⟨q.chk, by have := q.len; simp only; omega, by have := q.lim; simp only; omega, q.nodup.sublist List.filter_sublist, fun n hn => q.rng n (mem_delR.1 hn).1, fun n hn => ?_, fun hq => ?_⟩ (fun j y hne hy => ?_) (fun n k s hk => ?_)
    · rw [hu n (mem_delR.1 hn).2]
      exact q.fwd n (mem_delR.1 hn).1
    · have := (q.shut hq).1 roll hm
      rw [ha] at this
      simp at this
    · have qy := h0.ent j y hy
      have hny : roll ∉ y.f1 := fun hm' => by
        obtain ⟨s, hs⟩ := qy.fwd roll hm'
        rw [ha] at hs
        injection hs with hs
        injection hs with hs _
        exact hne (by omega)
      exact ⟨qy.chk, qy.len, qy.lim, qy.nodup, qy.rng, fun n hn => by rw [hu n (fun e => hny (e ▸ hn))]; exact qy.fwd n hn, fun hq => ⟨fun n hn => by rw [hu n (fun e => hny (e ▸ hn))]; exact (qy.shut hq).1 n hn, (qy.shut hq).2⟩⟩
    · unfold Plm.plUpd at hk
      split at hk
      · cases hk
      · rename_i hne
        obtain ⟨j, y, e, hy, hmn⟩ := h.bwd n k s hk
        by_cases hj : j = i
        · subst hj
          rw [hx] at hy
          obtain rfl := Option.some.inj hy
          exact .inl ⟨e, mem_delR.2 ⟨hmn, hne⟩⟩
        · exact .inr ⟨j, y, e, hj, hy, hmn⟩
  · exact h0
theorem Bk.Inv.Ship {B : Bk} {T : Nat} (h : B.Inv T) (roll : Int) : (B.Ship roll).1.Inv (T + 1) := by
  have h0 := h.mono (Nat.le_succ T)
  unfold Bk.Ship
  split
  · rename_i ho
    obtain ⟨i, x, e1, ha, hx, hm, e2⟩ := held_in h ho
    rw [e1]
    refine ⟨h0.es, by have := h.n; simp only; omega, fun j y hy => ?_, h0.ids, fun n k s hk => ?_⟩
    · have qy := h0.ent j y hy
      refine ⟨qy.chk, qy.len, qy.lim, qy.nodup, qy.rng, fun n hn => ?_, fun hq => ⟨fun n hn => ?_, (qy.shut hq).2⟩⟩
      · simp only [Plm.plUpd]
        split
        · rename_i e
          subst e
          obtain ⟨s, hs⟩ := qy.fwd n hn
          rw [ha] at hs
          injection hs with hs
          injection hs with hs _
          exact ⟨true, by rw [hs]⟩
        · exact qy.fwd n hn
      · simp only [Plm.plUpd]
        split
        · rename_i e
          subst e
          have := (qy.shut hq).1 n hn
          rw [ha] at this
          simp at this
        · exact (qy.shut hq).1 n hn
    · simp only [Plm.plUpd] at hk
      split at hk
      · rename_i e
        injection hk with hk
        injection hk with hk _
        exact ⟨i, x, hk.symm, hx, e ▸ hm⟩
      · exact h.bwd n k s hk
  · exact h0
theorem Bk.Inv.Close {B : Bk} {T : Nat} (h : B.Inv T) (id : Int) : (B.Close id).1.Inv (T + 1) := by
  have h0 := h.mono (Nat.le_succ T)
  unfold Bk.Close
  split
  · rename_i ho
    obtain ⟨i, x, e1, hx, hid, hcl, e2⟩ := open_is ho
    rw [e2, e1]
    have q := h0.ent i x hx
    have hr := chkO_rng q.chk
    split
    · exact h0
    split
    · exact h0
    rename_i hc1 hc2
    rw [wrapS (by omega) (by omega)] at hc2
    have hle : (shipL B.asg x.f1).length ≤ x.f1.length := List.length_filter_le _ _
    refine h0.put (Nat.le_refl _) h0.n hx rfl ⟨q.chk, q.len, q.lim, q.nodup, q.rng, q.fwd, fun _ => ⟨fun n hn => ?_, by simp only; omega⟩⟩ (fun j y _ hy => h0.ent j y hy) (fun n k s hk => ?_)
    · have hall : shipL B.asg x.f1 = x.f1 := List.filter_sublist.eq_of_length (by unfold shipL at hle hc1; omega)
      rw [← hall] at hn
      have hn' := List.mem_filter.1 hn
      obtain ⟨s, hs⟩ := q.fwd n hn'.1
      have h2 := hn'.2
      rw [hs] at h2 ⊢
      have : s = true := by simpa using h2
      subst this
      rfl
    · obtain ⟨j, y, e, hy, hm⟩ := h.bwd n k s hk
      by_cases hj : j = i
      · subst hj
        rw [hx] at hy
        obtain rfl := Option.some.inj hy
        exact .inl ⟨e, hm⟩
      · exact .inr ⟨j, y, e, hj, hy, hm⟩
  · exact h0
def Bk.do_ (B : Bk) (x : S35) : Bk × Int := if x.f0 = 0 then B.Add x.f1 else if x.f0 = 1 then B.Amend x.f2 x.f3 else if x.f0 = 2 then B.Assign x.f2 x.f3 else if x.f0 = 3 then B.Release x.f3 else if x.f0 = 4 then B.Ship x.f3 else B.Close x.f2
theorem Bk.Inv.do_ {B : Bk} {T : Nat} (h : B.Inv T) (x : S35) : (B.do_ x).1.Inv (T + 1) := by
  unfold Bk.do_
  split
  · exact h.Add _
  split
  · exact h.Amend _ _
  split
  · exact h.Assign _ _
  split
  · exact h.Release _
  split
  · exact h.Ship _
  · exact h.Close _
def Bk.run (B : Bk) (l : List S35) : Bk := l.foldl (fun B x => (B.do_ x).1) B
theorem Bk.run_snoc (B : Bk) (l : List S35) (x : S35) : B.run (l ++ [x]) = ((B.run l).do_ x).1 := by simp [Bk.run]
theorem Bk.Inv.run {B : Bk} {T : Nat} (h : B.Inv T) (l : List S35) : (B.run l).Inv (T + l.length) := by
  induction l generalizing B T with
  | nil => exact h
  | cons x t ih =>
    have := ih (h.do_ x)
    rw [show T + (x :: t).length = T + 1 + t.length by simp; omega]
    exact this
theorem LP.step {W0 w w1 : World} {P : Nat → Prop} {pb pm : Nat} {B : Bk} {r : Int} {e : Ending} {w' : World} (hb : Below w.heap.size w w1) (h : LP W0 P pb pm w1 B r e w') : LP W0 P pb pm w B r e w' := by
  obtain ⟨he, P', h1, h2, h3⟩ := h
  exact ⟨he, P', h1, (KeptB.of_below hb P).then_ h2 (fun k hk => .inl hk), fun k hk => (h3 k hk).imp_right (fun q => Nat.le_trans (below_size hb) q)⟩
set_option maxHeartbeats 4000000 in
theorem LB.do_ {W0 w : World} {P : Nat → Prop} {pb pm : Nat} {B : Bk} {T : Nat} (h : LB W0 P pb pm w B) (hi : B.Inv T) (hT : T ≤ 900) (x : S35) (hw : (Lit.int .i64 x.f3).wf = true) :
    Calls Try.prog 16 #[.pointer (some ⟨pb, 0, none⟩), .agg #[.int .i64 x.f0, .int .i64 x.f1.f0, .int .i64 x.f1.f1, .int .i64 x.f1.f2, .int .i64 x.f1.f3, .int .i64 x.f1.f4, .int .i64 x.f1.f5, .int .i64 x.f1.f6, .int .i64 x.f1.f7, .int .i64 x.f1.f8, .int .i64 x.f1.f9, .int .i64 x.f1.f10, .int .i64 x.f1.f11, .int .i64 x.f2, .int .i64 x.f3]] w (LP W0 P pb pm w (B.do_ x).1 (B.do_ x).2) := by
  have hu35 := Try.underlying35
  have hu23 := Try.underlying23
  have HB := Aside0.mk (h.below (below_alloc (Below.refl w.heap.size w) (.cells #[.int .i64 x.f0, .int .i64 x.f1.f0, .int .i64 x.f1.f1, .int .i64 x.f1.f2, .int .i64 x.f1.f3, .int .i64 x.f1.f4, .int .i64 x.f1.f5, .int .i64 x.f1.f6, .int .i64 x.f1.f7, .int .i64 x.f1.f8, .int .i64 x.f1.f9, .int .i64 x.f1.f10, .int .i64 x.f1.f11, .int .i64 x.f2, .int .i64 x.f3] 35)))
  have HI := Aside0.mk (hi.ok hT)
  have HN := Aside0.mk (hi.hin x.f3)
  have HW := Aside0.mk hw
  clear h hi hT hw
  unfold Bk.do_
  by_cases c0 : x.f0 = 0
  · rw [if_pos c0]
    have k0 : (x.f0 == 0) = true := by rw [c0]; rfl
    clear c0
    go_enter Try.func16, Try.ntmps16
    go_wp2_with fail
    refine (LB.Add HB.out HI.out x.f1).mono ?_
    rintro e w' hp
    have he := hp.1
    subst he
    go_wp2
    go_ret
    exact LP.step (below_alloc (Below.refl _ _) _) hp
  rw [if_neg c0]
  have k0 : (x.f0 == 0) = false := by simpa using c0
  clear c0
  by_cases c1 : x.f0 = 1
  · rw [if_pos c1]
    have k1 : (x.f0 == 1) = true := by rw [c1]; rfl
    clear c1
    go_enter Try.func16, Try.ntmps16
    go_wp2_with fail
    refine (LB.Amend HB.out x.f2 x.f3).mono ?_
    rintro e w' hp
    have he := hp.1
    subst he
    go_wp2
    go_ret
    exact LP.step (below_alloc (Below.refl _ _) _) hp
  rw [if_neg c1]
  have k1 : (x.f0 == 1) = false := by simpa using c1
  clear c1
  by_cases c2 : x.f0 = 2
  · rw [if_pos c2]
    have k2 : (x.f0 == 2) = true := by rw [c2]; rfl
    clear c2
    go_enter Try.func16, Try.ntmps16
    go_wp2_with fail
    refine (LB.Assign HB.out HI.out x.f2 x.f3).mono ?_
    rintro e w' hp
    have he := hp.1
    subst he
    go_wp2
    go_ret
    exact LP.step (below_alloc (Below.refl _ _) _) hp
  rw [if_neg c2]
  have k2 : (x.f0 == 2) = false := by simpa using c2
  clear c2
  by_cases c3 : x.f0 = 3
  · rw [if_pos c3]
    have k3 : (x.f0 == 3) = true := by rw [c3]; rfl
    clear c3
    go_enter Try.func16, Try.ntmps16
    go_wp2_with fail
    refine (LB.Release HB.out HI.out x.f3 HW.out HN.out).mono ?_
    rintro e w' hp
    have he := hp.1
    subst he
    go_wp2
    go_ret
    exact LP.step (below_alloc (Below.refl _ _) _) hp
  rw [if_neg c3]
  have k3 : (x.f0 == 3) = false := by simpa using c3
  clear c3
  by_cases c4 : x.f0 = 4
  · rw [if_pos c4]
    have k4 : (x.f0 == 4) = true := by rw [c4]; rfl
    clear c4
    go_enter Try.func16, Try.ntmps16
    go_wp2_with fail
    refine (LB.Ship HB.out HI.out x.f3 HW.out).mono ?_
    rintro e w' hp
    have he := hp.1
    subst he
    go_wp2
    go_ret
    exact LP.step (below_alloc (Below.refl _ _) _) hp
  rw [if_neg c4]
  have k4 : (x.f0 == 4) = false := by simpa using c4
  clear c4
  go_enter Try.func16, Try.ntmps16
  go_wp2_with fail
  refine (LB.Close HB.out HI.out x.f2).mono ?_
  rintro e w' hp
  have he := hp.1
  subst he
  go_wp2
  go_ret
  exact LP.step (below_alloc (Below.refl _ _) _) hp
theorem rd35_is {l : List S35} {k : Nat} (h : k < l.length) : rd_T35 l (k : Int) = l[k] := by
  unfold rd_T35
  rw [Int.toNat_natCast, List.getD_eq_getElem?_getD, List.getElem?_eq_getElem h]
  rfl
theorem run_take (l : List S35) {k : Nat} (h : k < l.length) : Bk.new.run (l.take (k + 1)) = ((Bk.new.run (l.take k)).do_ (rd_T35 l (k : Int))).1 := by
  rw [rd35_is h, List.take_succ_eq_append_getElem h, Bk.run_snoc]
theorem Bk.Inv.taken (l : List S35) (k : Nat) {T : Nat} (h : l.length ≤ T) : (Bk.new.run (l.take k)).Inv T :=
  (Bk.Inv.new.run (l.take k)).mono (by have : (l.take k).length ≤ l.length := by rw [List.length_take]; omega
                                       omega)
def wfs (l : List S35) : Bool := l.all fun x => (Lit.int .i64 x.f3).wf
theorem wfs_at {l : List S35} (h : wfs l = true) {k : Nat} (hk : k < l.length) : (Lit.int .i64 (rd_T35 l (k : Int)).f3).wf = true := by
  rw [rd35_is hk]
  exact List.all_eq_true.1 h _ (List.getElem_mem hk)
theorem held_of {B : Bk} {roll k : Int} {s : Bool} (h : B.asg roll = some (k, s)) : B.held roll = if s = true then (0, 34) else (k, 0) := by
  unfold Bk.held
  rw [h]
  rfl
theorem ship_of {B : Bk} {roll k : Int} (h : B.asg roll = some (k, false)) : B.Ship roll = (⟨B.es, B.n + 1, Plm.plUpd B.asg roll (some (k, true))⟩, 0) := by
  unfold Bk.Ship
  rw [held_of h]
  rfl
theorem ship_no {B : Bk} {roll k : Int} (h : B.asg roll = some (k, true)) : B.Ship roll = (B, 34) ∧ B.Release roll = (B, 34) := by
  unfold Bk.Ship Bk.Release
  rw [held_of h]
  exact ⟨rfl, rfl⟩
def o7 : S23 := ⟨7, 1, 500, 76, 1000, 10, 2, 1, 1, 1, 3, 70000⟩
def aw0 : Bk := Bk.new
theorem awe0 : Bk.new = aw0 := rfl
def aw1 : Bk := (aw0.Add o7).1
theorem awe1 : (aw0.Add o7).1 = aw1 := rfl
theorem awr1 : (aw0.Add o7).2 = 0 := by kernel_rfl
def aw2 : Bk := (aw1.Assign 7 1).1
theorem awe2 : (aw1.Assign 7 1).1 = aw2 := rfl
theorem awr2 : (aw1.Assign 7 1).2 = 0 := by kernel_rfl
def aw3 : Bk := (aw2.Assign 7 2).1
theorem awe3 : (aw2.Assign 7 2).1 = aw3 := rfl
theorem awr3 : (aw2.Assign 7 2).2 = 0 := by kernel_rfl
def aw4 : Bk := (aw3.Assign 7 3).1
theorem awe4 : (aw3.Assign 7 3).1 = aw4 := rfl
theorem awr4 : (aw3.Assign 7 3).2 = 0 := by kernel_rfl
def aw5 : Bk := (aw4.Assign 7 4).1
theorem awe5 : (aw4.Assign 7 4).1 = aw5 := rfl
theorem awr5 : (aw4.Assign 7 4).2 = 32 := by kernel_rfl
def aw6 : Bk := (aw5.Amend 7 1).1
theorem awe6 : (aw5.Amend 7 1).1 = aw6 := rfl
theorem awr6 : (aw5.Amend 7 1).2 = 32 := by kernel_rfl
def aw7 : Bk := (aw6.Release 3).1
theorem awe7 : (aw6.Release 3).1 = aw7 := rfl
theorem awr7 : (aw6.Release 3).2 = 0 := by kernel_rfl
def aw8 : Bk := (aw7.Release 2).1
theorem awe8 : (aw7.Release 2).1 = aw8 := rfl
theorem awr8 : (aw7.Release 2).2 = 0 := by kernel_rfl
def aw9 : Bk := (aw8.Close 7).1
theorem awe9 : (aw8.Close 7).1 = aw9 := rfl
theorem awr9 : (aw8.Close 7).2 = 13 := by kernel_rfl
def aw10 : Bk := (aw9.Ship 1).1
theorem awe10 : (aw9.Ship 1).1 = aw10 := rfl
theorem awr10 : (aw9.Ship 1).2 = 0 := by kernel_rfl
def aw11 : Bk := (aw10.Close 7).1
theorem awe11 : (aw10.Close 7).1 = aw11 := rfl
theorem awr11 : (aw10.Close 7).2 = 0 := by kernel_rfl
theorem Bk.ok_of {B : Bk} (h1 : decide (B.es.length ≤ 1000) = true) (h2 : decide (B.n < 100000) = true) (h3 : (B.es.all fun x => decide (x.f1.length < 1000) && x.f1.all fun n => (Lit.int .i64 n).wf) = true) : B.Ok :=
  ⟨of_decide_eq_true h1, of_decide_eq_true h2, fun x hx => by
    have := List.all_eq_true.1 h3 x hx
    rw [Bool.and_eq_true] at this
    exact ⟨of_decide_eq_true this.1, fun n hn => List.all_eq_true.1 this.2 n hn⟩⟩
theorem awo0 : aw0.Ok := Bk.ok_of (by kernel_rfl) (by kernel_rfl) (by kernel_rfl)
theorem awo1 : aw1.Ok := Bk.ok_of (by kernel_rfl) (by kernel_rfl) (by kernel_rfl)
theorem awo2 : aw2.Ok := Bk.ok_of (by kernel_rfl) (by kernel_rfl) (by kernel_rfl)
theorem awo3 : aw3.Ok := Bk.ok_of (by kernel_rfl) (by kernel_rfl) (by kernel_rfl)
theorem awo4 : aw4.Ok := Bk.ok_of (by kernel_rfl) (by kernel_rfl) (by kernel_rfl)
theorem awo6 : aw6.Ok := Bk.ok_of (by kernel_rfl) (by kernel_rfl) (by kernel_rfl)
theorem awo7 : aw7.Ok := Bk.ok_of (by kernel_rfl) (by kernel_rfl) (by kernel_rfl)
theorem awo8 : aw8.Ok := Bk.ok_of (by kernel_rfl) (by kernel_rfl) (by kernel_rfl)
theorem awo9 : aw9.Ok := Bk.ok_of (by kernel_rfl) (by kernel_rfl) (by kernel_rfl)
theorem awo10 : aw10.Ok := Bk.ok_of (by kernel_rfl) (by kernel_rfl) (by kernel_rfl)
theorem awo11 : aw11.Ok := Bk.ok_of (by kernel_rfl) (by kernel_rfl) (by kernel_rfl)
theorem awi6 : (aw6.held 3).2 = 0 → 0 ≤ (aw6.held 3).1 ∧ (aw6.held 3).1 < (aw6.es.length : Int) ∧ (rd_T68 aw6.es (aw6.held 3).1).f1 ≠ [] := fun _ => ⟨of_decide_eq_true (by kernel_rfl), of_decide_eq_true (by kernel_rfl), fun h => absurd (congrArg List.length h) (by rw [show (rd_T68 aw6.es (aw6.held 3).1).f1.length = 3 by kernel_rfl]; decide)⟩
theorem awi7 : (aw7.held 2).2 = 0 → 0 ≤ (aw7.held 2).1 ∧ (aw7.held 2).1 < (aw7.es.length : Int) ∧ (rd_T68 aw7.es (aw7.held 2).1).f1 ≠ [] := fun _ => ⟨of_decide_eq_true (by kernel_rfl), of_decide_eq_true (by kernel_rfl), fun h => absurd (congrArg List.length h) (by rw [show (rd_T68 aw7.es (aw7.held 2).1).f1.length = 2 by kernel_rfl]; decide)⟩
theorem aws0 {W0 w : World} {P : Nat → Prop} {pb pm : Nat} (h : LB W0 P pb pm w aw0) : Calls Try.prog 33 #[.pointer (some ⟨pb, 0, none⟩), .agg #[.int .i64 7, .int .i64 1, .int .i64 500, .int .i64 76, .int .i64 1000, .int .i64 10, .int .i64 2, .int .i64 1, .int .i64 1, .int .i64 1, .int .i64 3, .int .i64 70000]] w fun e w' => e = .returned (.int .i64 0) ∧ ∃ P', LB W0 P' pb pm w' aw1 ∧ KeptB w w' P := by
  have q := LB.Add h awo0 o7
  rw [awr1, awe1] at q
  exact q.mono (fun e w' ⟨he, P', h', hk, _⟩ => ⟨he, P', h', hk⟩)
theorem aws1 {W0 w : World} {P : Nat → Prop} {pb pm : Nat} (h : LB W0 P pb pm w aw1) : Calls Try.prog 23 #[.pointer (some ⟨pb, 0, none⟩), .int .i64 7, .int .i64 1] w fun e w' => e = .returned (.int .i64 0) ∧ ∃ P', LB W0 P' pb pm w' aw2 ∧ KeptB w w' P := by
  have q := LB.Assign h awo1 7 1
  rw [awr2, awe2] at q
  exact q.mono (fun e w' ⟨he, P', h', hk, _⟩ => ⟨he, P', h', hk⟩)
theorem aws2 {W0 w : World} {P : Nat → Prop} {pb pm : Nat} (h : LB W0 P pb pm w aw2) : Calls Try.prog 23 #[.pointer (some ⟨pb, 0, none⟩), .int .i64 7, .int .i64 2] w fun e w' => e = .returned (.int .i64 0) ∧ ∃ P', LB W0 P' pb pm w' aw3 ∧ KeptB w w' P := by
  have q := LB.Assign h awo2 7 2
  rw [awr3, awe3] at q
  exact q.mono (fun e w' ⟨he, P', h', hk, _⟩ => ⟨he, P', h', hk⟩)
theorem aws3 {W0 w : World} {P : Nat → Prop} {pb pm : Nat} (h : LB W0 P pb pm w aw3) : Calls Try.prog 23 #[.pointer (some ⟨pb, 0, none⟩), .int .i64 7, .int .i64 3] w fun e w' => e = .returned (.int .i64 0) ∧ ∃ P', LB W0 P' pb pm w' aw4 ∧ KeptB w w' P := by
  have q := LB.Assign h awo3 7 3
  rw [awr4, awe4] at q
  exact q.mono (fun e w' ⟨he, P', h', hk, _⟩ => ⟨he, P', h', hk⟩)
theorem aws4 {W0 w : World} {P : Nat → Prop} {pb pm : Nat} (h : LB W0 P pb pm w aw4) : Calls Try.prog 23 #[.pointer (some ⟨pb, 0, none⟩), .int .i64 7, .int .i64 4] w fun e w' => e = .returned (.int .i64 32) ∧ ∃ P', LB W0 P' pb pm w' aw5 ∧ KeptB w w' P := by
  have q := LB.Assign h awo4 7 4
  rw [awr5, awe5] at q
  exact q.mono (fun e w' ⟨he, P', h', hk, _⟩ => ⟨he, P', h', hk⟩)
theorem aws5 {W0 w : World} {P : Nat → Prop} {pb pm : Nat} (h : LB W0 P pb pm w aw5) : Calls Try.prog 35 #[.pointer (some ⟨pb, 0, none⟩), .int .i64 7, .int .i64 1] w fun e w' => e = .returned (.int .i64 32) ∧ ∃ P', LB W0 P' pb pm w' aw6 ∧ KeptB w w' P := by
  have q := LB.Amend h 7 1
  rw [awr6, awe6] at q
  exact q.mono (fun e w' ⟨he, P', h', hk, _⟩ => ⟨he, P', h', hk⟩)
theorem aws6 {W0 w : World} {P : Nat → Prop} {pb pm : Nat} (h : LB W0 P pb pm w aw6) : Calls Try.prog 24 #[.pointer (some ⟨pb, 0, none⟩), .int .i64 3] w fun e w' => e = .returned (.int .i64 0) ∧ ∃ P', LB W0 P' pb pm w' aw7 ∧ KeptB w w' P := by
  have q := LB.Release h awo6 3 rfl awi6
  rw [awr7, awe7] at q
  exact q.mono (fun e w' ⟨he, P', h', hk, _⟩ => ⟨he, P', h', hk⟩)
theorem aws7 {W0 w : World} {P : Nat → Prop} {pb pm : Nat} (h : LB W0 P pb pm w aw7) : Calls Try.prog 24 #[.pointer (some ⟨pb, 0, none⟩), .int .i64 2] w fun e w' => e = .returned (.int .i64 0) ∧ ∃ P', LB W0 P' pb pm w' aw8 ∧ KeptB w w' P := by
  have q := LB.Release h awo7 2 rfl awi7
  rw [awr8, awe8] at q
  exact q.mono (fun e w' ⟨he, P', h', hk, _⟩ => ⟨he, P', h', hk⟩)
theorem aws8 {W0 w : World} {P : Nat → Prop} {pb pm : Nat} (h : LB W0 P pb pm w aw8) : Calls Try.prog 36 #[.pointer (some ⟨pb, 0, none⟩), .int .i64 7] w fun e w' => e = .returned (.int .i64 13) ∧ ∃ P', LB W0 P' pb pm w' aw9 ∧ KeptB w w' P := by
  have q := LB.Close h awo8 7
  rw [awr9, awe9] at q
  exact q.mono (fun e w' ⟨he, P', h', hk, _⟩ => ⟨he, P', h', hk⟩)
theorem aws9 {W0 w : World} {P : Nat → Prop} {pb pm : Nat} (h : LB W0 P pb pm w aw9) : Calls Try.prog 25 #[.pointer (some ⟨pb, 0, none⟩), .int .i64 1] w fun e w' => e = .returned (.int .i64 0) ∧ ∃ P', LB W0 P' pb pm w' aw10 ∧ KeptB w w' P := by
  have q := LB.Ship h awo9 1 rfl
  rw [awr10, awe10] at q
  exact q.mono (fun e w' ⟨he, P', h', hk, _⟩ => ⟨he, P', h', hk⟩)
theorem aws10 {W0 w : World} {P : Nat → Prop} {pb pm : Nat} (h : LB W0 P pb pm w aw10) : Calls Try.prog 36 #[.pointer (some ⟨pb, 0, none⟩), .int .i64 7] w fun e w' => e = .returned (.int .i64 0) ∧ ∃ P', LB W0 P' pb pm w' aw11 ∧ KeptB w w' P := by
  have q := LB.Close h awo10 7
  rw [awr11, awe11] at q
  exact q.mono (fun e w' ⟨he, P', h', hk, _⟩ => ⟨he, P', h', hk⟩)
theorem aw_one (w : World) : Calls Try.prog 34 #[.int .i64 7] w fun e w' => e = .returned (.agg #[.int .i64 7, .int .i64 1, .int .i64 500, .int .i64 76, .int .i64 1000, .int .i64 10, .int .i64 2, .int .i64 1, .int .i64 1, .int .i64 1, .int .i64 3, .int .i64 70000]) ∧ Below w.heap.size w w' := papermilllaw51_one.calls 7 7 1 500 76 1000 10 2 1 1 1 3 70000 w (by kernel_rfl)
theorem aw_find {W0 w : World} {P : Nat → Prop} {pb pm : Nat} (h : LB W0 P pb pm w aw10) : Calls Try.prog 18 #[.pointer (some ⟨pb, 0, none⟩), .int .i64 1] w fun e w' => e = .returned (.tuple #[.int .i64 7, .bool true]) ∧ Below w.heap.size w w' := LB.Find h 1 rfl (7, true) (by kernel_rfl)
theorem aw_opens : aw10.es.map openN = [1] := by kernel_rfl
theorem aw_open {W0 w : World} {P : Nat → Prop} {pb pm : Nat} (h : LB W0 P pb pm w aw10) : Calls Try.prog 30 #[.pointer (some ⟨pb, 0, none⟩)] w fun e w' => ∃ A c, e = .returned (.slice A 1 c) ∧ Kd.R (Kd.int .i64) 3 w' w.heap.size (fun _ => True) (.slice A 1 c) [1] ∧ Below w.heap.size w w' := by
  have q := LB.Open h awo10
  rw [aw_opens] at q
  refine q.mono ?_
  rintro e w' ⟨v, rfl, ho, hb⟩
  obtain ⟨A, c, rfl⟩ := Kd.R_slice ho
  exact ⟨A, c, rfl, ho, hb⟩
theorem aw_stat : aw11.Status 7 = (⟨o7, [1], [1], true⟩, 0) := by kernel_rfl
theorem aw_status {W0 w : World} {P : Nat → Prop} {pb pm : Nat} (h : LB W0 P pb pm w aw11) : Calls Try.prog 20 #[.pointer (some ⟨pb, 0, none⟩), .int .i64 7] w fun e w' => ∃ A c A' c', e = .returned (.tuple #[.agg #[.int .i64 7, .int .i64 1, .int .i64 500, .int .i64 76, .int .i64 1000, .int .i64 10, .int .i64 2, .int .i64 1, .int .i64 1, .int .i64 1, .int .i64 3, .int .i64 70000, .slice A 1 c, .slice A' 1 c', .bool true], .int .i64 0]) ∧ (1 ≤ c ∧ (Kd.int .i64).C w' A 1 [1]) ∧ (1 ≤ c' ∧ (Kd.int .i64).C w' A' 1 [1]) ∧ Below w.heap.size w w' := by
  have q := LB.Status h awo11 7
  rw [aw_stat] at q
  refine q.mono ?_
  rintro e w' ⟨v12, v13, rfl, h12, h13, hb⟩
  obtain ⟨A, c, rfl, h1, h2⟩ := Kd.R_reads h12
  obtain ⟨A', c', rfl, h3, h4⟩ := Kd.R_reads h13
  exact ⟨A, c, A', c', rfl, ⟨h1, h2⟩, ⟨h3, h4⟩, hb⟩
theorem Assign_shut {base : Nat} {P : Nat → Prop} {pb pm : Nat} {ve : Value} {B : Bk} (id roll r : Int) (w : World) (hB : BAt base P pb ve pm w B) (hr : (B.open_ id).2 = r) (h0 : r ≠ 0) :
    Calls Try.prog 23 #[.pointer (some ⟨pb, 0, none⟩), .int .i64 id, .int .i64 roll] w fun e w' => e = .returned (.int .i64 r) ∧ Below w.heap.size w w' := by
  have HV := Aside0.mk (open_calls id w hB)
  clear hB
  generalize B.open_ id = o at HV hr
  obtain ⟨k, eo⟩ := o
  simp only at HV hr
  subst hr
  have c0b : (eo != 0) = true := bne_iff_ne.mpr h0
  clear h0
  go_enter Try.func23, Try.ntmps23
  go_wp2_with (go_at_call 47; refine HV.out.mono ?_; rintro e w1 ⟨rfl, hb⟩)
  go_ret
  exact ⟨rfl, hb⟩
theorem aw_shut : (aw11.open_ 7).2 = 33 := by kernel_rfl
theorem aw_last {W0 w : World} {P : Nat → Prop} {pb pm : Nat} (h : LB W0 P pb pm w aw11) : Calls Try.prog 23 #[.pointer (some ⟨pb, 0, none⟩), .int .i64 7, .int .i64 9] w fun e w' => e = .returned (.int .i64 33) ∧ Below w.heap.size w w' := by
  obtain ⟨ve, h1⟩ := h.at_
  exact Assign_shut 7 9 33 w h1 aw_shut (by decide)
theorem C_one {W : World} {g : Nat} {cs : Array Value} {t : TypeId} {fr : Nat × Nat} (hh : W.heap[g]? = some (.cells cs t fr)) (hcs : cs = #[.int .i64 1]) : (Kd.int .i64).C W (some ⟨g, 0, none⟩) 1 [1] := by
  subst hcs
  refine ⟨rfl, by decide, fun _ => ⟨_, rfl, fun j p hp => ?_⟩⟩
  match j, hp with
  | 0, hp =>
    obtain rfl := Option.some.inj hp
    refine ⟨[.int .i64 1], rfl, rfl, fun i u hu => ?_⟩
    match i, hu with
    | 0, hu =>
      obtain rfl := Option.some.inj hu
      rw [add_plain]
      simp [World.cell?, hh]
    | i + 1, hu => simp at hu
  | j + 1, hp => simp at hp
theorem aw_ints {A A' : Option Addr} {c c' : Nat} {w : World} (h : (Kd.int .i64).C w A 1 [1]) (hc : 1 ≤ c) (h' : (Kd.int .i64).C w A' 1 [1]) (hc' : 1 ≤ c') : Calls Try.prog 29 #[.slice A 1 c, .slice A' 1 c'] w fun e w' => e = .returned (.bool true) ∧ Below w.heap.size w w' :=
  (papermillref51_Ints.calls 5 A c [1] A' c' [1] true w h hc h' hc' (by kernel_rfl)).mono fun e w' ⟨he, hd⟩ => ⟨he, hd.below⟩
theorem aw_same {A B A' B' : Option Addr} {a b a' b' : Nat} {w : World} (h1 : (Kd.int .i64).C w A 1 [1]) (l1 : 1 ≤ a) (h2 : (Kd.int .i64).C w B 1 [1]) (l2 : 1 ≤ b) (h3 : (Kd.int .i64).C w A' 1 [1]) (l3 : 1 ≤ a') (h4 : (Kd.int .i64).C w B' 1 [1]) (l4 : 1 ≤ b') :
    Calls Try.prog 22 #[.agg #[.int .i64 7, .int .i64 1, .int .i64 500, .int .i64 76, .int .i64 1000, .int .i64 10, .int .i64 2, .int .i64 1, .int .i64 1, .int .i64 1, .int .i64 3, .int .i64 70000, .slice A 1 a, .slice B 1 b, .bool true], .agg #[.int .i64 7, .int .i64 1, .int .i64 500, .int .i64 76, .int .i64 1000, .int .i64 10, .int .i64 2, .int .i64 1, .int .i64 1, .int .i64 1, .int .i64 3, .int .i64 70000, .slice A' 1 a', .slice B' 1 b', .bool true]] w fun e w' => e = .returned (.bool true) ∧ Below w.heap.size w w' :=
  papermillref51_SameOne.calls 5 7 1 500 76 1000 10 2 1 1 1 3 70000 A a [1] B b [1] true 7 1 500 76 1000 10 2 1 1 1 3 70000 A' a' [1] B' b' [1] true true w h1 l1 h2 l2 h3 l3 h4 l4 (by kernel_rfl)
open Mono
theorem not_dst {ops : Array Oper} {s : Tmp} (h : ((List.range ops.size).all fun i => dstOf ops i != some s) = true) : ∀ i, dstOf ops i ≠ some s := fun i e => by
  have := List.all_eq_true.1 h i (List.mem_range.2 (dstOf_lt e))
  rw [e] at this
  simp at this
theorem getq {a : Act} {n s : Nat} {v : Value} (hn : a.tmps.size = n) (hs : s < n) (h : a.tmps.getD s undef = v) : a.tmps[s]? = some v := by
  rw [← h, Array.getD_eq_getD_getElem?, Array.getElem?_eq_getElem (by omega)]
  rfl
def awF (pb gs : Nat) (AL : Option Addr) (cL : Nat) (A : Option Addr) (cA : Nat) (B : Option Addr) (cB : Nat) : Nat → Value → World → Prop
  | 0, v, w => v = .int .i64 0
  | 1, v, w => v = .bool true
  | 2, v, w => v = .bool true
  | 3, v, w => v = .int .i64 0
  | 4, v, w => v = .bool true
  | 5, v, w => v = .bool true
  | 6, v, w => v = .bool true
  | 7, v, w => v = .int .i64 0
  | 8, v, w => v = .bool true
  | 9, v, w => v = .bool true
  | 10, v, w => v = .bool true
  | 11, v, w => v = .int .i64 0
  | 12, v, w => v = .bool true
  | 13, v, w => v = .bool true
  | 14, v, w => v = .bool true
  | 15, v, w => v = .int .i64 32
  | 16, v, w => v = .bool true
  | 17, v, w => v = .bool true
  | 18, v, w => v = .bool true
  | 19, v, w => v = .int .i64 32
  | 20, v, w => v = .bool true
  | 21, v, w => v = .bool true
  | 22, v, w => v = .bool true
  | 23, v, w => v = .int .i64 0
  | 24, v, w => v = .bool true
  | 25, v, w => v = .bool true
  | 26, v, w => v = .bool true
  | 27, v, w => v = .int .i64 0
  | 28, v, w => v = .bool true
  | 29, v, w => v = .bool true
  | 30, v, w => v = .bool true
  | 31, v, w => v = .int .i64 13
  | 32, v, w => v = .bool true
  | 33, v, w => v = .bool true
  | 34, v, w => v = .bool true
  | 35, v, w => v = .int .i64 0
  | 36, v, w => v = .bool true
  | 37, v, w => v = .bool true
  | 38, v, w => v = .bool true
  | 39, v, w => v = .int .i64 7
  | 40, v, w => v = .bool true
  | 41, v, w => v = .bool true
  | 42, v, w => v = .bool true
  | 43, v, w => v = .bool true
  | 44, v, w => v = .bool true
  | 45, v, w => v = .bool true
  | 46, v, w => v = .slice AL 1 cL
  | 47, v, w => ∃ A_ c_, v = .slice A_ 1 c_ ∧ 1 ≤ c_ ∧ (Kd.int .i64).C w A_ 1 [1]
  | 48, v, w => v = .bool true
  | 49, v, w => v = .bool true
  | 50, v, w => v = .bool true
  | 51, v, w => v = .int .i64 0
  | 52, v, w => v = .bool true
  | 53, v, w => v = .bool true
  | 54, v, w => v = .bool true
  | 55, v, w => v = .int .i64 0
  | 56, v, w => v = .bool true
  | 57, v, w => v = .bool true
  | 58, v, w => v = .bool true
  | 59, v, w => v = .agg #[.int .i64 7, .int .i64 1, .int .i64 500, .int .i64 76, .int .i64 1000, .int .i64 10, .int .i64 2, .int .i64 1, .int .i64 1, .int .i64 1, .int .i64 3, .int .i64 70000, .slice A 1 cA, .slice B 1 cB, .bool true]
  | 60, v, w => v = .agg #[.int .i64 7, .int .i64 1, .int .i64 500, .int .i64 76, .int .i64 1000, .int .i64 10, .int .i64 2, .int .i64 1, .int .i64 1, .int .i64 1, .int .i64 3, .int .i64 70000]
  | 61, v, w => ∃ A_ c_, v = .slice A_ 1 c_ ∧ 1 ≤ c_ ∧ (Kd.int .i64).C w A_ 1 [1]
  | 62, v, w => ∃ A_ c_, v = .slice A_ 1 c_ ∧ 1 ≤ c_ ∧ (Kd.int .i64).C w A_ 1 [1]
  | 63, v, w => ∃ A_ a_ B_ b_, v = .agg #[.int .i64 7, .int .i64 1, .int .i64 500, .int .i64 76, .int .i64 1000, .int .i64 10, .int .i64 2, .int .i64 1, .int .i64 1, .int .i64 1, .int .i64 3, .int .i64 70000, .slice A_ 1 a_, .slice B_ 1 b_, .bool true] ∧ (1 ≤ a_ ∧ (Kd.int .i64).C w A_ 1 [1]) ∧ 1 ≤ b_ ∧ (Kd.int .i64).C w B_ 1 [1]
  | 64, v, w => v = .bool true
  | 65, v, w => v = .bool true
  | 66, v, w => v = .bool true
  | 67, v, w => v = .pointer (some ⟨pb, 0, none⟩)
  | 68, v, w => v = .int .i64 33
  | 69, v, w => v = .bool true
  | 70, v, w => v = .bool true
  | 71, v, w => v = .bool true
  | _, _, _ => True
def awI (w0 : World) (pb pm gs : Nat) (AL : Option Addr) (cL : Nat) (A : Option Addr) (cA : Nat) (B : Option Addr) (cB : Nat) (w : World) : Prop := w.heap[gs]? = some (.cells #[.int .i64 7, .int .i64 1, .int .i64 500, .int .i64 76, .int .i64 1000, .int .i64 10, .int .i64 2, .int .i64 1, .int .i64 1, .int .i64 1, .int .i64 3, .int .i64 70000, .slice A 1 cA, .slice B 1 cB, .bool true] 41 (0, 0)) ∧ (1 ≤ cL ∧ (Kd.int .i64).C w AL 1 [1]) ∧ (1 ≤ cA ∧ (Kd.int .i64).C w A 1 [1]) ∧ (1 ≤ cB ∧ (Kd.int .i64).C w B 1 [1]) ∧ ∃ P, LB w0 P pb pm w aw11
theorem awI_mono {w0 : World} {pm : Nat} {pb gs : Nat} {AL : Option Addr} {cL : Nat} {A : Option Addr} {cA : Nat} {B : Option Addr} {cB : Nat} (w w' : World) (hb : Below w.heap.size w w') (h : awI w0 pb pm gs AL cL A cA B cB w) : awI w0 pb pm gs AL cL A cA B cB w' := by
  obtain ⟨h1, h2, h3, h4, P, h5⟩ := h
  exact ⟨blk_below h1 hb, ⟨h2.1, Kd.C_below h2.2 hb⟩, ⟨h3.1, Kd.C_below h3.2 hb⟩, ⟨h4.1, Kd.C_below h4.2 hb⟩, P, h5.below hb⟩
theorem awF_mono {pb gs : Nat} {AL : Option Addr} {cL : Nat} {A : Option Addr} {cA : Nat} {B : Option Addr} {cB : Nat} (i : Nat) (v : Value) (w w' : World) (hb : Below w.heap.size w w') (h : awF pb gs AL cL A cA B cB i v w) : awF pb gs AL cL A cA B cB i v w' := by
  rcases Nat.lt_or_ge i 72 with hi | hi
  · obtain rfl | rfl | rfl | rfl | rfl | rfl | rfl | rfl | rfl | rfl | rfl | rfl | rfl | rfl | rfl | rfl | rfl | rfl | rfl | rfl | rfl | rfl | rfl | rfl | rfl | rfl | rfl | rfl | rfl | rfl | rfl | rfl | rfl | rfl | rfl | rfl | rfl | rfl | rfl | rfl | rfl | rfl | rfl | rfl | rfl | rfl | rfl | rfl | rfl | rfl | rfl | rfl | rfl | rfl | rfl | rfl | rfl | rfl | rfl | rfl | rfl | rfl | rfl | rfl | rfl | rfl | rfl | rfl | rfl | rfl | rfl | rfl : i = 0 ∨ i = 1 ∨ i = 2 ∨ i = 3 ∨ i = 4 ∨ i = 5 ∨ i = 6 ∨ i = 7 ∨ i = 8 ∨ i = 9 ∨ i = 10 ∨ i = 11 ∨ i = 12 ∨ i = 13 ∨ i = 14 ∨ i = 15 ∨ i = 16 ∨ i = 17 ∨ i = 18 ∨ i = 19 ∨ i = 20 ∨ i = 21 ∨ i = 22 ∨ i = 23 ∨ i = 24 ∨ i = 25 ∨ i = 26 ∨ i = 27 ∨ i = 28 ∨ i = 29 ∨ i = 30 ∨ i = 31 ∨ i = 32 ∨ i = 33 ∨ i = 34 ∨ i = 35 ∨ i = 36 ∨ i = 37 ∨ i = 38 ∨ i = 39 ∨ i = 40 ∨ i = 41 ∨ i = 42 ∨ i = 43 ∨ i = 44 ∨ i = 45 ∨ i = 46 ∨ i = 47 ∨ i = 48 ∨ i = 49 ∨ i = 50 ∨ i = 51 ∨ i = 52 ∨ i = 53 ∨ i = 54 ∨ i = 55 ∨ i = 56 ∨ i = 57 ∨ i = 58 ∨ i = 59 ∨ i = 60 ∨ i = 61 ∨ i = 62 ∨ i = 63 ∨ i = 64 ∨ i = 65 ∨ i = 66 ∨ i = 67 ∨ i = 68 ∨ i = 69 ∨ i = 70 ∨ i = 71 := by omega
    · exact h
    · exact h
    · exact h
    · exact h
    · exact h
    · exact h
    · exact h
    · exact h
    · exact h
    · exact h
    · exact h
    · exact h
    · exact h
    · exact h
    · exact h
    · exact h
    · exact h
    · exact h
    · exact h
    · exact h
    · exact h
    · exact h
    · exact h
    · exact h
    · exact h
    · exact h
    · exact h
    · exact h
    · exact h
    · exact h
    · exact h
    · exact h
    · exact h
    · exact h
    · exact h
    · exact h
    · exact h
    · exact h
    · exact h
    · exact h
    · exact h
    · exact h
    · exact h
    · exact h
    · exact h
    · exact h
    · exact h
    · obtain ⟨A_, c_, e, hc, hC⟩ := h
      exact ⟨A_, c_, e, hc, Kd.C_below hC hb⟩
    · exact h
    · exact h
    · exact h
    · exact h
    · exact h
    · exact h
    · exact h
    · exact h
    · exact h
    · exact h
    · exact h
    · exact h
    · exact h
    · obtain ⟨A_, c_, e, hc, hC⟩ := h
      exact ⟨A_, c_, e, hc, Kd.C_below hC hb⟩
    · obtain ⟨A_, c_, e, hc, hC⟩ := h
      exact ⟨A_, c_, e, hc, Kd.C_below hC hb⟩
    · obtain ⟨A_, a_, B_, b_, e, ⟨h1, h2⟩, h3, h4⟩ := h
      exact ⟨A_, a_, B_, b_, e, ⟨h1, Kd.C_below h2 hb⟩, h3, Kd.C_below h4 hb⟩
    · exact h
    · exact h
    · exact h
    · exact h
    · exact h
    · exact h
    · exact h
    · exact h
  · obtain ⟨j, rfl⟩ : ∃ j, i = j + 72 := ⟨i - 72, by omega⟩
    exact trivial
attribute [local irreducible] aw0 aw1 aw2 aw3 aw4 aw5 aw6 aw7 aw8 aw9 aw10 aw11
set_option maxHeartbeats 16000000 in
set_option maxRecDepth 100000 in
theorem aw_all (w : World) : Calls Try.prog 13 #[] w fun e w' => e = .returned (.bool true) ∧ Below w.heap.size w w' := by
  have hu41 := Try.underlying41
  go_enter Try.func13, Try.ntmps13
  go_wp2_with fail
  refine (LB.new w w (Below.refl _ _)).mono ?_
  rintro e w1 ⟨P, pb, pm, rfl, h, _, _⟩
  rw [awe0] at h
  have HB := Aside0.mk h
  clear h
  go_wp2_with fail
  refine (aw_one _).mono ?_
  rintro e w2 ⟨rfl, hb⟩
  replace HB := Aside0.mk (HB.out.below hb)
  clear hb
  go_wp2_with fail
  refine (aws0 HB.out).mono ?_
  rintro e w2 ⟨rfl, P2, h, _⟩
  replace HB := Aside0.mk h
  clear h
  go_wp2_with fail
  refine (aws1 HB.out).mono ?_
  rintro e w2 ⟨rfl, P2, h, _⟩
  replace HB := Aside0.mk h
  clear h
  go_wp2_with fail
  refine (aws2 HB.out).mono ?_
  rintro e w2 ⟨rfl, P2, h, _⟩
  replace HB := Aside0.mk h
  clear h
  go_wp2_with fail
  refine (aws3 HB.out).mono ?_
  rintro e w2 ⟨rfl, P2, h, _⟩
  replace HB := Aside0.mk h
  clear h
  go_wp2_with fail
  refine (aws4 HB.out).mono ?_
  rintro e w2 ⟨rfl, P2, h, _⟩
  replace HB := Aside0.mk h
  clear h
  go_wp2_with fail
  refine (aws5 HB.out).mono ?_
  rintro e w2 ⟨rfl, P2, h, _⟩
  replace HB := Aside0.mk h
  clear h
  go_wp2_with fail
  refine (aws6 HB.out).mono ?_
  rintro e w2 ⟨rfl, P2, h, _⟩
  replace HB := Aside0.mk h
  clear h
  go_wp2_with fail
  refine (aws7 HB.out).mono ?_
  rintro e w2 ⟨rfl, P2, h, _⟩
  replace HB := Aside0.mk h
  clear h
  go_wp2_with fail
  refine (aws8 HB.out).mono ?_
  rintro e w2 ⟨rfl, P2, h, _⟩
  replace HB := Aside0.mk h
  clear h
  go_wp2_with fail
  refine (aws9 HB.out).mono ?_
  rintro e w2 ⟨rfl, P2, h, _⟩
  replace HB := Aside0.mk h
  clear h
  go_wp2_with fail
  refine (aw_find HB.out).mono ?_
  rintro e w3 ⟨rfl, hb⟩
  replace HB := Aside0.mk (HB.out.below hb)
  clear hb
  go_wp2_with fail
  refine (aw_open HB.out).mono ?_
  rintro e w4 ⟨AL, cL, rfl, ho, hb⟩
  have HLO := Aside0.mk HB.out.lo
  have HL := Aside0.mk ho
  replace HB := Aside0.mk (HB.out.below hb)
  clear hb ho
  go_wp2_with fail
  refine (aws10 HB.out).mono ?_
  rintro e w5 ⟨rfl, P5, h, hk⟩
  replace HL := Aside0.mk (Kd.R_reads' (Kd.R_kept (Kd.R_bound HL.out) hk.k (fun k hk h => absurd ((HLO.out k h).2) (by have := hk.2.1; omega)))).2
  replace HB := Aside0.mk h
  clear h hk
  go_wp2_with fail
  refine (aw_status HB.out).mono ?_
  rintro e w6 ⟨A, cA, B, cB, rfl, hA, hB, hb⟩
  replace HL := Aside0.mk (And.intro HL.out.1 (Kd.C_below HL.out.2 hb))
  replace HB := Aside0.mk (HB.out.below hb)
  have HA := Aside0.mk hA
  have HBB := Aside0.mk hB
  clear hb hA hB
  go_wp2
  have HB7 := Aside0.mk (below_alloc (Below.refl w6.heap.size w6) (.cells #[.int .i64 7, .int .i64 1, .int .i64 500, .int .i64 76, .int .i64 1000, .int .i64 10, .int .i64 2, .int .i64 1, .int .i64 1, .int .i64 1, .int .i64 3, .int .i64 70000, .slice A 1 cA, .slice B 1 cB, .bool true] 41))
  have HG := Aside0.mk (blk_new w6 (.cells #[.int .i64 7, .int .i64 1, .int .i64 500, .int .i64 76, .int .i64 1000, .int .i64 10, .int .i64 2, .int .i64 1, .int .i64 1, .int .i64 1, .int .i64 3, .int .i64 70000, .slice A 1 cA, .slice B 1 cB, .bool true] 41))
  obtain ⟨gs, hgs⟩ : ∃ gs, gs = w6.heap.size := ⟨_, rfl⟩
  have HI : awI w pb pm gs AL cL A cA B cB (w6.alloc (.cells #[.int .i64 7, .int .i64 1, .int .i64 500, .int .i64 76, .int .i64 1000, .int .i64 10, .int .i64 2, .int .i64 1, .int .i64 1, .int .i64 1, .int .i64 3, .int .i64 70000, .slice A 1 cA, .slice B 1 cB, .bool true] 41)) := ⟨by rw [hgs]; exact HG.out, ⟨HL.out.1, Kd.C_below HL.out.2 HB7.out⟩, ⟨HA.out.1, Kd.C_below HA.out.2 HB7.out⟩, ⟨HBB.out.1, Kd.C_below HBB.out.2 HB7.out⟩, P5, HB.out.below HB7.out⟩
  rw [← hgs]
  have HII := Aside0.mk HI
  clear HI HG HB7 HL HB HA HBB HLO hgs
  generalize w6.alloc (.cells #[.int .i64 7, .int .i64 1, .int .i64 500, .int .i64 76, .int .i64 1000, .int .i64 10, .int .i64 2, .int .i64 1, .int .i64 1, .int .i64 1, .int .i64 3, .int .i64 70000, .slice A 1 cA, .slice B 1 cB, .bool true] 41) = w7 at HII ⊢
  refine Mono.start (fun ops hops => ?_)
  have HOPS := Aside0.mk hops
  clear hops
  have hB0 : okB ops 127 = true := by rw [HOPS.out]; kernel_rfl
  refine Reg.wp (Φ := awF pb gs AL cL A cA B cB) (Inv := awI w pb pm gs AL cL A cA B cB) (Reg.ofB rfl hB0 (fun i v w w' => awF_mono i v w w') (fun w w' => awI_mono w w') ?_) (by kernel_rfl) (awI_mono _ _ (below_drew (Below.refl _ _)) HII.out) ?_
  · intro i o d ho hd a w hf hI hk
    have hN : a.tmps.size = 127 := hf.size.trans rfl
    have hi : i < 72 := by
      have := (Array.getElem?_eq_some_iff.1 ho).1
      rw [HOPS.out] at this
      exact this
    obtain rfl | rfl | rfl | rfl | rfl | rfl | rfl | rfl | rfl | rfl | rfl | rfl | rfl | rfl | rfl | rfl | rfl | rfl | rfl | rfl | rfl | rfl | rfl | rfl | rfl | rfl | rfl | rfl | rfl | rfl | rfl | rfl | rfl | rfl | rfl | rfl | rfl | rfl | rfl | rfl | rfl | rfl | rfl | rfl | rfl | rfl | rfl | rfl | rfl | rfl | rfl | rfl | rfl | rfl | rfl | rfl | rfl | rfl | rfl | rfl | rfl | rfl | rfl | rfl | rfl | rfl | rfl | rfl | rfl | rfl | rfl | rfl : i = 0 ∨ i = 1 ∨ i = 2 ∨ i = 3 ∨ i = 4 ∨ i = 5 ∨ i = 6 ∨ i = 7 ∨ i = 8 ∨ i = 9 ∨ i = 10 ∨ i = 11 ∨ i = 12 ∨ i = 13 ∨ i = 14 ∨ i = 15 ∨ i = 16 ∨ i = 17 ∨ i = 18 ∨ i = 19 ∨ i = 20 ∨ i = 21 ∨ i = 22 ∨ i = 23 ∨ i = 24 ∨ i = 25 ∨ i = 26 ∨ i = 27 ∨ i = 28 ∨ i = 29 ∨ i = 30 ∨ i = 31 ∨ i = 32 ∨ i = 33 ∨ i = 34 ∨ i = 35 ∨ i = 36 ∨ i = 37 ∨ i = 38 ∨ i = 39 ∨ i = 40 ∨ i = 41 ∨ i = 42 ∨ i = 43 ∨ i = 44 ∨ i = 45 ∨ i = 46 ∨ i = 47 ∨ i = 48 ∨ i = 49 ∨ i = 50 ∨ i = 51 ∨ i = 52 ∨ i = 53 ∨ i = 54 ∨ i = 55 ∨ i = 56 ∨ i = 57 ∨ i = 58 ∨ i = 59 ∨ i = 60 ∨ i = 61 ∨ i = 62 ∨ i = 63 ∨ i = 64 ∨ i = 65 ∨ i = 66 ∨ i = 67 ∨ i = 68 ∨ i = 69 ∨ i = 70 ∨ i = 71 := by omega
    ·
      have h := ho
      rw [HOPS.out] at ho
      simp only [List.getElem?_toArray, List.getElem?_cons_succ, List.getElem?_cons_zero, List.append_eq, List.cons_append, List.nil_append, Option.some.injEq] at ho
      subst ho
      obtain rfl := Option.some.inj hd
      have b2 : a.tmps.getD 2 undef = .int .i64 0 := (hf.same 2 (by rw [HOPS.out]; exact not_dst (by kernel_rfl))).trans rfl
      exact step_value h rfl (wanted_none rfl) (run_move rfl) b2 (Below.refl _ _)
    ·
      have h := ho
      rw [HOPS.out] at ho
      simp only [List.getElem?_toArray, List.getElem?_cons_succ, List.getElem?_cons_zero, List.append_eq, List.cons_append, List.nil_append, Option.some.injEq] at ho
      subst ho
      obtain rfl := Option.some.inj hd
      have e0 : a.tmps.getD 56 undef = .int .i64 0 := (hk 0 (by kernel_rfl)).out (d := 56) (by rw [HOPS.out]; rfl)
      refine step_value h rfl (wanted_none rfl) (v := .bool true) (w1 := w) ?_ rfl (Below.refl _ _)
      have q0 := getq hN (by decide) e0
      clear hk h hN hf hI
      go_simp
    ·
      have h := ho
      rw [HOPS.out] at ho
      simp only [List.getElem?_toArray, List.getElem?_cons_succ, List.getElem?_cons_zero, List.append_eq, List.cons_append, List.nil_append, Option.some.injEq] at ho
      subst ho
      obtain rfl := Option.some.inj hd
      have e1 : a.tmps.getD 57 undef = .bool true := (hk 1 (by kernel_rfl)).out (d := 57) (by rw [HOPS.out]; rfl)
      exact step_value h rfl (wanted_none rfl) (run_move rfl) e1 (Below.refl _ _)
    ·
      have h := ho
      rw [HOPS.out] at ho
      simp only [List.getElem?_toArray, List.getElem?_cons_succ, List.getElem?_cons_zero, List.append_eq, List.cons_append, List.nil_append, Option.some.injEq] at ho
      subst ho
      obtain rfl := Option.some.inj hd
      have e2 : a.tmps.getD 58 undef = .bool true := (hk 2 (by kernel_rfl)).out (d := 58) (by rw [HOPS.out]; rfl)
      have b3 : a.tmps.getD 3 undef = .int .i64 0 := (hf.same 3 (by rw [HOPS.out]; exact not_dst (by kernel_rfl))).trans rfl
      exact step_value h rfl (wanted_some rfl (show dstOf ops 2 = some 58 by rw [HOPS.out]; rfl) (by rw [hN]; decide) e2) (run_move rfl) b3 (Below.refl _ _)
    ·
      have h := ho
      rw [HOPS.out] at ho
      simp only [List.getElem?_toArray, List.getElem?_cons_succ, List.getElem?_cons_zero, List.append_eq, List.cons_append, List.nil_append, Option.some.injEq] at ho
      subst ho
      obtain rfl := Option.some.inj hd
      have e2 : a.tmps.getD 58 undef = .bool true := (hk 2 (by kernel_rfl)).out (d := 58) (by rw [HOPS.out]; rfl)
      have e3 : a.tmps.getD 59 undef = .int .i64 0 := (hk 3 (by kernel_rfl)).out (d := 59) (by rw [HOPS.out]; rfl)
      refine step_value h rfl (wanted_some rfl (show dstOf ops 2 = some 58 by rw [HOPS.out]; rfl) (by rw [hN]; decide) e2) (v := .bool true) (w1 := w) ?_ rfl (Below.refl _ _)
      have q3 := getq hN (by decide) e3
      clear hk h hN hf hI
      go_simp
    ·
      have h := ho
      rw [HOPS.out] at ho
      simp only [List.getElem?_toArray, List.getElem?_cons_succ, List.getElem?_cons_zero, List.append_eq, List.cons_append, List.nil_append, Option.some.injEq] at ho
      subst ho
      obtain rfl := Option.some.inj hd
      have e2 : a.tmps.getD 58 undef = .bool true := (hk 2 (by kernel_rfl)).out (d := 58) (by rw [HOPS.out]; rfl)
      have e4 : a.tmps.getD 60 undef = .bool true := (hk 4 (by kernel_rfl)).out (d := 60) (by rw [HOPS.out]; rfl)
      exact step_value h rfl (wanted_none rfl) (run_pick rfl e2) e4 (Below.refl _ _)
    ·
      have h := ho
      rw [HOPS.out] at ho
      simp only [List.getElem?_toArray, List.getElem?_cons_succ, List.getElem?_cons_zero, List.append_eq, List.cons_append, List.nil_append, Option.some.injEq] at ho
      subst ho
      obtain rfl := Option.some.inj hd
      have e5 : a.tmps.getD 61 undef = .bool true := (hk 5 (by kernel_rfl)).out (d := 61) (by rw [HOPS.out]; rfl)
      exact step_value h rfl (wanted_none rfl) (run_move rfl) e5 (Below.refl _ _)
    ·
      have h := ho
      rw [HOPS.out] at ho
      simp only [List.getElem?_toArray, List.getElem?_cons_succ, List.getElem?_cons_zero, List.append_eq, List.cons_append, List.nil_append, Option.some.injEq] at ho
      subst ho
      obtain rfl := Option.some.inj hd
      have e6 : a.tmps.getD 62 undef = .bool true := (hk 6 (by kernel_rfl)).out (d := 62) (by rw [HOPS.out]; rfl)
      have b4 : a.tmps.getD 4 undef = .int .i64 0 := (hf.same 4 (by rw [HOPS.out]; exact not_dst (by kernel_rfl))).trans rfl
      exact step_value h rfl (wanted_some rfl (show dstOf ops 6 = some 62 by rw [HOPS.out]; rfl) (by rw [hN]; decide) e6) (run_move rfl) b4 (Below.refl _ _)
    ·
      have h := ho
      rw [HOPS.out] at ho
      simp only [List.getElem?_toArray, List.getElem?_cons_succ, List.getElem?_cons_zero, List.append_eq, List.cons_append, List.nil_append, Option.some.injEq] at ho
      subst ho
      obtain rfl := Option.some.inj hd
      have e6 : a.tmps.getD 62 undef = .bool true := (hk 6 (by kernel_rfl)).out (d := 62) (by rw [HOPS.out]; rfl)
      have e7 : a.tmps.getD 63 undef = .int .i64 0 := (hk 7 (by kernel_rfl)).out (d := 63) (by rw [HOPS.out]; rfl)
      refine step_value h rfl (wanted_some rfl (show dstOf ops 6 = some 62 by rw [HOPS.out]; rfl) (by rw [hN]; decide) e6) (v := .bool true) (w1 := w) ?_ rfl (Below.refl _ _)
      have q7 := getq hN (by decide) e7
      clear hk h hN hf hI
      go_simp
    ·
      have h := ho
      rw [HOPS.out] at ho
      simp only [List.getElem?_toArray, List.getElem?_cons_succ, List.getElem?_cons_zero, List.append_eq, List.cons_append, List.nil_append, Option.some.injEq] at ho
      subst ho
      obtain rfl := Option.some.inj hd
      have e6 : a.tmps.getD 62 undef = .bool true := (hk 6 (by kernel_rfl)).out (d := 62) (by rw [HOPS.out]; rfl)
      have e8 : a.tmps.getD 64 undef = .bool true := (hk 8 (by kernel_rfl)).out (d := 64) (by rw [HOPS.out]; rfl)
      exact step_value h rfl (wanted_none rfl) (run_pick rfl e6) e8 (Below.refl _ _)
    ·
      have h := ho
      rw [HOPS.out] at ho
      simp only [List.getElem?_toArray, List.getElem?_cons_succ, List.getElem?_cons_zero, List.append_eq, List.cons_append, List.nil_append, Option.some.injEq] at ho
      subst ho
      obtain rfl := Option.some.inj hd
      have e9 : a.tmps.getD 65 undef = .bool true := (hk 9 (by kernel_rfl)).out (d := 65) (by rw [HOPS.out]; rfl)
      exact step_value h rfl (wanted_none rfl) (run_move rfl) e9 (Below.refl _ _)
    ·
      have h := ho
      rw [HOPS.out] at ho
      simp only [List.getElem?_toArray, List.getElem?_cons_succ, List.getElem?_cons_zero, List.append_eq, List.cons_append, List.nil_append, Option.some.injEq] at ho
      subst ho
      obtain rfl := Option.some.inj hd
      have e10 : a.tmps.getD 66 undef = .bool true := (hk 10 (by kernel_rfl)).out (d := 66) (by rw [HOPS.out]; rfl)
      have b5 : a.tmps.getD 5 undef = .int .i64 0 := (hf.same 5 (by rw [HOPS.out]; exact not_dst (by kernel_rfl))).trans rfl
      exact step_value h rfl (wanted_some rfl (show dstOf ops 10 = some 66 by rw [HOPS.out]; rfl) (by rw [hN]; decide) e10) (run_move rfl) b5 (Below.refl _ _)
    ·
      have h := ho
      rw [HOPS.out] at ho
      simp only [List.getElem?_toArray, List.getElem?_cons_succ, List.getElem?_cons_zero, List.append_eq, List.cons_append, List.nil_append, Option.some.injEq] at ho
      subst ho
      obtain rfl := Option.some.inj hd
      have e10 : a.tmps.getD 66 undef = .bool true := (hk 10 (by kernel_rfl)).out (d := 66) (by rw [HOPS.out]; rfl)
      have e11 : a.tmps.getD 67 undef = .int .i64 0 := (hk 11 (by kernel_rfl)).out (d := 67) (by rw [HOPS.out]; rfl)
      refine step_value h rfl (wanted_some rfl (show dstOf ops 10 = some 66 by rw [HOPS.out]; rfl) (by rw [hN]; decide) e10) (v := .bool true) (w1 := w) ?_ rfl (Below.refl _ _)
      have q11 := getq hN (by decide) e11
      clear hk h hN hf hI
      go_simp
    ·
      have h := ho
      rw [HOPS.out] at ho
      simp only [List.getElem?_toArray, List.getElem?_cons_succ, List.getElem?_cons_zero, List.append_eq, List.cons_append, List.nil_append, Option.some.injEq] at ho
      subst ho
      obtain rfl := Option.some.inj hd
      have e10 : a.tmps.getD 66 undef = .bool true := (hk 10 (by kernel_rfl)).out (d := 66) (by rw [HOPS.out]; rfl)
      have e12 : a.tmps.getD 68 undef = .bool true := (hk 12 (by kernel_rfl)).out (d := 68) (by rw [HOPS.out]; rfl)
      exact step_value h rfl (wanted_none rfl) (run_pick rfl e10) e12 (Below.refl _ _)
    ·
      have h := ho
      rw [HOPS.out] at ho
      simp only [List.getElem?_toArray, List.getElem?_cons_succ, List.getElem?_cons_zero, List.append_eq, List.cons_append, List.nil_append, Option.some.injEq] at ho
      subst ho
      obtain rfl := Option.some.inj hd
      have e13 : a.tmps.getD 69 undef = .bool true := (hk 13 (by kernel_rfl)).out (d := 69) (by rw [HOPS.out]; rfl)
      exact step_value h rfl (wanted_none rfl) (run_move rfl) e13 (Below.refl _ _)
    ·
      have h := ho
      rw [HOPS.out] at ho
      simp only [List.getElem?_toArray, List.getElem?_cons_succ, List.getElem?_cons_zero, List.append_eq, List.cons_append, List.nil_append, Option.some.injEq] at ho
      subst ho
      obtain rfl := Option.some.inj hd
      have e14 : a.tmps.getD 70 undef = .bool true := (hk 14 (by kernel_rfl)).out (d := 70) (by rw [HOPS.out]; rfl)
      have b6 : a.tmps.getD 6 undef = .int .i64 32 := (hf.same 6 (by rw [HOPS.out]; exact not_dst (by kernel_rfl))).trans rfl
      exact step_value h rfl (wanted_some rfl (show dstOf ops 14 = some 70 by rw [HOPS.out]; rfl) (by rw [hN]; decide) e14) (run_move rfl) b6 (Below.refl _ _)
    ·
      have h := ho
      rw [HOPS.out] at ho
      simp only [List.getElem?_toArray, List.getElem?_cons_succ, List.getElem?_cons_zero, List.append_eq, List.cons_append, List.nil_append, Option.some.injEq] at ho
      subst ho
      obtain rfl := Option.some.inj hd
      have e14 : a.tmps.getD 70 undef = .bool true := (hk 14 (by kernel_rfl)).out (d := 70) (by rw [HOPS.out]; rfl)
      have e15 : a.tmps.getD 71 undef = .int .i64 32 := (hk 15 (by kernel_rfl)).out (d := 71) (by rw [HOPS.out]; rfl)
      refine step_value h rfl (wanted_some rfl (show dstOf ops 14 = some 70 by rw [HOPS.out]; rfl) (by rw [hN]; decide) e14) (v := .bool true) (w1 := w) ?_ rfl (Below.refl _ _)
      have q15 := getq hN (by decide) e15
      clear hk h hN hf hI
      go_simp
    ·
      have h := ho
      rw [HOPS.out] at ho
      simp only [List.getElem?_toArray, List.getElem?_cons_succ, List.getElem?_cons_zero, List.append_eq, List.cons_append, List.nil_append, Option.some.injEq] at ho
      subst ho
      obtain rfl := Option.some.inj hd
      have e14 : a.tmps.getD 70 undef = .bool true := (hk 14 (by kernel_rfl)).out (d := 70) (by rw [HOPS.out]; rfl)
      have e16 : a.tmps.getD 72 undef = .bool true := (hk 16 (by kernel_rfl)).out (d := 72) (by rw [HOPS.out]; rfl)
      exact step_value h rfl (wanted_none rfl) (run_pick rfl e14) e16 (Below.refl _ _)
    ·
      have h := ho
      rw [HOPS.out] at ho
      simp only [List.getElem?_toArray, List.getElem?_cons_succ, List.getElem?_cons_zero, List.append_eq, List.cons_append, List.nil_append, Option.some.injEq] at ho
      subst ho
      obtain rfl := Option.some.inj hd
      have e17 : a.tmps.getD 73 undef = .bool true := (hk 17 (by kernel_rfl)).out (d := 73) (by rw [HOPS.out]; rfl)
      exact step_value h rfl (wanted_none rfl) (run_move rfl) e17 (Below.refl _ _)
    ·
      have h := ho
      rw [HOPS.out] at ho
      simp only [List.getElem?_toArray, List.getElem?_cons_succ, List.getElem?_cons_zero, List.append_eq, List.cons_append, List.nil_append, Option.some.injEq] at ho
      subst ho
      obtain rfl := Option.some.inj hd
      have e18 : a.tmps.getD 74 undef = .bool true := (hk 18 (by kernel_rfl)).out (d := 74) (by rw [HOPS.out]; rfl)
      have b7 : a.tmps.getD 7 undef = .int .i64 32 := (hf.same 7 (by rw [HOPS.out]; exact not_dst (by kernel_rfl))).trans rfl
      exact step_value h rfl (wanted_some rfl (show dstOf ops 18 = some 74 by rw [HOPS.out]; rfl) (by rw [hN]; decide) e18) (run_move rfl) b7 (Below.refl _ _)
    ·
      have h := ho
      rw [HOPS.out] at ho
      simp only [List.getElem?_toArray, List.getElem?_cons_succ, List.getElem?_cons_zero, List.append_eq, List.cons_append, List.nil_append, Option.some.injEq] at ho
      subst ho
      obtain rfl := Option.some.inj hd
      have e18 : a.tmps.getD 74 undef = .bool true := (hk 18 (by kernel_rfl)).out (d := 74) (by rw [HOPS.out]; rfl)
      have e19 : a.tmps.getD 75 undef = .int .i64 32 := (hk 19 (by kernel_rfl)).out (d := 75) (by rw [HOPS.out]; rfl)
      refine step_value h rfl (wanted_some rfl (show dstOf ops 18 = some 74 by rw [HOPS.out]; rfl) (by rw [hN]; decide) e18) (v := .bool true) (w1 := w) ?_ rfl (Below.refl _ _)
      have q19 := getq hN (by decide) e19
      clear hk h hN hf hI
      go_simp
    ·
      have h := ho
      rw [HOPS.out] at ho
      simp only [List.getElem?_toArray, List.getElem?_cons_succ, List.getElem?_cons_zero, List.append_eq, List.cons_append, List.nil_append, Option.some.injEq] at ho
      subst ho
      obtain rfl := Option.some.inj hd
      have e18 : a.tmps.getD 74 undef = .bool true := (hk 18 (by kernel_rfl)).out (d := 74) (by rw [HOPS.out]; rfl)
      have e20 : a.tmps.getD 76 undef = .bool true := (hk 20 (by kernel_rfl)).out (d := 76) (by rw [HOPS.out]; rfl)
      exact step_value h rfl (wanted_none rfl) (run_pick rfl e18) e20 (Below.refl _ _)
    ·
      have h := ho
      rw [HOPS.out] at ho
      simp only [List.getElem?_toArray, List.getElem?_cons_succ, List.getElem?_cons_zero, List.append_eq, List.cons_append, List.nil_append, Option.some.injEq] at ho
      subst ho
      obtain rfl := Option.some.inj hd
      have e21 : a.tmps.getD 77 undef = .bool true := (hk 21 (by kernel_rfl)).out (d := 77) (by rw [HOPS.out]; rfl)
      exact step_value h rfl (wanted_none rfl) (run_move rfl) e21 (Below.refl _ _)
    ·
      have h := ho
      rw [HOPS.out] at ho
      simp only [List.getElem?_toArray, List.getElem?_cons_succ, List.getElem?_cons_zero, List.append_eq, List.cons_append, List.nil_append, Option.some.injEq] at ho
      subst ho
      obtain rfl := Option.some.inj hd
      have e22 : a.tmps.getD 78 undef = .bool true := (hk 22 (by kernel_rfl)).out (d := 78) (by rw [HOPS.out]; rfl)
      have b8 : a.tmps.getD 8 undef = .int .i64 0 := (hf.same 8 (by rw [HOPS.out]; exact not_dst (by kernel_rfl))).trans rfl
      exact step_value h rfl (wanted_some rfl (show dstOf ops 22 = some 78 by rw [HOPS.out]; rfl) (by rw [hN]; decide) e22) (run_move rfl) b8 (Below.refl _ _)
    ·
      have h := ho
      rw [HOPS.out] at ho
      simp only [List.getElem?_toArray, List.getElem?_cons_succ, List.getElem?_cons_zero, List.append_eq, List.cons_append, List.nil_append, Option.some.injEq] at ho
      subst ho
      obtain rfl := Option.some.inj hd
      have e22 : a.tmps.getD 78 undef = .bool true := (hk 22 (by kernel_rfl)).out (d := 78) (by rw [HOPS.out]; rfl)
      have e23 : a.tmps.getD 79 undef = .int .i64 0 := (hk 23 (by kernel_rfl)).out (d := 79) (by rw [HOPS.out]; rfl)
      refine step_value h rfl (wanted_some rfl (show dstOf ops 22 = some 78 by rw [HOPS.out]; rfl) (by rw [hN]; decide) e22) (v := .bool true) (w1 := w) ?_ rfl (Below.refl _ _)
      have q23 := getq hN (by decide) e23
      clear hk h hN hf hI
      go_simp
    ·
      have h := ho
      rw [HOPS.out] at ho
      simp only [List.getElem?_toArray, List.getElem?_cons_succ, List.getElem?_cons_zero, List.append_eq, List.cons_append, List.nil_append, Option.some.injEq] at ho
      subst ho
      obtain rfl := Option.some.inj hd
      have e22 : a.tmps.getD 78 undef = .bool true := (hk 22 (by kernel_rfl)).out (d := 78) (by rw [HOPS.out]; rfl)
      have e24 : a.tmps.getD 80 undef = .bool true := (hk 24 (by kernel_rfl)).out (d := 80) (by rw [HOPS.out]; rfl)
      exact step_value h rfl (wanted_none rfl) (run_pick rfl e22) e24 (Below.refl _ _)
    ·
      have h := ho
      rw [HOPS.out] at ho
      simp only [List.getElem?_toArray, List.getElem?_cons_succ, List.getElem?_cons_zero, List.append_eq, List.cons_append, List.nil_append, Option.some.injEq] at ho
      subst ho
      obtain rfl := Option.some.inj hd
      have e25 : a.tmps.getD 81 undef = .bool true := (hk 25 (by kernel_rfl)).out (d := 81) (by rw [HOPS.out]; rfl)
      exact step_value h rfl (wanted_none rfl) (run_move rfl) e25 (Below.refl _ _)
    ·
      have h := ho
      rw [HOPS.out] at ho
      simp only [List.getElem?_toArray, List.getElem?_cons_succ, List.getElem?_cons_zero, List.append_eq, List.cons_append, List.nil_append, Option.some.injEq] at ho
      subst ho
      obtain rfl := Option.some.inj hd
      have e26 : a.tmps.getD 82 undef = .bool true := (hk 26 (by kernel_rfl)).out (d := 82) (by rw [HOPS.out]; rfl)
      have b9 : a.tmps.getD 9 undef = .int .i64 0 := (hf.same 9 (by rw [HOPS.out]; exact not_dst (by kernel_rfl))).trans rfl
      exact step_value h rfl (wanted_some rfl (show dstOf ops 26 = some 82 by rw [HOPS.out]; rfl) (by rw [hN]; decide) e26) (run_move rfl) b9 (Below.refl _ _)
    ·
      have h := ho
      rw [HOPS.out] at ho
      simp only [List.getElem?_toArray, List.getElem?_cons_succ, List.getElem?_cons_zero, List.append_eq, List.cons_append, List.nil_append, Option.some.injEq] at ho
      subst ho
      obtain rfl := Option.some.inj hd
      have e26 : a.tmps.getD 82 undef = .bool true := (hk 26 (by kernel_rfl)).out (d := 82) (by rw [HOPS.out]; rfl)
      have e27 : a.tmps.getD 83 undef = .int .i64 0 := (hk 27 (by kernel_rfl)).out (d := 83) (by rw [HOPS.out]; rfl)
      refine step_value h rfl (wanted_some rfl (show dstOf ops 26 = some 82 by rw [HOPS.out]; rfl) (by rw [hN]; decide) e26) (v := .bool true) (w1 := w) ?_ rfl (Below.refl _ _)
      have q27 := getq hN (by decide) e27
      clear hk h hN hf hI
      go_simp
    ·
      have h := ho
      rw [HOPS.out] at ho
      simp only [List.getElem?_toArray, List.getElem?_cons_succ, List.getElem?_cons_zero, List.append_eq, List.cons_append, List.nil_append, Option.some.injEq] at ho
      subst ho
      obtain rfl := Option.some.inj hd
      have e26 : a.tmps.getD 82 undef = .bool true := (hk 26 (by kernel_rfl)).out (d := 82) (by rw [HOPS.out]; rfl)
      have e28 : a.tmps.getD 84 undef = .bool true := (hk 28 (by kernel_rfl)).out (d := 84) (by rw [HOPS.out]; rfl)
      exact step_value h rfl (wanted_none rfl) (run_pick rfl e26) e28 (Below.refl _ _)
    ·
      have h := ho
      rw [HOPS.out] at ho
      simp only [List.getElem?_toArray, List.getElem?_cons_succ, List.getElem?_cons_zero, List.append_eq, List.cons_append, List.nil_append, Option.some.injEq] at ho
      subst ho
      obtain rfl := Option.some.inj hd
      have e29 : a.tmps.getD 85 undef = .bool true := (hk 29 (by kernel_rfl)).out (d := 85) (by rw [HOPS.out]; rfl)
      exact step_value h rfl (wanted_none rfl) (run_move rfl) e29 (Below.refl _ _)
    ·
      have h := ho
      rw [HOPS.out] at ho
      simp only [List.getElem?_toArray, List.getElem?_cons_succ, List.getElem?_cons_zero, List.append_eq, List.cons_append, List.nil_append, Option.some.injEq] at ho
      subst ho
      obtain rfl := Option.some.inj hd
      have e30 : a.tmps.getD 86 undef = .bool true := (hk 30 (by kernel_rfl)).out (d := 86) (by rw [HOPS.out]; rfl)
      have b10 : a.tmps.getD 10 undef = .int .i64 13 := (hf.same 10 (by rw [HOPS.out]; exact not_dst (by kernel_rfl))).trans rfl
      exact step_value h rfl (wanted_some rfl (show dstOf ops 30 = some 86 by rw [HOPS.out]; rfl) (by rw [hN]; decide) e30) (run_move rfl) b10 (Below.refl _ _)
    ·
      have h := ho
      rw [HOPS.out] at ho
      simp only [List.getElem?_toArray, List.getElem?_cons_succ, List.getElem?_cons_zero, List.append_eq, List.cons_append, List.nil_append, Option.some.injEq] at ho
      subst ho
      obtain rfl := Option.some.inj hd
      have e30 : a.tmps.getD 86 undef = .bool true := (hk 30 (by kernel_rfl)).out (d := 86) (by rw [HOPS.out]; rfl)
      have e31 : a.tmps.getD 87 undef = .int .i64 13 := (hk 31 (by kernel_rfl)).out (d := 87) (by rw [HOPS.out]; rfl)
      refine step_value h rfl (wanted_some rfl (show dstOf ops 30 = some 86 by rw [HOPS.out]; rfl) (by rw [hN]; decide) e30) (v := .bool true) (w1 := w) ?_ rfl (Below.refl _ _)
      have q31 := getq hN (by decide) e31
      clear hk h hN hf hI
      go_simp
    ·
      have h := ho
      rw [HOPS.out] at ho
      simp only [List.getElem?_toArray, List.getElem?_cons_succ, List.getElem?_cons_zero, List.append_eq, List.cons_append, List.nil_append, Option.some.injEq] at ho
      subst ho
      obtain rfl := Option.some.inj hd
      have e30 : a.tmps.getD 86 undef = .bool true := (hk 30 (by kernel_rfl)).out (d := 86) (by rw [HOPS.out]; rfl)
      have e32 : a.tmps.getD 88 undef = .bool true := (hk 32 (by kernel_rfl)).out (d := 88) (by rw [HOPS.out]; rfl)
      exact step_value h rfl (wanted_none rfl) (run_pick rfl e30) e32 (Below.refl _ _)
    ·
      have h := ho
      rw [HOPS.out] at ho
      simp only [List.getElem?_toArray, List.getElem?_cons_succ, List.getElem?_cons_zero, List.append_eq, List.cons_append, List.nil_append, Option.some.injEq] at ho
      subst ho
      obtain rfl := Option.some.inj hd
      have e33 : a.tmps.getD 89 undef = .bool true := (hk 33 (by kernel_rfl)).out (d := 89) (by rw [HOPS.out]; rfl)
      exact step_value h rfl (wanted_none rfl) (run_move rfl) e33 (Below.refl _ _)
    ·
      have h := ho
      rw [HOPS.out] at ho
      simp only [List.getElem?_toArray, List.getElem?_cons_succ, List.getElem?_cons_zero, List.append_eq, List.cons_append, List.nil_append, Option.some.injEq] at ho
      subst ho
      obtain rfl := Option.some.inj hd
      have e34 : a.tmps.getD 90 undef = .bool true := (hk 34 (by kernel_rfl)).out (d := 90) (by rw [HOPS.out]; rfl)
      have b11 : a.tmps.getD 11 undef = .int .i64 0 := (hf.same 11 (by rw [HOPS.out]; exact not_dst (by kernel_rfl))).trans rfl
      exact step_value h rfl (wanted_some rfl (show dstOf ops 34 = some 90 by rw [HOPS.out]; rfl) (by rw [hN]; decide) e34) (run_move rfl) b11 (Below.refl _ _)
    ·
      have h := ho
      rw [HOPS.out] at ho
      simp only [List.getElem?_toArray, List.getElem?_cons_succ, List.getElem?_cons_zero, List.append_eq, List.cons_append, List.nil_append, Option.some.injEq] at ho
      subst ho
      obtain rfl := Option.some.inj hd
      have e34 : a.tmps.getD 90 undef = .bool true := (hk 34 (by kernel_rfl)).out (d := 90) (by rw [HOPS.out]; rfl)
      have e35 : a.tmps.getD 91 undef = .int .i64 0 := (hk 35 (by kernel_rfl)).out (d := 91) (by rw [HOPS.out]; rfl)
      refine step_value h rfl (wanted_some rfl (show dstOf ops 34 = some 90 by rw [HOPS.out]; rfl) (by rw [hN]; decide) e34) (v := .bool true) (w1 := w) ?_ rfl (Below.refl _ _)
      have q35 := getq hN (by decide) e35
      clear hk h hN hf hI
      go_simp
    ·
      have h := ho
      rw [HOPS.out] at ho
      simp only [List.getElem?_toArray, List.getElem?_cons_succ, List.getElem?_cons_zero, List.append_eq, List.cons_append, List.nil_append, Option.some.injEq] at ho
      subst ho
      obtain rfl := Option.some.inj hd
      have e34 : a.tmps.getD 90 undef = .bool true := (hk 34 (by kernel_rfl)).out (d := 90) (by rw [HOPS.out]; rfl)
      have e36 : a.tmps.getD 92 undef = .bool true := (hk 36 (by kernel_rfl)).out (d := 92) (by rw [HOPS.out]; rfl)
      exact step_value h rfl (wanted_none rfl) (run_pick rfl e34) e36 (Below.refl _ _)
    ·
      have h := ho
      rw [HOPS.out] at ho
      simp only [List.getElem?_toArray, List.getElem?_cons_succ, List.getElem?_cons_zero, List.append_eq, List.cons_append, List.nil_append, Option.some.injEq] at ho
      subst ho
      obtain rfl := Option.some.inj hd
      have e37 : a.tmps.getD 93 undef = .bool true := (hk 37 (by kernel_rfl)).out (d := 93) (by rw [HOPS.out]; rfl)
      exact step_value h rfl (wanted_none rfl) (run_move rfl) e37 (Below.refl _ _)
    ·
      have h := ho
      rw [HOPS.out] at ho
      simp only [List.getElem?_toArray, List.getElem?_cons_succ, List.getElem?_cons_zero, List.append_eq, List.cons_append, List.nil_append, Option.some.injEq] at ho
      subst ho
      obtain rfl := Option.some.inj hd
      have e38 : a.tmps.getD 94 undef = .bool true := (hk 38 (by kernel_rfl)).out (d := 94) (by rw [HOPS.out]; rfl)
      have b12 : a.tmps.getD 12 undef = .int .i64 7 := (hf.same 12 (by rw [HOPS.out]; exact not_dst (by kernel_rfl))).trans rfl
      exact step_value h rfl (wanted_some rfl (show dstOf ops 38 = some 94 by rw [HOPS.out]; rfl) (by rw [hN]; decide) e38) (run_move rfl) b12 (Below.refl _ _)
    ·
      have h := ho
      rw [HOPS.out] at ho
      simp only [List.getElem?_toArray, List.getElem?_cons_succ, List.getElem?_cons_zero, List.append_eq, List.cons_append, List.nil_append, Option.some.injEq] at ho
      subst ho
      obtain rfl := Option.some.inj hd
      have e38 : a.tmps.getD 94 undef = .bool true := (hk 38 (by kernel_rfl)).out (d := 94) (by rw [HOPS.out]; rfl)
      have e39 : a.tmps.getD 95 undef = .int .i64 7 := (hk 39 (by kernel_rfl)).out (d := 95) (by rw [HOPS.out]; rfl)
      refine step_value h rfl (wanted_some rfl (show dstOf ops 38 = some 94 by rw [HOPS.out]; rfl) (by rw [hN]; decide) e38) (v := .bool true) (w1 := w) ?_ rfl (Below.refl _ _)
      have q39 := getq hN (by decide) e39
      clear hk h hN hf hI
      go_simp
    ·
      have h := ho
      rw [HOPS.out] at ho
      simp only [List.getElem?_toArray, List.getElem?_cons_succ, List.getElem?_cons_zero, List.append_eq, List.cons_append, List.nil_append, Option.some.injEq] at ho
      subst ho
      obtain rfl := Option.some.inj hd
      have e38 : a.tmps.getD 94 undef = .bool true := (hk 38 (by kernel_rfl)).out (d := 94) (by rw [HOPS.out]; rfl)
      have e40 : a.tmps.getD 96 undef = .bool true := (hk 40 (by kernel_rfl)).out (d := 96) (by rw [HOPS.out]; rfl)
      exact step_value h rfl (wanted_none rfl) (run_pick rfl e38) e40 (Below.refl _ _)
    ·
      have h := ho
      rw [HOPS.out] at ho
      simp only [List.getElem?_toArray, List.getElem?_cons_succ, List.getElem?_cons_zero, List.append_eq, List.cons_append, List.nil_append, Option.some.injEq] at ho
      subst ho
      obtain rfl := Option.some.inj hd
      have e41 : a.tmps.getD 97 undef = .bool true := (hk 41 (by kernel_rfl)).out (d := 97) (by rw [HOPS.out]; rfl)
      exact step_value h rfl (wanted_none rfl) (run_move rfl) e41 (Below.refl _ _)
    ·
      have h := ho
      rw [HOPS.out] at ho
      simp only [List.getElem?_toArray, List.getElem?_cons_succ, List.getElem?_cons_zero, List.append_eq, List.cons_append, List.nil_append, Option.some.injEq] at ho
      subst ho
      obtain rfl := Option.some.inj hd
      have e42 : a.tmps.getD 98 undef = .bool true := (hk 42 (by kernel_rfl)).out (d := 98) (by rw [HOPS.out]; rfl)
      have b13 : a.tmps.getD 13 undef = .bool true := (hf.same 13 (by rw [HOPS.out]; exact not_dst (by kernel_rfl))).trans rfl
      exact step_value h rfl (wanted_some rfl (show dstOf ops 42 = some 98 by rw [HOPS.out]; rfl) (by rw [hN]; decide) e42) (run_move rfl) b13 (Below.refl _ _)
    ·
      have h := ho
      rw [HOPS.out] at ho
      simp only [List.getElem?_toArray, List.getElem?_cons_succ, List.getElem?_cons_zero, List.append_eq, List.cons_append, List.nil_append, Option.some.injEq] at ho
      subst ho
      obtain rfl := Option.some.inj hd
      have e42 : a.tmps.getD 98 undef = .bool true := (hk 42 (by kernel_rfl)).out (d := 98) (by rw [HOPS.out]; rfl)
      have e43 : a.tmps.getD 99 undef = .bool true := (hk 43 (by kernel_rfl)).out (d := 99) (by rw [HOPS.out]; rfl)
      exact step_value h rfl (wanted_none rfl) (run_pick rfl e42) e43 (Below.refl _ _)
    ·
      have h := ho
      rw [HOPS.out] at ho
      simp only [List.getElem?_toArray, List.getElem?_cons_succ, List.getElem?_cons_zero, List.append_eq, List.cons_append, List.nil_append, Option.some.injEq] at ho
      subst ho
      obtain rfl := Option.some.inj hd
      have e44 : a.tmps.getD 100 undef = .bool true := (hk 44 (by kernel_rfl)).out (d := 100) (by rw [HOPS.out]; rfl)
      exact step_value h rfl (wanted_none rfl) (run_move rfl) e44 (Below.refl _ _)
    ·
      have h := ho
      rw [HOPS.out] at ho
      simp only [List.getElem?_toArray, List.getElem?_cons_succ, List.getElem?_cons_zero, List.append_eq, List.cons_append, List.nil_append, Option.some.injEq] at ho
      subst ho
      obtain rfl := Option.some.inj hd
      have e45 : a.tmps.getD 101 undef = .bool true := (hk 45 (by kernel_rfl)).out (d := 101) (by rw [HOPS.out]; rfl)
      have b14 : a.tmps.getD 14 undef = .slice AL 1 cL := (hf.same 14 (by rw [HOPS.out]; exact not_dst (by kernel_rfl))).trans rfl
      exact step_value h rfl (wanted_some rfl (show dstOf ops 45 = some 101 by rw [HOPS.out]; rfl) (by rw [hN]; decide) e45) (run_move rfl) b14 (Below.refl _ _)
    ·
      have h := ho
      rw [HOPS.out] at ho
      simp only [List.getElem?_toArray, List.getElem?_cons_succ, List.getElem?_cons_zero, List.append_eq, List.cons_append, List.nil_append, Option.some.injEq] at ho
      subst ho
      obtain rfl := Option.some.inj hd
      have e45 : a.tmps.getD 101 undef = .bool true := (hk 45 (by kernel_rfl)).out (d := 101) (by rw [HOPS.out]; rfl)
      refine step_value h rfl (wanted_some rfl (show dstOf ops 45 = some 101 by rw [HOPS.out]; rfl) (by rw [hN]; decide) e45) (v := (.slice (some ⟨w.heap.size, 0, none⟩) 1 1)) (w1 := (w.alloc (.cells #[.int .i64 1] 3))) ?_ ⟨_, _, rfl, Nat.le_refl _, C_one (heap_alloc_new w _) rfl⟩ (below_alloc (Below.refl _ _) _)
      clear hk h hN hf hI
      go_simp
    ·
      have h := ho
      rw [HOPS.out] at ho
      simp only [List.getElem?_toArray, List.getElem?_cons_succ, List.getElem?_cons_zero, List.append_eq, List.cons_append, List.nil_append, Option.some.injEq] at ho
      subst ho
      obtain rfl := Option.some.inj hd
      have e45 : a.tmps.getD 101 undef = .bool true := (hk 45 (by kernel_rfl)).out (d := 101) (by rw [HOPS.out]; rfl)
      have e46 : a.tmps.getD 102 undef = .slice AL 1 cL := (hk 46 (by kernel_rfl)).out (d := 102) (by rw [HOPS.out]; rfl)
      have e47 : ∃ A_ c_, a.tmps.getD 103 undef = .slice A_ 1 c_ ∧ 1 ≤ c_ ∧ (Kd.int .i64).C w A_ 1 [1] := (hk 47 (by kernel_rfl)).out (d := 103) (by rw [HOPS.out]; rfl)
      obtain ⟨A47, c47, e47, hc47, hC47⟩ := e47
      exact step_call h rfl (wanted_some rfl (show dstOf ops 45 = some 101 by rw [HOPS.out]; rfl) (by rw [hN]; decide) e45) Try.func29 (by kernel_rfl) rfl #[.slice AL 1 cL, .slice A47 1 c47] rfl (by simp only [List.map_toArray, List.map_cons, List.map_nil, Act.eval, e46, e47]) ((aw_ints hI.2.1.2 hI.2.1.1 hC47 hc47).mono fun e w' ⟨he, hb⟩ => ⟨_, he, rfl, hb⟩)
    ·
      have h := ho
      rw [HOPS.out] at ho
      simp only [List.getElem?_toArray, List.getElem?_cons_succ, List.getElem?_cons_zero, List.append_eq, List.cons_append, List.nil_append, Option.some.injEq] at ho
      subst ho
      obtain rfl := Option.some.inj hd
      have e45 : a.tmps.getD 101 undef = .bool true := (hk 45 (by kernel_rfl)).out (d := 101) (by rw [HOPS.out]; rfl)
      have e48 : a.tmps.getD 104 undef = .bool true := (hk 48 (by kernel_rfl)).out (d := 104) (by rw [HOPS.out]; rfl)
      exact step_value h rfl (wanted_none rfl) (run_pick rfl e45) e48 (Below.refl _ _)
    ·
      have h := ho
      rw [HOPS.out] at ho
      simp only [List.getElem?_toArray, List.getElem?_cons_succ, List.getElem?_cons_zero, List.append_eq, List.cons_append, List.nil_append, Option.some.injEq] at ho
      subst ho
      obtain rfl := Option.some.inj hd
      have e49 : a.tmps.getD 105 undef = .bool true := (hk 49 (by kernel_rfl)).out (d := 105) (by rw [HOPS.out]; rfl)
      exact step_value h rfl (wanted_none rfl) (run_move rfl) e49 (Below.refl _ _)
    ·
      have h := ho
      rw [HOPS.out] at ho
      simp only [List.getElem?_toArray, List.getElem?_cons_succ, List.getElem?_cons_zero, List.append_eq, List.cons_append, List.nil_append, Option.some.injEq] at ho
      subst ho
      obtain rfl := Option.some.inj hd
      have e50 : a.tmps.getD 106 undef = .bool true := (hk 50 (by kernel_rfl)).out (d := 106) (by rw [HOPS.out]; rfl)
      have b15 : a.tmps.getD 15 undef = .int .i64 0 := (hf.same 15 (by rw [HOPS.out]; exact not_dst (by kernel_rfl))).trans rfl
      exact step_value h rfl (wanted_some rfl (show dstOf ops 50 = some 106 by rw [HOPS.out]; rfl) (by rw [hN]; decide) e50) (run_move rfl) b15 (Below.refl _ _)
    ·
      have h := ho
      rw [HOPS.out] at ho
      simp only [List.getElem?_toArray, List.getElem?_cons_succ, List.getElem?_cons_zero, List.append_eq, List.cons_append, List.nil_append, Option.some.injEq] at ho
      subst ho
      obtain rfl := Option.some.inj hd
      have e50 : a.tmps.getD 106 undef = .bool true := (hk 50 (by kernel_rfl)).out (d := 106) (by rw [HOPS.out]; rfl)
      have e51 : a.tmps.getD 107 undef = .int .i64 0 := (hk 51 (by kernel_rfl)).out (d := 107) (by rw [HOPS.out]; rfl)
      refine step_value h rfl (wanted_some rfl (show dstOf ops 50 = some 106 by rw [HOPS.out]; rfl) (by rw [hN]; decide) e50) (v := .bool true) (w1 := w) ?_ rfl (Below.refl _ _)
      have q51 := getq hN (by decide) e51
      clear hk h hN hf hI
      go_simp
    ·
      have h := ho
      rw [HOPS.out] at ho
      simp only [List.getElem?_toArray, List.getElem?_cons_succ, List.getElem?_cons_zero, List.append_eq, List.cons_append, List.nil_append, Option.some.injEq] at ho
      subst ho
      obtain rfl := Option.some.inj hd
      have e50 : a.tmps.getD 106 undef = .bool true := (hk 50 (by kernel_rfl)).out (d := 106) (by rw [HOPS.out]; rfl)
      have e52 : a.tmps.getD 108 undef = .bool true := (hk 52 (by kernel_rfl)).out (d := 108) (by rw [HOPS.out]; rfl)
      exact step_value h rfl (wanted_none rfl) (run_pick rfl e50) e52 (Below.refl _ _)
    ·
      have h := ho
      rw [HOPS.out] at ho
      simp only [List.getElem?_toArray, List.getElem?_cons_succ, List.getElem?_cons_zero, List.append_eq, List.cons_append, List.nil_append, Option.some.injEq] at ho
      subst ho
      obtain rfl := Option.some.inj hd
      have e53 : a.tmps.getD 109 undef = .bool true := (hk 53 (by kernel_rfl)).out (d := 109) (by rw [HOPS.out]; rfl)
      exact step_value h rfl (wanted_none rfl) (run_move rfl) e53 (Below.refl _ _)
    ·
      have h := ho
      rw [HOPS.out] at ho
      simp only [List.getElem?_toArray, List.getElem?_cons_succ, List.getElem?_cons_zero, List.append_eq, List.cons_append, List.nil_append, Option.some.injEq] at ho
      subst ho
      obtain rfl := Option.some.inj hd
      have e54 : a.tmps.getD 110 undef = .bool true := (hk 54 (by kernel_rfl)).out (d := 110) (by rw [HOPS.out]; rfl)
      have b17 : a.tmps.getD 17 undef = .int .i64 0 := (hf.same 17 (by rw [HOPS.out]; exact not_dst (by kernel_rfl))).trans rfl
      exact step_value h rfl (wanted_some rfl (show dstOf ops 54 = some 110 by rw [HOPS.out]; rfl) (by rw [hN]; decide) e54) (run_move rfl) b17 (Below.refl _ _)
    ·
      have h := ho
      rw [HOPS.out] at ho
      simp only [List.getElem?_toArray, List.getElem?_cons_succ, List.getElem?_cons_zero, List.append_eq, List.cons_append, List.nil_append, Option.some.injEq] at ho
      subst ho
      obtain rfl := Option.some.inj hd
      have e54 : a.tmps.getD 110 undef = .bool true := (hk 54 (by kernel_rfl)).out (d := 110) (by rw [HOPS.out]; rfl)
      have e55 : a.tmps.getD 111 undef = .int .i64 0 := (hk 55 (by kernel_rfl)).out (d := 111) (by rw [HOPS.out]; rfl)
      refine step_value h rfl (wanted_some rfl (show dstOf ops 54 = some 110 by rw [HOPS.out]; rfl) (by rw [hN]; decide) e54) (v := .bool true) (w1 := w) ?_ rfl (Below.refl _ _)
      have q55 := getq hN (by decide) e55
      clear hk h hN hf hI
      go_simp
    ·
      have h := ho
      rw [HOPS.out] at ho
      simp only [List.getElem?_toArray, List.getElem?_cons_succ, List.getElem?_cons_zero, List.append_eq, List.cons_append, List.nil_append, Option.some.injEq] at ho
      subst ho
      obtain rfl := Option.some.inj hd
      have e54 : a.tmps.getD 110 undef = .bool true := (hk 54 (by kernel_rfl)).out (d := 110) (by rw [HOPS.out]; rfl)
      have e56 : a.tmps.getD 112 undef = .bool true := (hk 56 (by kernel_rfl)).out (d := 112) (by rw [HOPS.out]; rfl)
      exact step_value h rfl (wanted_none rfl) (run_pick rfl e54) e56 (Below.refl _ _)
    ·
      have h := ho
      rw [HOPS.out] at ho
      simp only [List.getElem?_toArray, List.getElem?_cons_succ, List.getElem?_cons_zero, List.append_eq, List.cons_append, List.nil_append, Option.some.injEq] at ho
      subst ho
      obtain rfl := Option.some.inj hd
      have e57 : a.tmps.getD 113 undef = .bool true := (hk 57 (by kernel_rfl)).out (d := 113) (by rw [HOPS.out]; rfl)
      exact step_value h rfl (wanted_none rfl) (run_move rfl) e57 (Below.refl _ _)
    ·
      have h := ho
      rw [HOPS.out] at ho
      simp only [List.getElem?_toArray, List.getElem?_cons_succ, List.getElem?_cons_zero, List.append_eq, List.cons_append, List.nil_append, Option.some.injEq] at ho
      subst ho
      obtain rfl := Option.some.inj hd
      have e58 : a.tmps.getD 114 undef = .bool true := (hk 58 (by kernel_rfl)).out (d := 114) (by rw [HOPS.out]; rfl)
      have b16 : a.tmps.getD 16 undef = .pointer (some ⟨gs, 0, none⟩) := (hf.same 16 (by rw [HOPS.out]; exact not_dst (by kernel_rfl))).trans rfl
      have x0 : w.cell? ⟨gs, 0, none⟩ = some (.int .i64 7) := (blk_cell hI.1 0).trans rfl
      have x1 : w.cell? ⟨gs, 1, none⟩ = some (.int .i64 1) := (blk_cell hI.1 1).trans rfl
      have x2 : w.cell? ⟨gs, 2, none⟩ = some (.int .i64 500) := (blk_cell hI.1 2).trans rfl
      have x3 : w.cell? ⟨gs, 3, none⟩ = some (.int .i64 76) := (blk_cell hI.1 3).trans rfl
      have x4 : w.cell? ⟨gs, 4, none⟩ = some (.int .i64 1000) := (blk_cell hI.1 4).trans rfl
      have x5 : w.cell? ⟨gs, 5, none⟩ = some (.int .i64 10) := (blk_cell hI.1 5).trans rfl
      have x6 : w.cell? ⟨gs, 6, none⟩ = some (.int .i64 2) := (blk_cell hI.1 6).trans rfl
      have x7 : w.cell? ⟨gs, 7, none⟩ = some (.int .i64 1) := (blk_cell hI.1 7).trans rfl
      have x8 : w.cell? ⟨gs, 8, none⟩ = some (.int .i64 1) := (blk_cell hI.1 8).trans rfl
      have x9 : w.cell? ⟨gs, 9, none⟩ = some (.int .i64 1) := (blk_cell hI.1 9).trans rfl
      have x10 : w.cell? ⟨gs, 10, none⟩ = some (.int .i64 3) := (blk_cell hI.1 10).trans rfl
      have x11 : w.cell? ⟨gs, 11, none⟩ = some (.int .i64 70000) := (blk_cell hI.1 11).trans rfl
      have x12 : w.cell? ⟨gs, 12, none⟩ = some (.slice A 1 cA) := (blk_cell hI.1 12).trans rfl
      have x13 : w.cell? ⟨gs, 13, none⟩ = some (.slice B 1 cB) := (blk_cell hI.1 13).trans rfl
      have x14 : w.cell? ⟨gs, 14, none⟩ = some (.bool true) := (blk_cell hI.1 14).trans rfl
      refine step_value h rfl (wanted_some rfl (show dstOf ops 58 = some 114 by rw [HOPS.out]; rfl) (by rw [hN]; decide) e58) (v := .agg #[.int .i64 7, .int .i64 1, .int .i64 500, .int .i64 76, .int .i64 1000, .int .i64 10, .int .i64 2, .int .i64 1, .int .i64 1, .int .i64 1, .int .i64 3, .int .i64 70000, .slice A 1 cA, .slice B 1 cB, .bool true]) (w1 := w) ?_ rfl (Below.refl _ _)
      have q16 := getq hN (by decide) b16
      clear hk h hN hf hI
      go_simp
    ·
      have h := ho
      rw [HOPS.out] at ho
      simp only [List.getElem?_toArray, List.getElem?_cons_succ, List.getElem?_cons_zero, List.append_eq, List.cons_append, List.nil_append, Option.some.injEq] at ho
      subst ho
      obtain rfl := Option.some.inj hd
      have e58 : a.tmps.getD 114 undef = .bool true := (hk 58 (by kernel_rfl)).out (d := 114) (by rw [HOPS.out]; rfl)
      exact step_call h rfl (wanted_some rfl (show dstOf ops 58 = some 114 by rw [HOPS.out]; rfl) (by rw [hN]; decide) e58) Try.func34 (by kernel_rfl) rfl #[.int .i64 7] rfl (by simp only [List.map_toArray, List.map_cons, List.map_nil, Act.eval]) ((aw_one w).mono fun e w' ⟨he, hb⟩ => ⟨_, he, rfl, hb⟩)
    ·
      have h := ho
      rw [HOPS.out] at ho
      simp only [List.getElem?_toArray, List.getElem?_cons_succ, List.getElem?_cons_zero, List.append_eq, List.cons_append, List.nil_append, Option.some.injEq] at ho
      subst ho
      obtain rfl := Option.some.inj hd
      have e58 : a.tmps.getD 114 undef = .bool true := (hk 58 (by kernel_rfl)).out (d := 114) (by rw [HOPS.out]; rfl)
      refine step_value h rfl (wanted_some rfl (show dstOf ops 58 = some 114 by rw [HOPS.out]; rfl) (by rw [hN]; decide) e58) (v := (.slice (some ⟨w.heap.size, 0, none⟩) 1 1)) (w1 := (w.alloc (.cells #[.int .i64 1] 3))) ?_ ⟨_, _, rfl, Nat.le_refl _, C_one (heap_alloc_new w _) rfl⟩ (below_alloc (Below.refl _ _) _)
      clear hk h hN hf hI
      go_simp
    ·
      have h := ho
      rw [HOPS.out] at ho
      simp only [List.getElem?_toArray, List.getElem?_cons_succ, List.getElem?_cons_zero, List.append_eq, List.cons_append, List.nil_append, Option.some.injEq] at ho
      subst ho
      obtain rfl := Option.some.inj hd
      have e58 : a.tmps.getD 114 undef = .bool true := (hk 58 (by kernel_rfl)).out (d := 114) (by rw [HOPS.out]; rfl)
      refine step_value h rfl (wanted_some rfl (show dstOf ops 58 = some 114 by rw [HOPS.out]; rfl) (by rw [hN]; decide) e58) (v := (.slice (some ⟨w.heap.size, 0, none⟩) 1 1)) (w1 := (w.alloc (.cells #[.int .i64 1] 3))) ?_ ⟨_, _, rfl, Nat.le_refl _, C_one (heap_alloc_new w _) rfl⟩ (below_alloc (Below.refl _ _) _)
      clear hk h hN hf hI
      go_simp
    ·
      have h := ho
      rw [HOPS.out] at ho
      simp only [List.getElem?_toArray, List.getElem?_cons_succ, List.getElem?_cons_zero, List.append_eq, List.cons_append, List.nil_append, Option.some.injEq] at ho
      subst ho
      obtain rfl := Option.some.inj hd
      have e58 : a.tmps.getD 114 undef = .bool true := (hk 58 (by kernel_rfl)).out (d := 114) (by rw [HOPS.out]; rfl)
      have e60 : a.tmps.getD 116 undef = .agg #[.int .i64 7, .int .i64 1, .int .i64 500, .int .i64 76, .int .i64 1000, .int .i64 10, .int .i64 2, .int .i64 1, .int .i64 1, .int .i64 1, .int .i64 3, .int .i64 70000] := (hk 60 (by kernel_rfl)).out (d := 116) (by rw [HOPS.out]; rfl)
      have e61 : ∃ A_ c_, a.tmps.getD 117 undef = .slice A_ 1 c_ ∧ 1 ≤ c_ ∧ (Kd.int .i64).C w A_ 1 [1] := (hk 61 (by kernel_rfl)).out (d := 117) (by rw [HOPS.out]; rfl)
      obtain ⟨A61, c61, e61, hc61, hC61⟩ := e61
      have e62 : ∃ A_ c_, a.tmps.getD 118 undef = .slice A_ 1 c_ ∧ 1 ≤ c_ ∧ (Kd.int .i64).C w A_ 1 [1] := (hk 62 (by kernel_rfl)).out (d := 118) (by rw [HOPS.out]; rfl)
      obtain ⟨A62, c62, e62, hc62, hC62⟩ := e62
      refine step_value h rfl (wanted_some rfl (show dstOf ops 58 = some 114 by rw [HOPS.out]; rfl) (by rw [hN]; decide) e58) (v := .agg #[.int .i64 7, .int .i64 1, .int .i64 500, .int .i64 76, .int .i64 1000, .int .i64 10, .int .i64 2, .int .i64 1, .int .i64 1, .int .i64 1, .int .i64 3, .int .i64 70000, .slice A61 1 c61, .slice A62 1 c62, .bool true]) (w1 := w) ?_ ⟨A61, c61, A62, c62, rfl, ⟨hc61, hC61⟩, hc62, hC62⟩ (Below.refl _ _)
      have q60 := getq hN (by decide) e60
      have q61 := getq hN (by decide) e61
      have q62 := getq hN (by decide) e62
      clear hk h hN hf hI
      go_simp
    ·
      have h := ho
      rw [HOPS.out] at ho
      simp only [List.getElem?_toArray, List.getElem?_cons_succ, List.getElem?_cons_zero, List.append_eq, List.cons_append, List.nil_append, Option.some.injEq] at ho
      subst ho
      obtain rfl := Option.some.inj hd
      have e58 : a.tmps.getD 114 undef = .bool true := (hk 58 (by kernel_rfl)).out (d := 114) (by rw [HOPS.out]; rfl)
      have e59 : a.tmps.getD 115 undef = .agg #[.int .i64 7, .int .i64 1, .int .i64 500, .int .i64 76, .int .i64 1000, .int .i64 10, .int .i64 2, .int .i64 1, .int .i64 1, .int .i64 1, .int .i64 3, .int .i64 70000, .slice A 1 cA, .slice B 1 cB, .bool true] := (hk 59 (by kernel_rfl)).out (d := 115) (by rw [HOPS.out]; rfl)
      have e63 : ∃ A_ a_ B_ b_, a.tmps.getD 119 undef = .agg #[.int .i64 7, .int .i64 1, .int .i64 500, .int .i64 76, .int .i64 1000, .int .i64 10, .int .i64 2, .int .i64 1, .int .i64 1, .int .i64 1, .int .i64 3, .int .i64 70000, .slice A_ 1 a_, .slice B_ 1 b_, .bool true] ∧ (1 ≤ a_ ∧ (Kd.int .i64).C w A_ 1 [1]) ∧ 1 ≤ b_ ∧ (Kd.int .i64).C w B_ 1 [1] := (hk 63 (by kernel_rfl)).out (d := 119) (by rw [HOPS.out]; rfl)
      obtain ⟨A63, a63, B63, b63, e63, ⟨hA63, hAC63⟩, hB63, hBC63⟩ := e63
      exact step_call h rfl (wanted_some rfl (show dstOf ops 58 = some 114 by rw [HOPS.out]; rfl) (by rw [hN]; decide) e58) Try.func22 (by kernel_rfl) rfl #[.agg #[.int .i64 7, .int .i64 1, .int .i64 500, .int .i64 76, .int .i64 1000, .int .i64 10, .int .i64 2, .int .i64 1, .int .i64 1, .int .i64 1, .int .i64 3, .int .i64 70000, .slice A 1 cA, .slice B 1 cB, .bool true], .agg #[.int .i64 7, .int .i64 1, .int .i64 500, .int .i64 76, .int .i64 1000, .int .i64 10, .int .i64 2, .int .i64 1, .int .i64 1, .int .i64 1, .int .i64 3, .int .i64 70000, .slice A63 1 a63, .slice B63 1 b63, .bool true]] rfl (by simp only [List.map_toArray, List.map_cons, List.map_nil, Act.eval, e59, e63]) ((aw_same hI.2.2.1.2 hI.2.2.1.1 hI.2.2.2.1.2 hI.2.2.2.1.1 hAC63 hA63 hBC63 hB63).mono fun e w' ⟨he, hb⟩ => ⟨_, he, rfl, hb⟩)
    ·
      have h := ho
      rw [HOPS.out] at ho
      simp only [List.getElem?_toArray, List.getElem?_cons_succ, List.getElem?_cons_zero, List.append_eq, List.cons_append, List.nil_append, Option.some.injEq] at ho
      subst ho
      obtain rfl := Option.some.inj hd
      have e58 : a.tmps.getD 114 undef = .bool true := (hk 58 (by kernel_rfl)).out (d := 114) (by rw [HOPS.out]; rfl)
      have e64 : a.tmps.getD 120 undef = .bool true := (hk 64 (by kernel_rfl)).out (d := 120) (by rw [HOPS.out]; rfl)
      exact step_value h rfl (wanted_none rfl) (run_pick rfl e58) e64 (Below.refl _ _)
    ·
      have h := ho
      rw [HOPS.out] at ho
      simp only [List.getElem?_toArray, List.getElem?_cons_succ, List.getElem?_cons_zero, List.append_eq, List.cons_append, List.nil_append, Option.some.injEq] at ho
      subst ho
      obtain rfl := Option.some.inj hd
      have e65 : a.tmps.getD 121 undef = .bool true := (hk 65 (by kernel_rfl)).out (d := 121) (by rw [HOPS.out]; rfl)
      exact step_value h rfl (wanted_none rfl) (run_move rfl) e65 (Below.refl _ _)
    ·
      have h := ho
      rw [HOPS.out] at ho
      simp only [List.getElem?_toArray, List.getElem?_cons_succ, List.getElem?_cons_zero, List.append_eq, List.cons_append, List.nil_append, Option.some.injEq] at ho
      subst ho
      obtain rfl := Option.some.inj hd
      have e66 : a.tmps.getD 122 undef = .bool true := (hk 66 (by kernel_rfl)).out (d := 122) (by rw [HOPS.out]; rfl)
      have b1 : a.tmps.getD 1 undef = .pointer (some ⟨pb, 0, none⟩) := (hf.same 1 (by rw [HOPS.out]; exact not_dst (by kernel_rfl))).trans rfl
      exact step_value h rfl (wanted_some rfl (show dstOf ops 66 = some 122 by rw [HOPS.out]; rfl) (by rw [hN]; decide) e66) (run_move rfl) b1 (Below.refl _ _)
    ·
      have h := ho
      rw [HOPS.out] at ho
      simp only [List.getElem?_toArray, List.getElem?_cons_succ, List.getElem?_cons_zero, List.append_eq, List.cons_append, List.nil_append, Option.some.injEq] at ho
      subst ho
      obtain rfl := Option.some.inj hd
      have e66 : a.tmps.getD 122 undef = .bool true := (hk 66 (by kernel_rfl)).out (d := 122) (by rw [HOPS.out]; rfl)
      have e67 : a.tmps.getD 123 undef = .pointer (some ⟨pb, 0, none⟩) := (hk 67 (by kernel_rfl)).out (d := 123) (by rw [HOPS.out]; rfl)
      obtain ⟨P_, hP_⟩ := hI.2.2.2.2
      exact step_call h rfl (wanted_some rfl (show dstOf ops 66 = some 122 by rw [HOPS.out]; rfl) (by rw [hN]; decide) e66) Try.func23 (by kernel_rfl) rfl #[.pointer (some ⟨pb, 0, none⟩), .int .i64 7, .int .i64 9] rfl (by simp only [List.map_toArray, List.map_cons, List.map_nil, Act.eval, e67]) ((aw_last hP_).mono fun e w' ⟨he, hb⟩ => ⟨_, he, rfl, hb⟩)
    ·
      have h := ho
      rw [HOPS.out] at ho
      simp only [List.getElem?_toArray, List.getElem?_cons_succ, List.getElem?_cons_zero, List.append_eq, List.cons_append, List.nil_append, Option.some.injEq] at ho
      subst ho
      obtain rfl := Option.some.inj hd
      have e66 : a.tmps.getD 122 undef = .bool true := (hk 66 (by kernel_rfl)).out (d := 122) (by rw [HOPS.out]; rfl)
      have e68 : a.tmps.getD 124 undef = .int .i64 33 := (hk 68 (by kernel_rfl)).out (d := 124) (by rw [HOPS.out]; rfl)
      refine step_value h rfl (wanted_some rfl (show dstOf ops 66 = some 122 by rw [HOPS.out]; rfl) (by rw [hN]; decide) e66) (v := .bool true) (w1 := w) ?_ rfl (Below.refl _ _)
      have q68 := getq hN (by decide) e68
      clear hk h hN hf hI
      go_simp
    ·
      have h := ho
      rw [HOPS.out] at ho
      simp only [List.getElem?_toArray, List.getElem?_cons_succ, List.getElem?_cons_zero, List.append_eq, List.cons_append, List.nil_append, Option.some.injEq] at ho
      subst ho
      obtain rfl := Option.some.inj hd
      have e66 : a.tmps.getD 122 undef = .bool true := (hk 66 (by kernel_rfl)).out (d := 122) (by rw [HOPS.out]; rfl)
      have e69 : a.tmps.getD 125 undef = .bool true := (hk 69 (by kernel_rfl)).out (d := 125) (by rw [HOPS.out]; rfl)
      exact step_value h rfl (wanted_none rfl) (run_pick rfl e66) e69 (Below.refl _ _)
    ·
      have h := ho
      rw [HOPS.out] at ho
      simp only [List.getElem?_toArray, List.getElem?_cons_succ, List.getElem?_cons_zero, List.append_eq, List.cons_append, List.nil_append, Option.some.injEq] at ho
      subst ho
      obtain rfl := Option.some.inj hd
      have e70 : a.tmps.getD 126 undef = .bool true := (hk 70 (by kernel_rfl)).out (d := 126) (by rw [HOPS.out]; rfl)
      exact step_value h rfl (wanted_none rfl) (run_assign rfl) e70 (Below.refl _ _)
  · intro a w' hf hI hk
    have e0 : a.tmps.getD 0 undef = .bool true := (hk 71 (by rw [HOPS.out]; decide)).out (d := 0) (by rw [HOPS.out]; rfl)
    obtain ⟨P_, hP_⟩ := hI.2.2.2.2
    have hbw := hP_.b
    have q0 := getq (hf.size.trans rfl : a.tmps.size = 127) (by decide) e0
    have hd0 := hf.defers
    clear hI hk hf hP_
    go_wp2
    exact ⟨hd0, .bool true, by simp [results, Try.results13, go_sem, q0], rfl, hbw⟩
def papermilllaw51_awake.f : Option Bool := some true
theorem papermilllaw51_awake.calls (r : Bool) (w : World) (h : papermilllaw51_awake.f = some r) : Calls Try.prog 13 #[] w fun e w' => e = .returned (.bool r) ∧ Below w.heap.size w w' := by
  obtain rfl := Option.some.inj (show some true = some r from h)
  exact aw_all w
end Go.Proofs.Ythmhehfbepijgaa.Q
