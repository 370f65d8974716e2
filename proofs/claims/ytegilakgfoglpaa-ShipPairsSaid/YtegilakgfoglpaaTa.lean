/- Plain laws on shipments: the closed example, and short words on lists. -/
import Derived.Test.YtegilakgfoglpaaQ6
import Derived.Test.YtegilakgfoglpaaGd
namespace Go.Proofs.Ytegilakgfoglpaa.Pl
open Go.RowKit Go.Proofs.Ytegilakgfoglpaa.Opn Go.Proofs.Ytegilakgfoglpaa.Q Go.Proofs.Ytegilakgfoglpaa.Gd Go.Proofs.YtegilakgfoglpaaW.PrintWords

section
variable {α β : Type}
theorem Ev.pos {c : Prop} [Decidable c] {a b : Nat → Option α} {r : α} (h : c) (k : Ev a r) : Ev (fun n => if c then a n else b n) r := Ev.congr (fun n => by rw [if_pos h]) k
theorem Ev.neg {c : Prop} [Decidable c] {a b : Nat → Option α} {r : α} (h : ¬ c) (k : Ev b r) : Ev (fun n => if c then a n else b n) r := Ev.congr (fun n => by rw [if_neg h]) k
theorem Ev.sb {a : β} {o : Nat → Option β} {f : Nat → β → Option α} {r : α} (h : ∀ n, o n = some a) (k : Ev (fun n => f n a) r) : Ev (fun n => (o n).bind (f n)) r := Ev.congr (fun n => by rw [h n, Option.bind_some]) k
theorem Ev.c {r : α} {a : α} (h : a = r) : Ev (fun _ => some a) r := h ▸ Ev.now a
theorem Ev.iteE {c : Prop} [Decidable c] {a b : Nat → Option α} {r r' : α} (h : c → Ev a r) (k : ¬ c → Ev b r') : Ev (fun n => if c then a n else b n) (if c then r else r') := by
  by_cases d : c
  · have := Ev.pos (b := b) d (h d)
    rwa [show (if c then r else r') = r from if_pos d]
  · have := Ev.neg (a := a) d (k d)
    rwa [show (if c then r else r') = r' from if_neg d]
theorem Ev.unique {g : Nat → Option α} {r r' : α} (h : Ev g r) (h' : Ev g r') : r = r' := by
  obtain ⟨K, hK⟩ := h
  obtain ⟨K', hK'⟩ := h'
  have h1 := hK (max K K') (Nat.le_max_left _ _)
  have h2 := hK' (max K K') (Nat.le_max_right _ _)
  rw [h1] at h2
  exact Option.some.inj h2
end

theorem wrap_next {α : Type} {l pre post : List α} {x : α} (h : l = pre ++ x :: post) (hl : l.length ≤ 9223372036854775807) : wrap64 ((pre.length : Int) + 1) = ((pre ++ [x]).length : Int) := by
  subst h
  simp only [List.length_append, List.length_cons, List.length_nil] at hl ⊢
  unfold wrap64
  omega
theorem wrap_nat {n j : Nat} (h : j < n) (hn : n ≤ 9223372036854775807) : wrap64 ((j : Int) + 1) = ((j + 1 : Nat) : Int) := by
  unfold wrap64
  omega
theorem lt_at {α : Type} {l pre post : List α} {x : α} (h : l = pre ++ x :: post) : (pre.length : Int) < (l.length : Int) := by
  subst h
  simp only [List.length_append, List.length_cons]
  omega
theorem app_one {α : Type} {l pre post : List α} {x : α} (h : l = pre ++ x :: post) : l = (pre ++ [x]) ++ post := by simp [h]
theorem nlt_end {α : Type} {l pre : List α} (h : l = pre ++ []) : ¬ (pre.length : Int) < (l.length : Int) := by
  subst h
  simp
theorem mem_at {α : Type} {l pre post : List α} {x : α} (h : l = pre ++ x :: post) : x ∈ l := by simp [h]
theorem rd_at {l pre post : List Int} {x : Int} (h : l = pre ++ x :: post) : rd l (pre.length : Int) = x := by subst h; simp [rd]
theorem rd44_at {l pre post : List S44} {x : S44} (h : l = pre ++ x :: post) : rd_T44 l (pre.length : Int) = x := by subst h; simp [rd_T44]
theorem rd39_at {l pre post : List S39} {x : S39} (h : l = pre ++ x :: post) : rd_T39 l (pre.length : Int) = x := by subst h; simp [rd_T39]

/-! ### The closed example -/
set_option maxRecDepth 100000 in
theorem awake_at : papermilllaw56_awake.f 60 = some true := by kernel_rfl
theorem awake_eq : Ev (fun k => papermilllaw56_awake.f k) true := Ev.of (fun k => papermilllaw56_awake.mono k) awake_at
end Go.Proofs.Ytegilakgfoglpaa.Pl
