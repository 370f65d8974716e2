import Derived.Test.YthmhehfbepijgaaBQ0
import Derived.Test.YthmhehfbepijgaaBQ2
import Derived.Test.YthmhehfbepijgaaBR12
import Derived.Test.YthmhehfbepijgaaBQ5
import Derived.Test.YthmhehfbepijgaaBQ6
import Derived.Test.YthmhehfbepijgaaBQ7
import Derived.Test.YthmhehfbepijgaaBQ8
import Derived.Test.YthmhehfbepijgaaBQ9
import Derived.Test.YthmhehfbepijgaaBQ11
import Derived.Test.YthmhehfbepijgaaBQ12
import Derived.Test.YthmhehfbepijgaaBT26
import Derived.Test.YthmhehfbepijgaaBT27
import Derived.Test.YthmhehfbepijgaaBT28
namespace Go.Proofs.Ythmhehfbepijgaa.Q
open Go.RowKit Go.Proofs.YthmhehfbepijgaaW.PrintWords Go.Proofs.YthmhehfbepijgaaW.PrintLast Go.Proofs.YthmhehfbepijgaaW.PrintMore
attribute [local go_sem] max2_int min2_int max_two min_two max_three min_three max_four min_four
set_option linter.unusedVariables false
set_option linter.unusedSimpArgs false
set_option maxHeartbeats 16000000 in
section
variable {B : Bk} {T : Nat} {A : Option Addr} {c : Nat}
theorem placeR_calls (hi : B.Inv T) (id : Int) (w : World) (hC : Kd.C k41 w A B.all.length B.all) (hc : B.all.length ≤ c) : Calls Try.prog 64 #[.agg #[.slice A B.all.length c], .int .i64 id] w fun e w' => e = .returned (.int .i64 (B.find id)) ∧ Below w.heap.size w w' :=
  papermillref51_place.calls 3000 A c B.all id (B.find id) w hC hc (by rw [place_f B.all id (by have := hi.allLen; omega) 3000 (by have := hi.allLen; omega), place_all])
theorem ofR_calls (hi : B.Inv T) (hT : T ≤ 900) (n : Int) (w : World) (hC : Kd.C k41 w A B.all.length B.all) (hc : B.all.length ≤ c) : Calls Try.prog 61 #[.agg #[.slice A B.all.length c], .int .i64 n] w fun e w' => e = .returned (.int .i64 (B.of n)) ∧ Below w.heap.size w w' :=
  papermillref51_of.calls 3000 A c B.all n (B.of n) w hC hc (by rw [of_f B.all n (hi.allFew hT).1 (fun x hx => ((hi.allFew hT).2 x hx).1), of_all hi])
theorem hasR_calls (l : List Int) (hl : l.length < 1000) (n : Int) (w : World) (hC : Kd.C (Kd.int .i64) w A l.length l) (hc : l.length ≤ c) : Calls Try.prog 67 #[.slice A l.length c, .int .i64 n] w fun e w' => e = .returned (.bool (decide (n ∈ l))) ∧ Below w.heap.size w w' :=
  (papermillref51_has.calls 3000 A c l n (decide (n ∈ l)) w hC hc (has_f l n (by omega) 3000 (by omega))).mono fun e w' ⟨he, hd⟩ => ⟨he, hd.below⟩
theorem wholeR_calls (hi : B.Inv T) (hT : T ≤ 900) (w : World) (hC : Kd.C k41 w A B.all.length B.all) (hc : B.all.length ≤ c) :
    Calls Try.prog 52 #[.agg #[.slice A B.all.length c]] w fun e w' => ∃ g0 c0, e = .returned (.agg #[.slice g0 B.all.length c0]) ∧ Kd.S k41a 41 w' w.heap.size (fun k => w.heap.size ≤ k ∧ k < w'.heap.size) (.slice g0 B.all.length c0) B.all ∧ Below w.heap.size w w' := by
  refine (wholeA_calls 3000 A c B.all B.all w hC hc (whole_f B.all (hi.allFew hT).1 (hi.allFew hT).2 3000 (by have := hi.allLen; omega))).mono ?_
  rintro e w' ⟨v0, rfl, hs, hb⟩
  obtain ⟨g0, c0, rfl⟩ := Kd.S_slice hs
  exact ⟨g0, c0, rfl, Kd.S_mono (Kd.S_bound hs) (fun k hk => ⟨hk.2.1, hk.2.2.1⟩), hb⟩
theorem findR_calls (hi : B.Inv T) (hT : T ≤ 900) (n : Int) (r : Int × Bool) (hr : B.Find n = some r) (w : World) (hC : Kd.C k41 w A B.all.length B.all) (hc : B.all.length ≤ c) : Calls Try.prog 43 #[.agg #[.slice A B.all.length c], .int .i64 n] w fun e w' => e = .returned (.tuple #[.int .i64 r.1, .bool r.2]) ∧ Below w.heap.size w w' :=
  papermillref51_find.calls 3000 A c B.all n r.1 r.2 w hC hc (by rw [find_f hi hT]; exact hr)
theorem addR_calls (hi : B.Inv T) (hT : T ≤ 900) (o : S23) {P : Nat → Prop} (w : World) (hs : Kd.V k41 41 w w.heap.size P (.slice A B.all.length c) B.all) :
    Calls Try.prog 55 #[.agg #[.slice A B.all.length c], .agg #[.int .i64 o.f0, .int .i64 o.f1, .int .i64 o.f2, .int .i64 o.f3, .int .i64 o.f4, .int .i64 o.f5, .int .i64 o.f6, .int .i64 o.f7, .int .i64 o.f8, .int .i64 o.f9, .int .i64 o.f10, .int .i64 o.f11]] w fun e w' => ∃ v0, e = .returned (.tuple #[.agg #[v0], .int .i64 (B.Add o).2]) ∧ Kd.V k41 41 w' w.heap.size (fun k => P k ∨ w.heap.size ≤ k) v0 (B.Add o).1.all ∧ Below w.heap.size w w' :=
  papermillref51_add.calls 3000 P A c B.all o.f0 o.f1 o.f2 o.f3 o.f4 o.f5 o.f6 o.f7 o.f8 o.f9 o.f10 o.f11 (B.Add o).1.all (B.Add o).2 w hs (add_f hi hT o)
end
theorem of_find {B : Bk} {T : Nat} (hi : B.Inv T) {n : Int} : (B.of n < 0 ∧ (B.held n).2 = 7 ∧ B.asg n = none) ∨ ∃ (i : Nat) (x : S68) (s : Bool), B.of n = (i : Int) ∧ B.es[i]? = some x ∧ n ∈ x.f1 ∧ B.asg n = some ((i : Int), s) := by
  unfold Bk.of Bk.held
  cases ha : B.asg n with
  | none => exact .inl ⟨by decide, rfl, rfl⟩
  | some p =>
    obtain ⟨k, s⟩ := p
    obtain ⟨i, x, rfl, hx, hm⟩ := hi.bwd n k s ha
    exact .inr ⟨i, x, s, rfl, hx, hm, rfl⟩
end Go.Proofs.Ythmhehfbepijgaa.Q
