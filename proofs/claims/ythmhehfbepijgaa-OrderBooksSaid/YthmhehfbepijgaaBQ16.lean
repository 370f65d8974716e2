import Derived.Test.YthmhehfbepijgaaBQ0
import Derived.Test.YthmhehfbepijgaaBQ2
import Derived.Test.YthmhehfbepijgaaBR12
import Derived.Test.YthmhehfbepijgaaBQ5
import Derived.Test.YthmhehfbepijgaaBQ6
import Derived.Test.YthmhehfbepijgaaBQ7
import Derived.Test.YthmhehfbepijgaaBQ8
import Derived.Test.YthmhehfbepijgaaBQ9
import Derived.Test.YthmhehfbepijgaaBQ11
import Derived.Test.YthmhehfbepijgaaBQ12
namespace Go.Proofs.Ythmhehfbepijgaa.Q
open Go.RowKit Go.Proofs.YthmhehfbepijgaaW.PrintWords Go.Proofs.YthmhehfbepijgaaW.PrintLast Go.Proofs.YthmhehfbepijgaaW.PrintMore
attribute [local go_sem] max2_int min2_int max_two min_two max_three min_three max_four min_four
set_option linter.unusedVariables false
set_option linter.unusedSimpArgs false
theorem Bk.Inv.copy {B : Bk} {T n : Nat} (hi : B.Inv T) (hn : n ≤ 100 * T) : (⟨B.es, n, B.asg⟩ : Bk).Inv T := ⟨hi.es, hn, hi.ent, hi.ids, hi.bwd⟩
section
open Go Go.Maps Go.ChangeMaps Go.MapKept Plm
variable {P : Program} {k e : TypeId} {w : World} {b n : Nat} {f : Int → Option (Int × Bool)} {ops : Array Oper} {o : Oper} {a : Act} {Q : Exit → Act → World → Prop} {Kc : Act → World → Prop}
end
def copy.T12 : Bool × List (List Nat × List Nat) := (true, [([], []), ([0], [0]), ([1], [1]), ([2], [2]), ([], []), ([], []), ([], []), ([6], [6]), ([7], [7]), ([8], [8]), ([], []), ([9, 10], [9, 10]), ([11], [11]), ([5, 12], [5, 12]), ([3, 4, 13, 0, 1, 2, 3, 4, 5, 6, 7, 8, 9, 10, 11, 12, 13], [3, 4, 13])])
def copy.B12 : List Nat := [0, 1, 3, 7, 0, 0, 0, 64, 192, 448, 0, 1984, 4032, 8160, 16383]
theorem copy.tab12 : rtab .any (opsOf Try.f32 12) = copy.T12 := by kernel_rfl
theorem copy.bits12 : waitsOk copy.T12.2 copy.B12 = true := by kernel_rfl
def LQ (W0 : World) (Q0 : Nat → Prop) (wl : World) (pb pm : Nat) (w : World) (B : Bk) : Prop := ∃ Q, LB W0 Q pb pm w B ∧ KeptB wl w Q0 ∧ ∀ k, Q k → Q0 k ∨ wl.heap.size ≤ k
section
variable {W0 wl w w' : World} {P Q0 S : Nat → Prop} {pb pm : Nat} {B : Bk}
theorem LQ.start (h : LB W0 Q0 pb pm w B) : LQ W0 Q0 w pb pm w B := ⟨Q0, h, KeptB.refl w Q0, fun _ hk => .inl hk⟩
theorem LQ.do_ {T : Nat} (h : LQ W0 Q0 wl pb pm w B) (hi : B.Inv T) (hT : T ≤ 900) (x : S35) (hw : (Lit.int .i64 x.f3).wf = true) :
    Calls Try.prog 16 #[.pointer (some ⟨pb, 0, none⟩), .agg #[.int .i64 x.f0, .int .i64 x.f1.f0, .int .i64 x.f1.f1, .int .i64 x.f1.f2, .int .i64 x.f1.f3, .int .i64 x.f1.f4, .int .i64 x.f1.f5, .int .i64 x.f1.f6, .int .i64 x.f1.f7, .int .i64 x.f1.f8, .int .i64 x.f1.f9, .int .i64 x.f1.f10, .int .i64 x.f1.f11, .int .i64 x.f2, .int .i64 x.f3]] w fun e w' => e = .returned (.int .i64 (B.do_ x).2) ∧ LQ W0 Q0 wl pb pm w' (B.do_ x).1 := by
  obtain ⟨Q, h1, h2, h3⟩ := h
  refine (h1.do_ hi hT x hw).mono ?_
  rintro e w' ⟨he, Q', g1, g2, g3⟩
  refine ⟨he, Q', g1, h2.then_ g2 h3, fun k hk => (g3 k hk).elim (h3 k) (fun q => .inr (Nat.le_trans h2.size q))⟩
theorem LB.kept (h : LB W0 P pb pm w B) (hk : KeptB w w' S) (hs : ∀ k, P k → ¬ S k) (hS : ∀ k, S k → W0.heap.size ≤ k) : LB W0 P pb pm w' B := by
  obtain ⟨⟨ve, h1⟩, h2, h3⟩ := h
  exact ⟨⟨ve, h1.kept hk.k hs⟩, h2.trans (hk.below hS (below_size h2)), fun k hk' => ⟨(h3 k hk').1, Nat.lt_of_lt_of_le (h3 k hk').2 hk.size⟩⟩
end
end Go.Proofs.Ythmhehfbepijgaa.Q
