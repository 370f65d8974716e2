import Derived.Test.YthmhehfbepijgaaBQ0
import Derived.Test.YthmhehfbepijgaaBR12
import Derived.Test.YthmhehfbepijgaaBQ5
import Derived.Test.YthmhehfbepijgaaBQ6
import Derived.Test.YthmhehfbepijgaaBQ7
import Derived.Test.YthmhehfbepijgaaBQ8
import Derived.Test.YthmhehfbepijgaaBQ9
import Derived.Test.YthmhehfbepijgaaBQ11
import Derived.Test.YthmhehfbepijgaaBQ12
import Derived.Test.YthmhehfbepijgaaBQ16
import Derived.Test.YthmhehfbepijgaaBT37
import Derived.Test.YthmhehfbepijgaaBT39
import Derived.Test.YthmhehfbepijgaaBT40
namespace Go.Proofs.Ythmhehfbepijgaa.Q
open Go.RowKit Go.Proofs.YthmhehfbepijgaaW.PrintWords Go.Proofs.YthmhehfbepijgaaW.PrintLast Go.Proofs.YthmhehfbepijgaaW.PrintMore
attribute [local go_sem] max2_int min2_int max_two min_two max_three min_three max_four min_four
set_option linter.unusedVariables false
set_option linter.unusedSimpArgs false
set_option maxHeartbeats 16000000 in
def BR (W0 : World) (pb pm pr : Nat) (w : World) (B C : Bk) : Prop := ∃ P R, LB W0 P pb pm w B ∧ RL W0 R pr w C.all ∧ ∀ k, P k → ¬ R k
section
variable {W0 w w1 : World} {pb pm pr : Nat} {B C : Bk} {T : Nat}
theorem LB.keptR {P S : Nat → Prop} (h : LB W0 P pb pm w B) (hk : KeptB w w1 S) (hs : ∀ k, P k → ¬ S k) (hS : ∀ k, S k → W0.heap.size ≤ k) : LB W0 P pb pm w1 B := by
  obtain ⟨⟨ve, h1⟩, h2, h3⟩ := h
  exact ⟨⟨ve, h1.kept hk.k hs⟩, h2.trans (hk.below hS (below_size h2)), fun k hk' => ⟨(h3 k hk').1, Nat.lt_of_lt_of_le (h3 k hk').2 hk.size⟩⟩
theorem BR.below (h : BR W0 pb pm pr w B C) (hb : Below w.heap.size w w1) : BR W0 pb pm pr w1 B C := by
  obtain ⟨P, R, h1, h2, h3⟩ := h
  exact ⟨P, R, h1.below hb, h2.below hb, h3⟩
theorem BR.b (h : BR W0 pb pm pr w B C) : Below W0.heap.size W0 w := by
  obtain ⟨P, R, h1, _, _⟩ := h
  exact h1.b
theorem BR.do_ (h : BR W0 pb pm pr w B C) (hi : B.Inv T) (hT : T ≤ 900) (x : S35) (hw : (Lit.int .i64 x.f3).wf = true) :
    Calls Try.prog 16 #[.pointer (some ⟨pb, 0, none⟩), .agg #[.int .i64 x.f0, .int .i64 x.f1.f0, .int .i64 x.f1.f1, .int .i64 x.f1.f2, .int .i64 x.f1.f3, .int .i64 x.f1.f4, .int .i64 x.f1.f5, .int .i64 x.f1.f6, .int .i64 x.f1.f7, .int .i64 x.f1.f8, .int .i64 x.f1.f9, .int .i64 x.f1.f10, .int .i64 x.f1.f11, .int .i64 x.f2, .int .i64 x.f3]] w fun e w' => e = .returned (.int .i64 (B.do_ x).2) ∧ BR W0 pb pm pr w' (B.do_ x).1 C := by
  obtain ⟨P, R, h1, h2, h3⟩ := h
  refine (h1.do_ hi hT x hw).mono ?_
  rintro e w' ⟨he, P', g1, g2, g3⟩
  exact ⟨he, P', R, g1, h2.kept g2 (fun k hr hp => h3 k hp hr) (fun k hp => (h1.lo k hp).1), fun k hp hr => (g3 k hp).elim (fun q => h3 k q hr) (fun q => by have := (h2.lo k hr).2; omega)⟩
theorem BR.must (h : BR W0 pb pm pr w B C) (hi : C.Inv T) (hT : T ≤ 900) (x : S35) :
    Calls Try.prog 17 #[.pointer (some ⟨pr, 0, none⟩), .agg #[.int .i64 x.f0, .int .i64 x.f1.f0, .int .i64 x.f1.f1, .int .i64 x.f1.f2, .int .i64 x.f1.f3, .int .i64 x.f1.f4, .int .i64 x.f1.f5, .int .i64 x.f1.f6, .int .i64 x.f1.f7, .int .i64 x.f1.f8, .int .i64 x.f1.f9, .int .i64 x.f1.f10, .int .i64 x.f1.f11, .int .i64 x.f2, .int .i64 x.f3]] w fun e w' => e = .returned (.int .i64 (C.do_ x).2) ∧ BR W0 pb pm pr w' B (C.do_ x).1 := by
  obtain ⟨P, R, h1, h2, h3⟩ := h
  refine (h2.must hi hT x).mono ?_
  rintro e w' ⟨he, R', g1, g2, g3⟩
  exact ⟨he, P, R', h1.keptR g2 h3 (fun k hr => (h2.lo k hr).1), g1, fun k hp hr => (g3 k hr).elim (fun q => h3 k hp q) (fun q => by have := (h1.lo k hp).2; omega)⟩
theorem BR.lb (h : BR W0 pb pm pr w B C) : ∃ P, LB W0 P pb pm w B := by
  obtain ⟨P, R, h1, _, _⟩ := h
  exact ⟨P, h1⟩
theorem BR.rl (h : BR W0 pb pm pr w B C) : ∃ R, RL W0 R pr w C.all := by
  obtain ⟨P, R, _, h2, _⟩ := h
  exact ⟨R, h2⟩
theorem BR.Find (h : BR W0 pb pm pr w B C) (n : Int) (hw : (Lit.int .i64 n).wf = true) (r : Int × Bool) (hr : B.Find n = some r) : Calls Try.prog 18 #[.pointer (some ⟨pb, 0, none⟩), .int .i64 n] w fun e w' => e = .returned (.tuple #[.int .i64 r.1, .bool r.2]) ∧ Below w.heap.size w w' := by
  obtain ⟨P, h1⟩ := h.lb
  exact LB.Find h1 n hw r hr
theorem BR.FindR (h : BR W0 pb pm pr w B C) (hi : C.Inv T) (hT : T ≤ 900) (n : Int) (r : Int × Bool) (hr : C.Find n = some r) : Calls Try.prog 19 #[.pointer (some ⟨pr, 0, none⟩), .int .i64 n] w fun e w' => e = .returned (.tuple #[.int .i64 r.1, .bool r.2]) ∧ Below w.heap.size w w' := by
  obtain ⟨R, h1⟩ := h.rl
  exact RL.Find h1 hi hT n r hr
theorem BR.All (h : BR W0 pb pm pr w B C) (hok : B.Ok) : Calls Try.prog 27 #[.pointer (some ⟨pb, 0, none⟩)] w fun e w' => ∃ A c, e = .returned (.slice A B.all.length c) ∧ (B.all.length ≤ c ∧ Kd.C k41 w' A B.all.length B.all) ∧ Below w.heap.size w w' := by
  obtain ⟨P, h1⟩ := h.lb
  refine (LB.All h1 hok).mono ?_
  rintro e w' ⟨v, rfl, hs, hb⟩
  change Kd.S k41 41 w' w.heap.size (fun _ => True) v B.all at hs
  obtain ⟨A, c, rfl⟩ := Kd.S_slice hs
  exact ⟨A, c, rfl, (Kd.S_reads' hs).2, hb⟩
theorem BR.AllR (h : BR W0 pb pm pr w B C) (hi : C.Inv T) (hT : T ≤ 900) : Calls Try.prog 28 #[.pointer (some ⟨pr, 0, none⟩)] w fun e w' => ∃ A c, e = .returned (.slice A C.all.length c) ∧ (C.all.length ≤ c ∧ Kd.C k41 w' A C.all.length C.all) ∧ Below w.heap.size w w' := by
  obtain ⟨R, h1⟩ := h.rl
  exact RL.All h1 hi hT
theorem BR.Open (h : BR W0 pb pm pr w B C) (hok : B.Ok) : Calls Try.prog 30 #[.pointer (some ⟨pb, 0, none⟩)] w fun e w' => ∃ A c, e = .returned (.slice A (B.es.map openN).length c) ∧ ((B.es.map openN).length ≤ c ∧ (Kd.int .i64).C w' A (B.es.map openN).length (B.es.map openN)) ∧ Below w.heap.size w w' := by
  obtain ⟨P, h1⟩ := h.lb
  refine (LB.Open h1 hok).mono ?_
  rintro e w' ⟨v, rfl, hs, hb⟩
  obtain ⟨A, c, rfl⟩ := Kd.R_slice hs
  exact ⟨A, c, rfl, (Kd.R_reads' hs).2, hb⟩
theorem BR.OpenR (h : BR W0 pb pm pr w B C) (hi : C.Inv T) (hT : T ≤ 900) : Calls Try.prog 31 #[.pointer (some ⟨pr, 0, none⟩)] w fun e w' => ∃ A c, e = .returned (.slice A (C.es.map openN).length c) ∧ ((C.es.map openN).length ≤ c ∧ (Kd.int .i64).C w' A (C.es.map openN).length (C.es.map openN)) ∧ Below w.heap.size w w' := by
  obtain ⟨R, h1⟩ := h.rl
  refine (RL.Open h1 hi hT).mono ?_
  rintro e w' ⟨v, rfl, hs, hb⟩
  obtain ⟨A, c, rfl⟩ := Kd.R_slice hs
  exact ⟨A, c, rfl, (Kd.R_reads' hs).2, hb⟩
theorem BR.new (W0 : World) : Calls Try.prog 14 #[] W0 fun e w' => ∃ P pb pm, e = .returned (.pointer (some ⟨pb, 0, none⟩)) ∧ LB W0 P pb pm w' Bk.new := (LB.new W0 W0 (Below.refl _ _)).mono (fun e w' ⟨P, pb, pm, he, h, _, _⟩ => ⟨P, pb, pm, he, h⟩)
theorem BR.newR {P : Nat → Prop} (h : LB W0 P pb pm w Bk.new) : Calls Try.prog 15 #[] w fun e w' => ∃ pr, e = .returned (.pointer (some ⟨pr, 0, none⟩)) ∧ BR W0 pb pm pr w' Bk.new Bk.new := by
  refine (RL.new W0 w h.b).mono ?_
  rintro e w' ⟨R, pr, rfl, h2, h3, hb⟩
  exact ⟨pr, rfl, P, R, h.below hb, h2, fun k hp hr => by have h1_ := (h.lo k hp).2; have h2_ := h3 k hr; omega⟩
theorem Bk.Inv.fewS (hi : B.Inv T) (hT : T ≤ 900) (id : Int) : Few (B.Status id).1 := by
  unfold Bk.Status
  split
  · exact ⟨show 0 < 1000 by decide, show 0 < 1000 by decide⟩
  · rename_i c0
    obtain ⟨i, x, e, hx, _⟩ := find_is c0
    show Few (B.stat (rd_T68 B.es (B.find id)))
    rw [e, rd68_of hx]
    exact hi.few hT _ (List.mem_map.2 ⟨x, List.mem_of_getElem? hx, rfl⟩)
theorem BR.Status (h : BR W0 pb pm pr w B C) (hok : B.Ok) (id : Int) (S : S41) (r : Int) (hs : B.Status id = (S, r)) : Calls Try.prog 20 #[.pointer (some ⟨pb, 0, none⟩), .int .i64 id] w fun e w' => ∃ A1 c1 A2 c2, e = .returned (.tuple #[.agg #[.int .i64 S.f0.f0, .int .i64 S.f0.f1, .int .i64 S.f0.f2, .int .i64 S.f0.f3, .int .i64 S.f0.f4, .int .i64 S.f0.f5, .int .i64 S.f0.f6, .int .i64 S.f0.f7, .int .i64 S.f0.f8, .int .i64 S.f0.f9, .int .i64 S.f0.f10, .int .i64 S.f0.f11, .slice A1 S.f1.length c1, .slice A2 S.f2.length c2, .bool S.f3], .int .i64 r]) ∧ (S.f1.length ≤ c1 ∧ (Kd.int .i64).C w' A1 S.f1.length S.f1) ∧ (S.f2.length ≤ c2 ∧ (Kd.int .i64).C w' A2 S.f2.length S.f2) ∧ Below w.heap.size w w' := by
  obtain ⟨P, h1⟩ := h.lb
  have q := LB.Status h1 hok id
  rw [hs] at q
  refine q.mono ?_
  rintro e w' ⟨v12, v13, rfl, h12, h13, hb⟩
  obtain ⟨A1, c1, rfl⟩ := Kd.R_slice h12
  obtain ⟨A2, c2, rfl⟩ := Kd.R_slice h13
  exact ⟨A1, c1, A2, c2, rfl, (Kd.R_reads' h12).2, (Kd.R_reads' h13).2, hb⟩
theorem BR.StatusR (h : BR W0 pb pm pr w B C) (hi : C.Inv T) (id : Int) (S : S41) (r : Int) (hs : C.Status id = (S, r)) : Calls Try.prog 21 #[.pointer (some ⟨pr, 0, none⟩), .int .i64 id] w fun e w' => ∃ A1 c1 A2 c2, e = .returned (.tuple #[.agg #[.int .i64 S.f0.f0, .int .i64 S.f0.f1, .int .i64 S.f0.f2, .int .i64 S.f0.f3, .int .i64 S.f0.f4, .int .i64 S.f0.f5, .int .i64 S.f0.f6, .int .i64 S.f0.f7, .int .i64 S.f0.f8, .int .i64 S.f0.f9, .int .i64 S.f0.f10, .int .i64 S.f0.f11, .slice A1 S.f1.length c1, .slice A2 S.f2.length c2, .bool S.f3], .int .i64 r]) ∧ (S.f1.length ≤ c1 ∧ (Kd.int .i64).C w' A1 S.f1.length S.f1) ∧ (S.f2.length ≤ c2 ∧ (Kd.int .i64).C w' A2 S.f2.length S.f2) ∧ Below w.heap.size w w' := by
  obtain ⟨R, h1⟩ := h.rl
  have q := RL.Status h1 hi id
  rw [hs] at q
  exact q
end
end Go.Proofs.Ythmhehfbepijgaa.Q
