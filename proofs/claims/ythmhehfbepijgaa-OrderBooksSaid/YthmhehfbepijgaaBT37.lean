import Derived.Test.YthmhehfbepijgaaBQ0
import Derived.Test.YthmhehfbepijgaaBQ2
import Derived.Test.YthmhehfbepijgaaBR12
import Derived.Test.YthmhehfbepijgaaBQ5
import Derived.Test.YthmhehfbepijgaaBQ6
import Derived.Test.YthmhehfbepijgaaBQ7
import Derived.Test.YthmhehfbepijgaaBQ8
import Derived.Test.YthmhehfbepijgaaBQ9
import Derived.Test.YthmhehfbepijgaaBQ11
import Derived.Test.YthmhehfbepijgaaBQ12
import Derived.Test.YthmhehfbepijgaaBQ16
import Derived.Test.YthmhehfbepijgaaBT26
import Derived.Test.YthmhehfbepijgaaBT27
import Derived.Test.YthmhehfbepijgaaBT29
import Derived.Test.YthmhehfbepijgaaBT32
import Derived.Test.YthmhehfbepijgaaBT33
import Derived.Test.YthmhehfbepijgaaBT34
import Derived.Test.YthmhehfbepijgaaBT35
import Derived.Test.YthmhehfbepijgaaBT36
namespace Go.Proofs.Ythmhehfbepijgaa.Q
open Go.RowKit Go.Proofs.YthmhehfbepijgaaW.PrintWords Go.Proofs.YthmhehfbepijgaaW.PrintLast Go.Proofs.YthmhehfbepijgaaW.PrintMore
attribute [local go_sem] max2_int min2_int max_two min_two max_three min_three max_four min_four
set_option linter.unusedVariables false
set_option linter.unusedSimpArgs false
set_option maxHeartbeats 16000000 in
theorem open_l0 (L : List S41) (hb : L.length ≤ 1000) : ∀ (m k i : Nat) (acc : List Int), i + m = L.length → m < k → acc.length ≤ i → papermillref51_open.l0 k acc (i : Int) L = some (acc ++ (L.drop i).map fun y => if y.f3 = true then 0 else mx 0 (wrap64 (y.f0.f6 - (y.f1.length : Int))))
  | m, 0, i, _, _, h, _ => absurd h (Nat.not_lt_zero _)
  | 0, k + 1, i, acc, h, _, _ => by
    unfold papermillref51_open.l0
    rw [if_neg (by omega), List.drop_eq_nil_of_le (by omega), List.map_nil, List.append_nil]
  | m + 1, k + 1, i, acc, h, hk, ha => by
    unfold papermillref51_open.l0
    have h0 : i < L.length := by omega
    rw [if_pos (by omega), if_pos (by omega), rd41_is h0, List.drop_eq_getElem_cons h0, List.map_cons]
    by_cases e : L[i].f3 = true
    · rw [if_pos e, if_pos (by omega), if_pos e, wrapN h0 (by omega), open_l0 L hb m k (i + 1) _ (by omega) (by omega) (by simp; omega), List.append_assoc]
      rfl
    · rw [if_neg e, if_pos (by omega), if_neg e, wrapN h0 (by omega), open_l0 L hb m k (i + 1) _ (by omega) (by omega) (by simp; omega), List.append_assoc]
      rfl
theorem open_f {B : Bk} {T : Nat} (hi : B.Inv T) (hT : T ≤ 900) : papermillref51_open.f 3000 B.all = some (B.es.map openN) := by
  have := open_l0 B.all (hi.allFew hT).1 B.all.length 3000 0 [] (by omega) (by have := hi.allLen; omega) (Nat.le_refl _)
  unfold papermillref51_open.f
  rw [show ((0 : Int)) = ((0 : Nat) : Int) from rfl, this, List.drop_zero, List.nil_append]
  unfold Bk.all
  rw [List.map_map]
  rfl
theorem field63 (A : Option Addr) (n c : Nat) (w : World) : (Instr.field 63 (.agg #[.slice A n c]) 0).run Try.prog w = .ok (.slice A n c) w := by kernel_rfl
structure RL (W0 : World) (R : Nat → Prop) (pr : Nat) (w : World) (L : List S41) : Prop where
  at_ : ∃ v, w.heap[pr]? = some (.cells #[v] 63 (0, 0)) ∧ Kd.V k41 41 w W0.heap.size (fun k => R k ∧ k ≠ pr) v L
  pr : R pr
  b : Below W0.heap.size W0 w
  lo : ∀ k, R k → W0.heap.size ≤ k ∧ k < w.heap.size
def RP (W0 : World) (R : Nat → Prop) (pr : Nat) (w : World) (L : List S41) (r : Int) (e : Ending) (w' : World) : Prop :=
  e = .returned (.int .i64 r) ∧ ∃ R', RL W0 R' pr w' L ∧ KeptB w w' R ∧ ∀ k, R' k → R k ∨ w.heap.size ≤ k
section
variable {W0 w w1 : World} {R : Nat → Prop} {pr : Nat} {L : List S41}
theorem RL.below (h : RL W0 R pr w L) (hb : Below w.heap.size w w1) : RL W0 R pr w1 L := by
  obtain ⟨⟨v, h1, h2⟩, h3, h4, h5⟩ := h
  exact ⟨⟨v, blk_below h1 hb, Kd.V_below h2 hb⟩, h3, below_step h4 hb, fun k hk => ⟨(h5 k hk).1, Nat.lt_of_lt_of_le (h5 k hk).2 (below_size hb)⟩⟩
theorem RL.kept {S : Nat → Prop} (h : RL W0 R pr w L) (hk : KeptB w w1 S) (hs : ∀ k, R k → ¬ S k) (hS : ∀ k, S k → W0.heap.size ≤ k) : RL W0 R pr w1 L := by
  obtain ⟨⟨v, h1, h2⟩, h3, h4, h5⟩ := h
  exact ⟨⟨v, blk_kept h1 hk.k (hs pr h3), Kd.V_kept h2 hk.k (fun k hk' => hs k hk'.1)⟩, h3, h4.trans (hk.below hS (below_size h4)), fun k hk' => ⟨(h5 k hk').1, Nat.lt_of_lt_of_le (h5 k hk').2 hk.size⟩⟩
theorem RL.post2 (h : RL W0 R pr w L) {v0 : Value} {L' : List S41} (hv : Kd.V k41 41 w1 w.heap.size (fun k => (R k ∧ k ≠ pr) ∨ w.heap.size ≤ k) v0 L') (hb : Below w.heap.size w w1) (r : Int) :
    RP W0 R pr w L' r (.returned (.int .i64 r)) (w1.setCell ⟨pr, 0, none⟩ v0) := by
  obtain ⟨⟨v, h1, h2⟩, h3, h4, h5⟩ := h
  have hb2 := hb
  have hp := (h5 pr h3)
  have hk : KeptB w (w1.setCell ⟨pr, 0, none⟩ v0) R := KeptB.setCell (KeptB.of_below hb2 R) (.inl h3) v0
  have hsz := hk.size
  refine ⟨rfl, fun k => R k ∨ (w.heap.size ≤ k ∧ k < (w1.setCell ⟨pr, 0, none⟩ v0).heap.size), ⟨⟨v0, blk_put (cs := #[v]) (blk_below h1 hb2) 0 v0 rfl, ?_⟩, .inl h3, h4.trans (hk.below (fun k hk' => (h5 k hk').1) (below_size h4)), ?_⟩, hk, fun k hk' => hk'.imp id (fun q => q.1)⟩
  · have q := Kd.V_bound (Kd.V_far (p := ⟨pr, 0, none⟩) hv (fun k hk' => hk'.elim (fun q => q.2) (fun q => by show k ≠ pr; omega)) v0)
    exact Kd.V_mono q (fun k hk' => ⟨hk'.1.elim (fun q => .inl q.1) (fun q => .inr ⟨q, hk'.2⟩), hk'.1.elim (fun q => q.2) (fun q => by omega)⟩)
  · intro k hk'
    rcases hk' with q | q
    · exact ⟨(h5 k q).1, Nat.lt_of_lt_of_le (h5 k q).2 hsz⟩
    · exact ⟨Nat.le_trans (below_size h4) q.1, q.2⟩
theorem RL.post (h : RL W0 R pr w L) {v0 : Value} {L' : List S41} (hv : Kd.V k41 41 w1 w.heap.size (fun k => (R k ∧ k ≠ pr) ∨ w.heap.size ≤ k) v0 L') (hb : Below w.heap.size w w1) (r : Int) :
    RP W0 R pr w L' r (.returned (.int .i64 r)) ((w1.alloc (.cells #[v0] 63)).setCell ⟨pr, 0, none⟩ v0) := h.post2 (Kd.V_alloc hv _) (below_alloc hb _) r
theorem RP.step {r : Int} {e : Ending} {w' : World} (hb : Below w.heap.size w w1) (h : RP W0 R pr w1 L r e w') : RP W0 R pr w L r e w' := by
  obtain ⟨he, R', h1, h2, h3⟩ := h
  exact ⟨he, R', h1, (KeptB.of_below hb R).then_ h2 (fun k hk => .inl hk), fun k hk => (h3 k hk).imp_right (fun q => Nat.le_trans (below_size hb) q)⟩
theorem RL.new (W0 w : World) (h0 : Below W0.heap.size W0 w) : Calls Try.prog 15 #[] w fun e w' => ∃ R pr, e = .returned (.pointer (some ⟨pr, 0, none⟩)) ∧ RL W0 R pr w' [] ∧ (∀ k, R k → w.heap.size ≤ k) ∧ Below w.heap.size w w' := by
  have hu63 := Try.underlying63
  go_enter Try.func15, Try.ntmps15
  go_wp2
  go_ret
  have hs := below_size h0
  have hz : (w.alloc (.cells #[.slice none 0 0] 63)).heap.size = w.heap.size + 1 := Array.size_push _
  refine ⟨fun k => k = w.heap.size, w.heap.size, rfl, ⟨⟨_, blk_new w _, Kd.V_nil _ _ _ _ _⟩, rfl, below_step h0 (below_alloc (Below.refl _ _) _), fun k hk => by subst hk; exact ⟨hs, by omega⟩⟩, fun k hk => by subst hk; exact Nat.le_refl _, below_alloc (Below.refl _ _) _⟩
end
section
variable {W0 w : World} {R : Nat → Prop} {pr : Nat} {B : Bk} {T : Nat}
theorem RL.Amend (h : RL W0 R pr w B.all) (hi : B.Inv T) (hT : T ≤ 900) (id n : Int) : Calls Try.prog 38 #[.pointer (some ⟨pr, 0, none⟩), .int .i64 id, .int .i64 n] w (RP W0 R pr w (B.Amend id n).1.all (B.Amend id n).2) := by
  have hu63 := Try.underlying63
  obtain ⟨v, hblk, hV⟩ := h.at_
  obtain ⟨A, c, rfl⟩ := Kd.V_slice hV
  have HV := Aside0.mk (amendR_calls hi hT id n w hV)
  have HH := Aside0.mk h
  have HBLK := Aside0.mk hblk
  have x0 : w.cell? ⟨pr, 0, none⟩ = some (.slice A B.all.length c) := (blk_cell hblk 0).trans rfl
  clear h hi hT hblk hV
  generalize B.Amend id n = D at HV ⊢
  obtain ⟨B2, r2⟩ := D
  dsimp only at HV ⊢
  go_enter Try.func38, Try.ntmps38
  go_wp2_with fail
  refine HV.out.mono ?_
  rintro e w1 ⟨v0, rfl, hv, hb⟩
  obtain ⟨A1, c1, rfl⟩ := Kd.V_slice hv
  have HV1 := Aside0.mk hv
  have HB1 := Aside0.mk hb
  have x1 : ∀ o, (w1.alloc o).cell? ⟨pr, 0, none⟩ = some (.slice A B.all.length c) := fun o => (blk_cell (blk_below HBLK.out (below_alloc hb o)) 0).trans rfl
  have z1 : ∀ o, (w1.alloc o).frozen? ⟨pr, 0, none⟩ = false := fun o => blk_frozen (blk_below HBLK.out (below_alloc hb o)) 0
  clear hv hb x0
  go_wp2
  go_ret
  exact HH.out.post HV1.out HB1.out r2
theorem RL.Assign (h : RL W0 R pr w B.all) (hi : B.Inv T) (hT : T ≤ 900) (id n : Int) : Calls Try.prog 39 #[.pointer (some ⟨pr, 0, none⟩), .int .i64 id, .int .i64 n] w (RP W0 R pr w (B.Assign id n).1.all (B.Assign id n).2) := by
  have hu63 := Try.underlying63
  obtain ⟨v, hblk, hV⟩ := h.at_
  obtain ⟨A, c, rfl⟩ := Kd.V_slice hV
  have HV := Aside0.mk (assignR_calls hi hT id n w hV)
  have HH := Aside0.mk h
  have HBLK := Aside0.mk hblk
  have x0 : w.cell? ⟨pr, 0, none⟩ = some (.slice A B.all.length c) := (blk_cell hblk 0).trans rfl
  clear h hi hT hblk hV
  generalize B.Assign id n = D at HV ⊢
  obtain ⟨B2, r2⟩ := D
  dsimp only at HV ⊢
  go_enter Try.func39, Try.ntmps39
  go_wp2_with fail
  refine HV.out.mono ?_
  rintro e w1 ⟨v0, rfl, hv, hb⟩
  obtain ⟨A1, c1, rfl⟩ := Kd.V_slice hv
  have HV1 := Aside0.mk hv
  have HB1 := Aside0.mk hb
  have x1 : ∀ o, (w1.alloc o).cell? ⟨pr, 0, none⟩ = some (.slice A B.all.length c) := fun o => (blk_cell (blk_below HBLK.out (below_alloc hb o)) 0).trans rfl
  have z1 : ∀ o, (w1.alloc o).frozen? ⟨pr, 0, none⟩ = false := fun o => blk_frozen (blk_below HBLK.out (below_alloc hb o)) 0
  clear hv hb x0
  go_wp2
  go_ret
  exact HH.out.post HV1.out HB1.out r2
theorem RL.Release (h : RL W0 R pr w B.all) (hi : B.Inv T) (hT : T ≤ 900) (n : Int) : Calls Try.prog 40 #[.pointer (some ⟨pr, 0, none⟩), .int .i64 n] w (RP W0 R pr w (B.Release n).1.all (B.Release n).2) := by
  have hu63 := Try.underlying63
  obtain ⟨v, hblk, hV⟩ := h.at_
  obtain ⟨A, c, rfl⟩ := Kd.V_slice hV
  have HV := Aside0.mk (releaseR_calls hi hT n w hV)
  have HH := Aside0.mk h
  have HBLK := Aside0.mk hblk
  have x0 : w.cell? ⟨pr, 0, none⟩ = some (.slice A B.all.length c) := (blk_cell hblk 0).trans rfl
  clear h hi hT hblk hV
  generalize B.Release n = D at HV ⊢
  obtain ⟨B2, r2⟩ := D
  dsimp only at HV ⊢
  go_enter Try.func40, Try.ntmps40
  go_wp2_with fail
  refine HV.out.mono ?_
  rintro e w1 ⟨v0, rfl, hv, hb⟩
  obtain ⟨A1, c1, rfl⟩ := Kd.V_slice hv
  have HV1 := Aside0.mk hv
  have HB1 := Aside0.mk hb
  have x1 : ∀ o, (w1.alloc o).cell? ⟨pr, 0, none⟩ = some (.slice A B.all.length c) := fun o => (blk_cell (blk_below HBLK.out (below_alloc hb o)) 0).trans rfl
  have z1 : ∀ o, (w1.alloc o).frozen? ⟨pr, 0, none⟩ = false := fun o => blk_frozen (blk_below HBLK.out (below_alloc hb o)) 0
  clear hv hb x0
  go_wp2
  go_ret
  exact HH.out.post HV1.out HB1.out r2
theorem RL.Ship (h : RL W0 R pr w B.all) (hi : B.Inv T) (hT : T ≤ 900) (n : Int) : Calls Try.prog 41 #[.pointer (some ⟨pr, 0, none⟩), .int .i64 n] w (RP W0 R pr w (B.Ship n).1.all (B.Ship n).2) := by
  have hu63 := Try.underlying63
  obtain ⟨v, hblk, hV⟩ := h.at_
  obtain ⟨A, c, rfl⟩ := Kd.V_slice hV
  have HV := Aside0.mk (shipR_calls hi hT n w hV)
  have HH := Aside0.mk h
  have HBLK := Aside0.mk hblk
  have x0 : w.cell? ⟨pr, 0, none⟩ = some (.slice A B.all.length c) := (blk_cell hblk 0).trans rfl
  clear h hi hT hblk hV
  generalize B.Ship n = D at HV ⊢
  obtain ⟨B2, r2⟩ := D
  dsimp only at HV ⊢
  go_enter Try.func41, Try.ntmps41
  go_wp2_with fail
  refine HV.out.mono ?_
  rintro e w1 ⟨v0, rfl, hv, hb⟩
  obtain ⟨A1, c1, rfl⟩ := Kd.V_slice hv
  have HV1 := Aside0.mk hv
  have HB1 := Aside0.mk hb
  have x1 : ∀ o, (w1.alloc o).cell? ⟨pr, 0, none⟩ = some (.slice A B.all.length c) := fun o => (blk_cell (blk_below HBLK.out (below_alloc hb o)) 0).trans rfl
  have z1 : ∀ o, (w1.alloc o).frozen? ⟨pr, 0, none⟩ = false := fun o => blk_frozen (blk_below HBLK.out (below_alloc hb o)) 0
  clear hv hb x0
  go_wp2
  go_ret
  exact HH.out.post HV1.out HB1.out r2
theorem RL.Close (h : RL W0 R pr w B.all) (hi : B.Inv T) (hT : T ≤ 900) (id : Int) : Calls Try.prog 42 #[.pointer (some ⟨pr, 0, none⟩), .int .i64 id] w (RP W0 R pr w (B.Close id).1.all (B.Close id).2) := by
  have hu63 := Try.underlying63
  obtain ⟨v, hblk, hV⟩ := h.at_
  obtain ⟨A, c, rfl⟩ := Kd.V_slice hV
  have HV := Aside0.mk (shutR_calls hi hT id w hV)
  have HH := Aside0.mk h
  have HBLK := Aside0.mk hblk
  have x0 : w.cell? ⟨pr, 0, none⟩ = some (.slice A B.all.length c) := (blk_cell hblk 0).trans rfl
  clear h hi hT hblk hV
  generalize B.Close id = D at HV ⊢
  obtain ⟨B2, r2⟩ := D
  dsimp only at HV ⊢
  go_enter Try.func42, Try.ntmps42
  go_wp2_with fail
  refine HV.out.mono ?_
  rintro e w1 ⟨v0, rfl, hv, hb⟩
  obtain ⟨A1, c1, rfl⟩ := Kd.V_slice hv
  have HV1 := Aside0.mk hv
  have HB1 := Aside0.mk hb
  have x1 : ∀ o, (w1.alloc o).cell? ⟨pr, 0, none⟩ = some (.slice A B.all.length c) := fun o => (blk_cell (blk_below HBLK.out (below_alloc hb o)) 0).trans rfl
  have z1 : ∀ o, (w1.alloc o).frozen? ⟨pr, 0, none⟩ = false := fun o => blk_frozen (blk_below HBLK.out (below_alloc hb o)) 0
  clear hv hb x0
  go_wp2
  go_ret
  exact HH.out.post HV1.out HB1.out r2
theorem RL.All (h : RL W0 R pr w B.all) (hi : B.Inv T) (hT : T ≤ 900) : Calls Try.prog 28 #[.pointer (some ⟨pr, 0, none⟩)] w fun e w' => ∃ A c, e = .returned (.slice A B.all.length c) ∧ (B.all.length ≤ c ∧ Kd.C k41 w' A B.all.length B.all) ∧ Below w.heap.size w w' := by
  have hf63 := field63
  have hu63 := Try.underlying63
  obtain ⟨v, hblk, hV⟩ := h.at_
  obtain ⟨A, c, rfl⟩ := Kd.V_slice hV
  have HV := Aside0.mk (wholeR_calls hi hT w (Kd.V_reads' hV).2.2 (Kd.V_reads' hV).2.1)
  have x0 : w.cell? ⟨pr, 0, none⟩ = some (.slice A B.all.length c) := (blk_cell hblk 0).trans rfl
  clear h hi hT hblk hV
  go_enter Try.func28, Try.ntmps28
  go_wp2_with fail
  refine HV.out.mono ?_
  rintro e w1 ⟨g0, c0, rfl, hs, hb⟩
  have HS := Aside0.mk hs
  have HB := Aside0.mk hb
  clear hs hb
  go_wp2
  go_ret
  exact ⟨g0, c0, rfl, ⟨(Kd.S_reads' HS.out).2.1, CA.1 (Kd.S_reads' HS.out).2.2⟩, HB.out⟩
theorem RL.Open (h : RL W0 R pr w B.all) (hi : B.Inv T) (hT : T ≤ 900) : Calls Try.prog 31 #[.pointer (some ⟨pr, 0, none⟩)] w fun e w' => ∃ v, e = .returned v ∧ Kd.R (Kd.int .i64) 3 w' w.heap.size (fun _ => True) v (B.es.map openN) ∧ Below w.heap.size w w' := by
  have hu63 := Try.underlying63
  obtain ⟨v, hblk, hV⟩ := h.at_
  obtain ⟨A, c, rfl⟩ := Kd.V_slice hV
  have HV := Aside0.mk (papermillref51_open.calls 3000 A c B.all (B.es.map openN) w (Kd.V_reads' hV).2.2 (Kd.V_reads' hV).2.1 (open_f hi hT))
  have x0 : w.cell? ⟨pr, 0, none⟩ = some (.slice A B.all.length c) := (blk_cell hblk 0).trans rfl
  clear h hi hT hblk hV
  go_enter Try.func31, Try.ntmps31
  go_wp2_with fail
  refine HV.out.mono ?_
  rintro e w1 ⟨v0, rfl, hs, hb⟩
  have HS := Aside0.mk hs
  have HB := Aside0.mk hb
  clear hs hb
  go_wp2
  go_ret
  exact ⟨v0, rfl, HS.out, HB.out⟩
theorem RL.Find (h : RL W0 R pr w B.all) (hi : B.Inv T) (hT : T ≤ 900) (n : Int) (r : Int × Bool) (hr : B.Find n = some r) : Calls Try.prog 19 #[.pointer (some ⟨pr, 0, none⟩), .int .i64 n] w fun e w' => e = .returned (.tuple #[.int .i64 r.1, .bool r.2]) ∧ Below w.heap.size w w' := by
  have hu63 := Try.underlying63
  obtain ⟨v, hblk, hV⟩ := h.at_
  obtain ⟨A, c, rfl⟩ := Kd.V_slice hV
  have HV := Aside0.mk (findR_calls hi hT n r hr w (Kd.V_reads' hV).2.2 (Kd.V_reads' hV).2.1)
  have x0 : w.cell? ⟨pr, 0, none⟩ = some (.slice A B.all.length c) := (blk_cell hblk 0).trans rfl
  clear h hi hT hblk hV hr
  go_enter Try.func19, Try.ntmps19
  go_wp2_with fail
  refine HV.out.mono ?_
  rintro e w1 ⟨rfl, hb⟩
  go_wp2
  go_ret2
  exact ⟨rfl, hb⟩
end
end Go.Proofs.Ythmhehfbepijgaa.Q
