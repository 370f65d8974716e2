import Derived.Test.YthmhehfbepijgaaBQ0
import Derived.Test.YthmhehfbepijgaaBR12
import Derived.Test.YthmhehfbepijgaaBQ5
import Derived.Test.YthmhehfbepijgaaBQ6
import Derived.Test.YthmhehfbepijgaaBQ7
import Derived.Test.YthmhehfbepijgaaBQ8
import Derived.Test.YthmhehfbepijgaaBQ9
import Derived.Test.YthmhehfbepijgaaBQ11
import Derived.Test.YthmhehfbepijgaaBQ12
import Derived.Test.YthmhehfbepijgaaBT29
import Derived.Test.YthmhehfbepijgaaBT37
namespace Go.Proofs.Ythmhehfbepijgaa.Q
open Go.RowKit Go.Proofs.YthmhehfbepijgaaW.PrintWords Go.Proofs.YthmhehfbepijgaaW.PrintLast Go.Proofs.YthmhehfbepijgaaW.PrintMore
attribute [local go_sem] max2_int min2_int max_two min_two max_three min_three max_four min_four
set_option linter.unusedVariables false
set_option linter.unusedSimpArgs false
set_option maxHeartbeats 16000000 in
def raddR.T3 : Bool × List (List Nat × List Nat) := (true, [([], []), ([0], [0]), ([1], [1]), ([], []), ([2, 3], [2, 3]), ([4], [4]), ([5], [5]), ([5], [5]), ([], []), ([8, 6, 4, 0, 1, 2, 3, 4, 5, 6, 8], [6, 8]), ([7, 9, 0, 1, 2, 3, 4, 5, 6, 7, 8, 9], [7])])
def raddR.B3 : List Nat := [0, 1, 3, 0, 15, 31, 63, 63, 0, 383, 1023]
theorem raddR.tab3 : rtab .any (opsOf Try.f37 3) = raddR.T3 := by kernel_rfl
theorem raddR.bits3 : waitsOk raddR.T3.2 raddR.B3 = true := by kernel_rfl
set_option maxHeartbeats 16000000 in
set_option maxRecDepth 100000 in
theorem RL.Add {W0 w : World} {R : Nat → Prop} {pr : Nat} {B : Bk} {T : Nat} (h : RL W0 R pr w B.all) (hi : B.Inv T) (hT : T ≤ 900) (o : S23) : Calls Try.prog 37 #[.pointer (some ⟨pr, 0, none⟩), .agg #[.int .i64 o.f0, .int .i64 o.f1, .int .i64 o.f2, .int .i64 o.f3, .int .i64 o.f4, .int .i64 o.f5, .int .i64 o.f6, .int .i64 o.f7, .int .i64 o.f8, .int .i64 o.f9, .int .i64 o.f10, .int .i64 o.f11]] w (RP W0 R pr w (B.Add o).1.all (B.Add o).2) := by
  have hu63 := Try.underlying63
  have hu23 := Try.underlying23
  have hH2 := h.below (below_alloc (Below.refl w.heap.size w) (.cells #[.int .i64 o.f0, .int .i64 o.f1, .int .i64 o.f2, .int .i64 o.f3, .int .i64 o.f4, .int .i64 o.f5, .int .i64 o.f6, .int .i64 o.f7, .int .i64 o.f8, .int .i64 o.f9, .int .i64 o.f10, .int .i64 o.f11] 23))
  obtain ⟨v, hblk, hV⟩ := hH2.at_
  obtain ⟨A, c, rfl⟩ := Kd.V_slice hV
  have HV4 : Aside0 (∀ w1, Kd.V k41 41 w1 W0.heap.size (fun k => R k ∧ k ≠ pr) (.slice A B.all.length c) B.all → Calls Try.prog 55 #[.agg #[.slice A B.all.length c], .agg #[.int .i64 o.f0, .int .i64 o.f1, .int .i64 o.f2, .int .i64 o.f3, .int .i64 o.f4, .int .i64 o.f5, .int .i64 o.f6, .int .i64 o.f7, .int .i64 o.f8, .int .i64 o.f9, .int .i64 o.f10, .int .i64 o.f11]] w1 fun e w' => ∃ v0, e = .returned (.tuple #[.agg #[v0], .int .i64 (B.Add o).2]) ∧ Kd.V k41 41 w' w1.heap.size (fun k => (R k ∧ k ≠ pr) ∨ w1.heap.size ≤ k) v0 (B.Add o).1.all ∧ Below w1.heap.size w1 w') := ⟨fun w1 hv => addR_calls hi hT o w1 hv⟩
  have HH2 := Aside0.mk hH2
  have HBLK2 := Aside0.mk hblk
  have HV2 := Aside0.mk hV
  have HGO := Aside0.mk (blk_new w (.cells #[.int .i64 o.f0, .int .i64 o.f1, .int .i64 o.f2, .int .i64 o.f3, .int .i64 o.f4, .int .i64 o.f5, .int .i64 o.f6, .int .i64 o.f7, .int .i64 o.f8, .int .i64 o.f9, .int .i64 o.f10, .int .i64 o.f11] 23))
  clear h hi hT hH2 hblk hV
  generalize B.Add o = D at HV4 ⊢
  obtain ⟨B2, r2⟩ := D
  dsimp only at HV4 ⊢
  go_enter Try.func37, Try.ntmps37
  go_wp2_with fail
  refine start_ (n := 11) (S := fun w' => w'.cell? ⟨pr, 0, none⟩ = some (.slice A B.all.length c) ∧ w'.cell? ⟨w.heap.size, 0, none⟩ = some (.int .i64 o.f0) ∧ w'.cell? ⟨w.heap.size, 1, none⟩ = some (.int .i64 o.f1) ∧ w'.cell? ⟨w.heap.size, 2, none⟩ = some (.int .i64 o.f2) ∧ w'.cell? ⟨w.heap.size, 3, none⟩ = some (.int .i64 o.f3) ∧ w'.cell? ⟨w.heap.size, 4, none⟩ = some (.int .i64 o.f4) ∧ w'.cell? ⟨w.heap.size, 5, none⟩ = some (.int .i64 o.f5) ∧ w'.cell? ⟨w.heap.size, 6, none⟩ = some (.int .i64 o.f6) ∧ w'.cell? ⟨w.heap.size, 7, none⟩ = some (.int .i64 o.f7) ∧ w'.cell? ⟨w.heap.size, 8, none⟩ = some (.int .i64 o.f8) ∧ w'.cell? ⟨w.heap.size, 9, none⟩ = some (.int .i64 o.f9) ∧ w'.cell? ⟨w.heap.size, 10, none⟩ = some (.int .i64 o.f10) ∧ w'.cell? ⟨w.heap.size, 11, none⟩ = some (.int .i64 o.f11)) (ds := [9]) #[false, false, false, false, false, false, false, false, false, false, false] (by kernel_rfl) rfl rfl ⟨(blk_cell (blk_drew HBLK2.out) 0).trans rfl, (blk_cell (blk_drew HGO.out) 0).trans rfl, (blk_cell (blk_drew HGO.out) 1).trans rfl, (blk_cell (blk_drew HGO.out) 2).trans rfl, (blk_cell (blk_drew HGO.out) 3).trans rfl, (blk_cell (blk_drew HGO.out) 4).trans rfl, (blk_cell (blk_drew HGO.out) 5).trans rfl, (blk_cell (blk_drew HGO.out) 6).trans rfl, (blk_cell (blk_drew HGO.out) 7).trans rfl, (blk_cell (blk_drew HGO.out) 8).trans rfl, (blk_cell (blk_drew HGO.out) 9).trans rfl, (blk_cell (blk_drew HGO.out) 10).trans rfl, (blk_cell (blk_drew HGO.out) 11).trans rfl⟩ (fun hHeld => ?_); refine with_tabW raddR.tab3 raddR.bits3 (fun HT_ HW_ => ?_)
  have HBLK4 := Aside0.mk (blk_drew HBLK2.out); have HVV := Aside0.mk (Kd.V_drew HV2.out); have HH4 := Aside0.mk (HH2.out.below (below_drew1 (Below.refl _ _))); have HBW := Aside0.mk (below_drew1 (below_alloc (Below.refl w.heap.size w) (.cells #[.int .i64 o.f0, .int .i64 o.f1, .int .i64 o.f2, .int .i64 o.f3, .int .i64 o.f4, .int .i64 o.f5, .int .i64 o.f6, .int .i64 o.f7, .int .i64 o.f8, .int .i64 o.f9, .int .i64 o.f10, .int .i64 o.f11] 23))); generalize (w.alloc (.cells #[.int .i64 o.f0, .int .i64 o.f1, .int .i64 o.f2, .int .i64 o.f3, .int .i64 o.f4, .int .i64 o.f5, .int .i64 o.f6, .int .i64 o.f7, .int .i64 o.f8, .int .i64 o.f9, .int .i64 o.f10, .int .i64 o.f11] 23)).drew = w4 at HBLK4 HVV HH4 HBW hHeld ⊢; have HZ : Aside0 (∀ o, (w4.alloc o).heap.size = w4.heap.size + 1) := ⟨fun o => Array.size_push _⟩
  refine pure_ (i := 0) (N := some 10) (v := ?_) (a' := ?_) #[true, false, false, false, false, false, false, false, false, false, false] rfl rfl (any_of HT_.out (by kernel_rfl)) (fun _ _ _ h => h) (Or.inl ⟨by rfl, ?_⟩) ?_ ?_
  rotate_left
  · intro w'
    go_simp
    with_reducible rfl
  rotate_left
  · simp only [Act.put, List.setIfInBounds_toArray, List.set_cons_zero, List.set_cons_succ, i64_w, i32_w]
    rfl
  refine pure_ (i := 1) (N := some 11) (v := ?_) (a' := ?_) #[true, true, false, false, false, false, false, false, false, false, false] rfl rfl (any_of HT_.out (by kernel_rfl)) (fun _ _ _ h => h) (Or.inl ⟨by rfl, ?_⟩) ?_ ?_
  rotate_left
  · intro w'
    go_simp
    with_reducible rfl
  rotate_left
  · simp only [Act.put, List.setIfInBounds_toArray, List.set_cons_zero, List.set_cons_succ, i64_w, i32_w]
    rfl
  refine take_ (i := 2) (N := some 12) (v := ?_) (a' := ?_) #[true, true, true, false, false, false, false, false, false, false, false] rfl rfl (take_ofW HT_.out HW_.out (by kernel_rfl)) (fun _ _ _ h => h) (Or.inl ⟨by rfl, ?_⟩) hHeld ?_ ?_
  rotate_left
  · rintro w' ⟨s0, s1, s2, s3, s4, s5, s6, s7, s8, s9, s10, s11, s12⟩
    go_simp
    with_reducible rfl
  rotate_left
  · simp only [Act.put, List.setIfInBounds_toArray, List.set_cons_zero, List.set_cons_succ, i64_w, i32_w]
    rfl
  refine take_ (i := 3) (N := some 13) (v := ?_) (a' := ?_) #[true, true, true, true, false, false, false, false, false, false, false] rfl rfl (take_ofW HT_.out HW_.out (by kernel_rfl)) (fun _ _ _ h => h) (Or.inl ⟨by rfl, ?_⟩) hHeld ?_ ?_
  rotate_left
  · rintro w' ⟨s0, s1, s2, s3, s4, s5, s6, s7, s8, s9, s10, s11, s12⟩
    go_simp
    with_reducible rfl
  rotate_left
  · simp only [Act.put, List.setIfInBounds_toArray, List.set_cons_zero, List.set_cons_succ, i64_w, i32_w]
    rfl
  refine join_ (σ := Option Addr × Nat × Nat) 2 #[true, true, true, true, true, true, true, true, true, false, false] (fun s_ => [(14, .tuple #[.agg #[.slice s_.1 B2.all.length s_.2.1], .int .i64 r2]), (9, .tuple #[.agg #[.slice s_.1 B2.all.length s_.2.1], .int .i64 r2]), (15, .agg #[.slice s_.1 B2.all.length s_.2.1]), (16, .int .i64 r2), (5, .pointer (some ⟨s_.2.2, 0, none⟩))]) (fun s_ w' => (w'.cell? ⟨pr, 0, none⟩ = some (.slice A B.all.length c) ∧ w'.cell? ⟨w.heap.size, 0, none⟩ = some (.int .i64 o.f0) ∧ w'.cell? ⟨w.heap.size, 1, none⟩ = some (.int .i64 o.f1) ∧ w'.cell? ⟨w.heap.size, 2, none⟩ = some (.int .i64 o.f2) ∧ w'.cell? ⟨w.heap.size, 3, none⟩ = some (.int .i64 o.f3) ∧ w'.cell? ⟨w.heap.size, 4, none⟩ = some (.int .i64 o.f4) ∧ w'.cell? ⟨w.heap.size, 5, none⟩ = some (.int .i64 o.f5) ∧ w'.cell? ⟨w.heap.size, 6, none⟩ = some (.int .i64 o.f6) ∧ w'.cell? ⟨w.heap.size, 7, none⟩ = some (.int .i64 o.f7) ∧ w'.cell? ⟨w.heap.size, 8, none⟩ = some (.int .i64 o.f8) ∧ w'.cell? ⟨w.heap.size, 9, none⟩ = some (.int .i64 o.f9) ∧ w'.cell? ⟨w.heap.size, 10, none⟩ = some (.int .i64 o.f10) ∧ w'.cell? ⟨w.heap.size, 11, none⟩ = some (.int .i64 o.f11)) ∧ Kd.V k41 41 w' w4.heap.size (fun k => ((R k ∧ k ≠ pr) ∨ w4.heap.size ≤ k) ∧ k ≠ s_.2.2) (.slice s_.1 B2.all.length s_.2.1) B2.all ∧ Below w4.heap.size w4 w' ∧ w'.heap[s_.2.2]? = some (.cells #[.slice none 0 0] 63 (0, 0)) ∧ w4.heap.size ≤ s_.2.2) ?_ ?_
  rotate_left
  · intro hCont
    refine two_ (i := 4) (j := 8) (Ni := some 14) (Nj := some 5) #[true, true, true, true, true, false, false, false, false, false, false] #[true, true, true, true, false, false, false, false, true, false, false] rfl rfl rfl rfl (two_of HT_.out (by kernel_rfl)) (by decide) (by decide) (fun K hK => ?_) (fun K hK => ?_)
    · skip
      refine goes_ Try.func55 (by kernel_rfl) rfl #[.agg #[.slice A B.all.length c], .agg #[.int .i64 o.f0, .int .i64 o.f1, .int .i64 o.f2, .int .i64 o.f3, .int .i64 o.f4, .int .i64 o.f5, .int .i64 o.f6, .int .i64 o.f7, .int .i64 o.f8, .int .i64 o.f9, .int .i64 o.f10, .int .i64 o.f11]] (by rfl) rfl rfl (by simp only [List.map_toArray, List.map_cons, List.map_nil]; rfl) ?_
      with_reducible refine (HV4.out _ (HVV.out)).mono ?_
      rintro e w5 ⟨v0, rfl, hv, hb⟩
      refine ⟨_, rfl, ?_⟩
      obtain ⟨A1, c1, e1_⟩ := Kd.V_slice hv
      subst e1_
      refine hK.out _ _ ⟨(hb.cell (World.block_lt_of_cell? _ _ (hHeld.1))).trans (hHeld.1), (hb.cell (World.block_lt_of_cell? _ _ (hHeld.2.1))).trans (hHeld.2.1), (hb.cell (World.block_lt_of_cell? _ _ (hHeld.2.2.1))).trans (hHeld.2.2.1), (hb.cell (World.block_lt_of_cell? _ _ (hHeld.2.2.2.1))).trans (hHeld.2.2.2.1), (hb.cell (World.block_lt_of_cell? _ _ (hHeld.2.2.2.2.1))).trans (hHeld.2.2.2.2.1), (hb.cell (World.block_lt_of_cell? _ _ (hHeld.2.2.2.2.2.1))).trans (hHeld.2.2.2.2.2.1), (hb.cell (World.block_lt_of_cell? _ _ (hHeld.2.2.2.2.2.2.1))).trans (hHeld.2.2.2.2.2.2.1), (hb.cell (World.block_lt_of_cell? _ _ (hHeld.2.2.2.2.2.2.2.1))).trans (hHeld.2.2.2.2.2.2.2.1), (hb.cell (World.block_lt_of_cell? _ _ (hHeld.2.2.2.2.2.2.2.2.1))).trans (hHeld.2.2.2.2.2.2.2.2.1), (hb.cell (World.block_lt_of_cell? _ _ (hHeld.2.2.2.2.2.2.2.2.2.1))).trans (hHeld.2.2.2.2.2.2.2.2.2.1), (hb.cell (World.block_lt_of_cell? _ _ (hHeld.2.2.2.2.2.2.2.2.2.2.1))).trans (hHeld.2.2.2.2.2.2.2.2.2.2.1), (hb.cell (World.block_lt_of_cell? _ _ (hHeld.2.2.2.2.2.2.2.2.2.2.2.1))).trans (hHeld.2.2.2.2.2.2.2.2.2.2.2.1), (hb.cell (World.block_lt_of_cell? _ _ (hHeld.2.2.2.2.2.2.2.2.2.2.2.2))).trans (hHeld.2.2.2.2.2.2.2.2.2.2.2.2)⟩ (fun hHeld => ?_)
      clear hK K
      refine norm_ (a' := ?_) ?_ ?_
      rotate_left
      · show Act.put _ (some 14) _ = _
        simp only [Act.put, List.setIfInBounds_toArray, List.set_cons_zero, List.set_cons_succ, i64_w, i32_w]
        rfl
      refine pure_ (i := 5) (N := some 9) (v := ?_) (a' := ?_) #[true, true, true, true, true, true, false, false, false, false, false] rfl rfl (any_of HT_.out (by kernel_rfl)) (fun _ _ _ h => h) (Or.inl ⟨by rfl, ?_⟩) ?_ ?_
      rotate_left
      · intro w'
        go_simp
        with_reducible rfl
      rotate_left
      · simp only [Act.put, List.setIfInBounds_toArray, List.set_cons_zero, List.set_cons_succ, i64_w, i32_w]
        rfl
      refine pure_ (i := 6) (N := some 15) (v := ?_) (a' := ?_) #[true, true, true, true, true, true, true, false, false, false, false] rfl rfl (any_of HT_.out (by kernel_rfl)) (fun _ _ _ h => h) (Or.inl ⟨by rfl, ?_⟩) ?_ ?_
      rotate_left
      · intro w'
        go_simp
        with_reducible rfl
      rotate_left
      · simp only [Act.put, List.setIfInBounds_toArray, List.set_cons_zero, List.set_cons_succ, i64_w, i32_w]
        rfl
      refine pure_ (i := 7) (N := some 16) (v := ?_) (a' := ?_) #[true, true, true, true, true, true, true, true, false, false, false] rfl rfl (any_of HT_.out (by kernel_rfl)) (fun _ _ _ h => h) (Or.inl ⟨by rfl, ?_⟩) ?_ ?_
      rotate_left
      · intro w'
        go_simp
        with_reducible rfl
      rotate_left
      · simp only [Act.put, List.setIfInBounds_toArray, List.set_cons_zero, List.set_cons_succ, i64_w, i32_w]
        rfl
      refine one_ (i := 8) (N := some 5) #[true, true, true, true, true, true, true, true, true, false, false] rfl rfl (one_of HT_.out (by kernel_rfl)) (by decide) (fun K hK => ?_)
      refine value_ (w1 := ?_) (v := ?_) (by rfl) rfl ?_ ?_
      rotate_left 2
      · go_simp
        constructor
        · rfl
        · rfl
      refine hK.out _ _ ⟨(World.cell?_alloc_lt _ _ _ (World.block_lt_of_cell? _ _ (hHeld.1))).trans (hHeld.1), (World.cell?_alloc_lt _ _ _ (World.block_lt_of_cell? _ _ (hHeld.2.1))).trans (hHeld.2.1), (World.cell?_alloc_lt _ _ _ (World.block_lt_of_cell? _ _ (hHeld.2.2.1))).trans (hHeld.2.2.1), (World.cell?_alloc_lt _ _ _ (World.block_lt_of_cell? _ _ (hHeld.2.2.2.1))).trans (hHeld.2.2.2.1), (World.cell?_alloc_lt _ _ _ (World.block_lt_of_cell? _ _ (hHeld.2.2.2.2.1))).trans (hHeld.2.2.2.2.1), (World.cell?_alloc_lt _ _ _ (World.block_lt_of_cell? _ _ (hHeld.2.2.2.2.2.1))).trans (hHeld.2.2.2.2.2.1), (World.cell?_alloc_lt _ _ _ (World.block_lt_of_cell? _ _ (hHeld.2.2.2.2.2.2.1))).trans (hHeld.2.2.2.2.2.2.1), (World.cell?_alloc_lt _ _ _ (World.block_lt_of_cell? _ _ (hHeld.2.2.2.2.2.2.2.1))).trans (hHeld.2.2.2.2.2.2.2.1), (World.cell?_alloc_lt _ _ _ (World.block_lt_of_cell? _ _ (hHeld.2.2.2.2.2.2.2.2.1))).trans (hHeld.2.2.2.2.2.2.2.2.1), (World.cell?_alloc_lt _ _ _ (World.block_lt_of_cell? _ _ (hHeld.2.2.2.2.2.2.2.2.2.1))).trans (hHeld.2.2.2.2.2.2.2.2.2.1), (World.cell?_alloc_lt _ _ _ (World.block_lt_of_cell? _ _ (hHeld.2.2.2.2.2.2.2.2.2.2.1))).trans (hHeld.2.2.2.2.2.2.2.2.2.2.1), (World.cell?_alloc_lt _ _ _ (World.block_lt_of_cell? _ _ (hHeld.2.2.2.2.2.2.2.2.2.2.2.1))).trans (hHeld.2.2.2.2.2.2.2.2.2.2.2.1), (World.cell?_alloc_lt _ _ _ (World.block_lt_of_cell? _ _ (hHeld.2.2.2.2.2.2.2.2.2.2.2.2))).trans (hHeld.2.2.2.2.2.2.2.2.2.2.2.2)⟩ (fun hHeld => ?_)
      clear hK K
      refine norm_ (a' := ?_) ?_ ?_
      rotate_left
      · show Act.put _ (some 5) _ = _
        simp only [Act.put, List.setIfInBounds_toArray, List.set_cons_zero, List.set_cons_succ, i64_w, i32_w]
        rfl
      exact norm_ (by simp only [putAll, Act.put, List.setIfInBounds_toArray, List.set_cons_zero, List.set_cons_succ]) (hCont (A1, c1, w5.heap.size) _ ⟨hHeld, Kd.V_mono (Kd.V_alloc (Kd.V_bound hv) _) (fun k hk => ⟨hk.1, by have h_ := hk.2; exact Nat.ne_of_lt h_⟩), below_alloc hb _, blk_new w5 _, below_size hb⟩)
    · skip
      refine value_ (w1 := ?_) (v := ?_) (by rfl) rfl ?_ ?_
      rotate_left 2
      · go_simp
        constructor
        · rfl
        · rfl
      refine hK.out _ _ ⟨(World.cell?_alloc_lt _ _ _ (World.block_lt_of_cell? _ _ (hHeld.1))).trans (hHeld.1), (World.cell?_alloc_lt _ _ _ (World.block_lt_of_cell? _ _ (hHeld.2.1))).trans (hHeld.2.1), (World.cell?_alloc_lt _ _ _ (World.block_lt_of_cell? _ _ (hHeld.2.2.1))).trans (hHeld.2.2.1), (World.cell?_alloc_lt _ _ _ (World.block_lt_of_cell? _ _ (hHeld.2.2.2.1))).trans (hHeld.2.2.2.1), (World.cell?_alloc_lt _ _ _ (World.block_lt_of_cell? _ _ (hHeld.2.2.2.2.1))).trans (hHeld.2.2.2.2.1), (World.cell?_alloc_lt _ _ _ (World.block_lt_of_cell? _ _ (hHeld.2.2.2.2.2.1))).trans (hHeld.2.2.2.2.2.1), (World.cell?_alloc_lt _ _ _ (World.block_lt_of_cell? _ _ (hHeld.2.2.2.2.2.2.1))).trans (hHeld.2.2.2.2.2.2.1), (World.cell?_alloc_lt _ _ _ (World.block_lt_of_cell? _ _ (hHeld.2.2.2.2.2.2.2.1))).trans (hHeld.2.2.2.2.2.2.2.1), (World.cell?_alloc_lt _ _ _ (World.block_lt_of_cell? _ _ (hHeld.2.2.2.2.2.2.2.2.1))).trans (hHeld.2.2.2.2.2.2.2.2.1), (World.cell?_alloc_lt _ _ _ (World.block_lt_of_cell? _ _ (hHeld.2.2.2.2.2.2.2.2.2.1))).trans (hHeld.2.2.2.2.2.2.2.2.2.1), (World.cell?_alloc_lt _ _ _ (World.block_lt_of_cell? _ _ (hHeld.2.2.2.2.2.2.2.2.2.2.1))).trans (hHeld.2.2.2.2.2.2.2.2.2.2.1), (World.cell?_alloc_lt _ _ _ (World.block_lt_of_cell? _ _ (hHeld.2.2.2.2.2.2.2.2.2.2.2.1))).trans (hHeld.2.2.2.2.2.2.2.2.2.2.2.1), (World.cell?_alloc_lt _ _ _ (World.block_lt_of_cell? _ _ (hHeld.2.2.2.2.2.2.2.2.2.2.2.2))).trans (hHeld.2.2.2.2.2.2.2.2.2.2.2.2)⟩ (fun hHeld => ?_)
      clear hK K
      refine norm_ (a' := ?_) ?_ ?_
      rotate_left
      · show Act.put _ (some 5) _ = _
        simp only [Act.put, List.setIfInBounds_toArray, List.set_cons_zero, List.set_cons_succ, i64_w, i32_w]
        rfl
      refine one_ (i := 4) (N := some 14) #[true, true, true, true, true, false, false, false, true, false, false] rfl rfl (one_of HT_.out (by kernel_rfl)) (by decide) (fun K hK => ?_)
      refine goes_ Try.func55 (by kernel_rfl) rfl #[.agg #[.slice A B.all.length c], .agg #[.int .i64 o.f0, .int .i64 o.f1, .int .i64 o.f2, .int .i64 o.f3, .int .i64 o.f4, .int .i64 o.f5, .int .i64 o.f6, .int .i64 o.f7, .int .i64 o.f8, .int .i64 o.f9, .int .i64 o.f10, .int .i64 o.f11]] (by rfl) rfl rfl (by simp only [List.map_toArray, List.map_cons, List.map_nil]; rfl) ?_
      with_reducible refine (HV4.out _ (Kd.V_alloc HVV.out _)).mono ?_
      rintro e w5 ⟨v0, rfl, hv, hb⟩
      refine ⟨_, rfl, ?_⟩
      obtain ⟨A1, c1, e1_⟩ := Kd.V_slice hv
      subst e1_
      refine hK.out _ _ ⟨(hb.cell (World.block_lt_of_cell? _ _ (hHeld.1))).trans (hHeld.1), (hb.cell (World.block_lt_of_cell? _ _ (hHeld.2.1))).trans (hHeld.2.1), (hb.cell (World.block_lt_of_cell? _ _ (hHeld.2.2.1))).trans (hHeld.2.2.1), (hb.cell (World.block_lt_of_cell? _ _ (hHeld.2.2.2.1))).trans (hHeld.2.2.2.1), (hb.cell (World.block_lt_of_cell? _ _ (hHeld.2.2.2.2.1))).trans (hHeld.2.2.2.2.1), (hb.cell (World.block_lt_of_cell? _ _ (hHeld.2.2.2.2.2.1))).trans (hHeld.2.2.2.2.2.1), (hb.cell (World.block_lt_of_cell? _ _ (hHeld.2.2.2.2.2.2.1))).trans (hHeld.2.2.2.2.2.2.1), (hb.cell (World.block_lt_of_cell? _ _ (hHeld.2.2.2.2.2.2.2.1))).trans (hHeld.2.2.2.2.2.2.2.1), (hb.cell (World.block_lt_of_cell? _ _ (hHeld.2.2.2.2.2.2.2.2.1))).trans (hHeld.2.2.2.2.2.2.2.2.1), (hb.cell (World.block_lt_of_cell? _ _ (hHeld.2.2.2.2.2.2.2.2.2.1))).trans (hHeld.2.2.2.2.2.2.2.2.2.1), (hb.cell (World.block_lt_of_cell? _ _ (hHeld.2.2.2.2.2.2.2.2.2.2.1))).trans (hHeld.2.2.2.2.2.2.2.2.2.2.1), (hb.cell (World.block_lt_of_cell? _ _ (hHeld.2.2.2.2.2.2.2.2.2.2.2.1))).trans (hHeld.2.2.2.2.2.2.2.2.2.2.2.1), (hb.cell (World.block_lt_of_cell? _ _ (hHeld.2.2.2.2.2.2.2.2.2.2.2.2))).trans (hHeld.2.2.2.2.2.2.2.2.2.2.2.2)⟩ (fun hHeld => ?_)
      clear hK K
      refine norm_ (a' := ?_) ?_ ?_
      rotate_left
      · show Act.put _ (some 14) _ = _
        simp only [Act.put, List.setIfInBounds_toArray, List.set_cons_zero, List.set_cons_succ, i64_w, i32_w]
        rfl
      refine pure_ (i := 5) (N := some 9) (v := ?_) (a' := ?_) #[true, true, true, true, true, true, false, false, true, false, false] rfl rfl (any_of HT_.out (by kernel_rfl)) (fun _ _ _ h => h) (Or.inl ⟨by rfl, ?_⟩) ?_ ?_
      rotate_left
      · intro w'
        go_simp
        with_reducible rfl
      rotate_left
      · simp only [Act.put, List.setIfInBounds_toArray, List.set_cons_zero, List.set_cons_succ, i64_w, i32_w]
        rfl
      refine pure_ (i := 6) (N := some 15) (v := ?_) (a' := ?_) #[true, true, true, true, true, true, true, false, true, false, false] rfl rfl (any_of HT_.out (by kernel_rfl)) (fun _ _ _ h => h) (Or.inl ⟨by rfl, ?_⟩) ?_ ?_
      rotate_left
      · intro w'
        go_simp
        with_reducible rfl
      rotate_left
      · simp only [Act.put, List.setIfInBounds_toArray, List.set_cons_zero, List.set_cons_succ, i64_w, i32_w]
        rfl
      refine pure_ (i := 7) (N := some 16) (v := ?_) (a' := ?_) #[true, true, true, true, true, true, true, true, true, false, false] rfl rfl (any_of HT_.out (by kernel_rfl)) (fun _ _ _ h => h) (Or.inl ⟨by rfl, ?_⟩) ?_ ?_
      rotate_left
      · intro w'
        go_simp
        with_reducible rfl
      rotate_left
      · simp only [Act.put, List.setIfInBounds_toArray, List.set_cons_zero, List.set_cons_succ, i64_w, i32_w]
        rfl
      exact norm_ (by simp only [putAll, Act.put, List.setIfInBounds_toArray, List.set_cons_zero, List.set_cons_succ]) (hCont (A1, c1, w4.heap.size) _ ⟨hHeld, Kd.V_mono hv (fun k hk => hk.elim (fun q => ⟨.inl q, Nat.ne_of_lt (HH4.out.lo k q.1).2⟩) (fun q => by have h_ := HZ.out (.cells #[.slice none 0 0] 63); exact ⟨.inr (by omega), (show _ ≠ w4.heap.size by omega)⟩)), below_step (below_alloc (Below.refl _ _) _) hb, blk_below (blk_new w4 _) hb, Nat.le_refl _⟩)
  rintro ⟨A1, c1, g5⟩ w6 ⟨hS, hv, hb, hg5, hge⟩
  dsimp only at hv hg5 hge
  have hHeld : w6.cell? ⟨pr, 0, none⟩ = some (.slice A B.all.length c) ∧ w6.cell? ⟨w.heap.size, 0, none⟩ = some (.int .i64 o.f0) ∧ w6.cell? ⟨w.heap.size, 1, none⟩ = some (.int .i64 o.f1) ∧ w6.cell? ⟨w.heap.size, 2, none⟩ = some (.int .i64 o.f2) ∧ w6.cell? ⟨w.heap.size, 3, none⟩ = some (.int .i64 o.f3) ∧ w6.cell? ⟨w.heap.size, 4, none⟩ = some (.int .i64 o.f4) ∧ w6.cell? ⟨w.heap.size, 5, none⟩ = some (.int .i64 o.f5) ∧ w6.cell? ⟨w.heap.size, 6, none⟩ = some (.int .i64 o.f6) ∧ w6.cell? ⟨w.heap.size, 7, none⟩ = some (.int .i64 o.f7) ∧ w6.cell? ⟨w.heap.size, 8, none⟩ = some (.int .i64 o.f8) ∧ w6.cell? ⟨w.heap.size, 9, none⟩ = some (.int .i64 o.f9) ∧ w6.cell? ⟨w.heap.size, 10, none⟩ = some (.int .i64 o.f10) ∧ w6.cell? ⟨w.heap.size, 11, none⟩ = some (.int .i64 o.f11) := hS
  have HV6 := Aside0.mk hv
  have HB6 := Aside0.mk hb
  have HG6 := Aside0.mk hg5
  have HGE6 := Aside0.mk hge
  have x5 : w6.cell? ⟨g5, 0, none⟩ = some (.slice none 0 0) := (blk_cell hg5 0).trans rfl
  have z5 := blk_frozen hg5 0
  clear hS hv hb hg5 hge
  refine norm_ (a' := ?_) ?_ ?_
  rotate_left
  · simp only [putAll, Act.put, List.setIfInBounds_toArray, List.set_cons_zero, List.set_cons_succ]
    rfl
  refine last_ (i := 9) (N := none) #[true, true, true, true, true, true, true, true, true, true, false] rfl rfl (one_of HT_.out (by kernel_rfl)) (by decide) (fun K hK => ?_)
  refine skip_ (w1 := ?_) (by rfl) rfl ?_ ?_
  rotate_left
  · go_simp
    rfl
  refine hK.out _ _ ?_
  clear hK K
  refine pure_ (i := 10) (N := some 6) (v := ?_) (a' := ?_) #[true, true, true, true, true, true, true, true, true, true, true] rfl rfl (any_of HT_.out (by kernel_rfl)) (fun _ _ _ h => h) (Or.inl ⟨by rfl, ?_⟩) ?_ ?_
  rotate_left
  · intro w'
    go_simp
    with_reducible rfl
  rotate_left
  · simp only [Act.put, List.setIfInBounds_toArray, List.set_cons_zero, List.set_cons_succ, i64_w, i32_w]
    rfl
  refine done_ (done_of HT_.out (by kernel_rfl)) ?_
  have hne : pr ≠ g5 := by have h1_ := (HH4.out.lo pr HH4.out.pr).2; have h2_ := HGE6.out; omega
  have HG7 := Aside0.mk (blk_put (cs := #[.slice none 0 0]) HG6.out 0 (.slice A1 B2.all.length c1) rfl)
  have HP7 := Aside0.mk (blk_far (p := ⟨g5, 0, none⟩) (blk_below HBLK4.out HB6.out) hne (.slice A1 B2.all.length c1))
  have HV7 := Aside0.mk (Kd.V_far (p := ⟨g5, 0, none⟩) HV6.out (fun k hk => hk.2) (.slice A1 B2.all.length c1))
  have HB7 : Aside0 (Below w4.heap.size w4 (w6.setCell ⟨g5, 0, none⟩ (.slice A1 B2.all.length c1))) := ⟨below_set HB6.out HGE6.out⟩
  clear HG6 HV6 HB6 HBLK4 HBLK2 x5 z5 hHeld
  generalize w6.setCell ⟨g5, 0, none⟩ (.slice A1 B2.all.length c1) = w7 at HG7 HP7 HV7 HB7 ⊢
  have x7 : w7.cell? ⟨g5, 0, none⟩ = some (.slice A1 B2.all.length c1) := (blk_cell HG7.out 0).trans rfl
  have y7 : w7.cell? ⟨pr, 0, none⟩ = some (.slice A B.all.length c) := (blk_cell HP7.out 0).trans rfl
  have z7 := blk_frozen HP7.out 0
  go_wp2
  go_ret
  exact RP.step HBW.out (HH4.out.post2 (Kd.V_mono HV7.out (fun k hk => hk.1)) HB7.out r2)
end Go.Proofs.Ythmhehfbepijgaa.Q
