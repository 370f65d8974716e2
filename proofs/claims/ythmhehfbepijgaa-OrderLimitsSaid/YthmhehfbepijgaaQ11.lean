/- Plain Lean functions of the Go functions, and proofs that the Go calls come to them; laid out by this session's program wip/tools/hp.py. -/
import Derived.Test.YthmhehfbepijgaaQ0
import Derived.Test.YthmhehfbepijgaaQ5
import Derived.Test.YthmhehfbepijgaaQ6
import Derived.Test.YthmhehfbepijgaaQ7
namespace Go.Proofs.Ythmhehfbepijgaa.Q
open Go.RowKit Go.Proofs.YthmhehfbepijgaaW.PrintWords Go.Proofs.YthmhehfbepijgaaW.PrintLast Go.Proofs.YthmhehfbepijgaaW.PrintMore
attribute [local go_sem] max2_int min2_int max_two min_two max_three min_three max_four min_four   -- for this text's walks alone
set_option linter.unusedVariables false
set_option linter.unusedSimpArgs false

/-! ### papermillref51_Same: function 26 -/
def papermillref51_Same.l0 : Nat → List (S41) → List (S41) → Int → Option (Bool)
  | 0, _, _, _ => none
  | k + 1, x0, x1, x5 => if x5 < (x0.length : Int) then (if 0 ≤ x5 then (if x5 < (x1.length : Int) then ((papermillref51_SameOne.f k ((rd_T41 x0 x5).f0.f0) ((rd_T41 x0 x5).f0.f1) ((rd_T41 x0 x5).f0.f2) ((rd_T41 x0 x5).f0.f3) ((rd_T41 x0 x5).f0.f4) ((rd_T41 x0 x5).f0.f5) ((rd_T41 x0 x5).f0.f6) ((rd_T41 x0 x5).f0.f7) ((rd_T41 x0 x5).f0.f8) ((rd_T41 x0 x5).f0.f9) ((rd_T41 x0 x5).f0.f10) ((rd_T41 x0 x5).f0.f11) ((rd_T41 x0 x5).f1) ((rd_T41 x0 x5).f2) ((rd_T41 x0 x5).f3) ((rd_T41 x1 x5).f0.f0) ((rd_T41 x1 x5).f0.f1) ((rd_T41 x1 x5).f0.f2) ((rd_T41 x1 x5).f0.f3) ((rd_T41 x1 x5).f0.f4) ((rd_T41 x1 x5).f0.f5) ((rd_T41 x1 x5).f0.f6) ((rd_T41 x1 x5).f0.f7) ((rd_T41 x1 x5).f0.f8) ((rd_T41 x1 x5).f0.f9) ((rd_T41 x1 x5).f0.f10) ((rd_T41 x1 x5).f0.f11) ((rd_T41 x1 x5).f1) ((rd_T41 x1 x5).f2) ((rd_T41 x1 x5).f3)).bind fun t263 => (if t263 = true then (papermillref51_Same.l0 k x0 x1 (wrap64 (x5 + 1))) else (some false))) else (none)) else (none)) else (some true)
def papermillref51_Same.f (k : Nat) (l0 : List (S41)) (l1 : List (S41)) : Option (Bool) := if (l0.length : Int) = (l1.length : Int) then (papermillref51_Same.l0 k l0 l1 0) else (some false)
theorem papermillref51_Same.mono_l : ∀ k, (∀ y0 y1 y2, LeO (papermillref51_Same.l0 k y0 y1 y2) (papermillref51_Same.l0 (k + 1) y0 y1 y2))
  | 0 => fun _ _ _ r h => by simp [papermillref51_Same.l0] at h
  | k + 1 => by
    have ih0 := papermillref51_Same.mono_l k
    · intro y0 y1 y2
      unfold papermillref51_Same.l0
      repeat' first
      | (with_reducible exact ih0 _ _ _)
      | (with_reducible exact papermillref51_SameOne.mono _ _ _ _ _ _ _ _ _ _ _ _ _ _ _ _ _ _ _ _ _ _ _ _ _ _ _ _ _ _ _)
      | (with_reducible exact LeO.refl _)
      | (with_reducible exact LeO.none _)
      | (with_reducible refine LeO.ite ?_ ?_)
      | (with_reducible refine LeO.bind ?_ (fun _ => ?_))
      | exact ih0 _ _ _
      | exact papermillref51_SameOne.mono _ _ _ _ _ _ _ _ _ _ _ _ _ _ _ _ _ _ _ _ _ _ _ _ _ _ _ _ _ _ _
      | exact LeO.none _
      | refine LeO.ite ?_ ?_
      | refine LeO.bind ?_ (fun _ => ?_)
theorem papermillref51_Same.mono : ∀ a0 a1 k, LeO (papermillref51_Same.f k a0 a1) (papermillref51_Same.f (k + 1) a0 a1) := by
  intro a0 a1 k
  have ih0 := papermillref51_Same.mono_l k
  unfold papermillref51_Same.f
  repeat' first
      | (with_reducible exact ih0 _ _ _)
      | (with_reducible exact papermillref51_SameOne.mono _ _ _ _ _ _ _ _ _ _ _ _ _ _ _ _ _ _ _ _ _ _ _ _ _ _ _ _ _ _ _)
      | (with_reducible exact LeO.refl _)
      | (with_reducible exact LeO.none _)
      | (with_reducible refine LeO.ite ?_ ?_)
      | (with_reducible refine LeO.bind ?_ (fun _ => ?_))
      | exact ih0 _ _ _
      | exact papermillref51_SameOne.mono _ _ _ _ _ _ _ _ _ _ _ _ _ _ _ _ _ _ _ _ _ _ _ _ _ _ _ _ _ _ _
      | exact LeO.none _
      | refine LeO.ite ?_ ?_
      | refine LeO.bind ?_ (fun _ => ?_)
def papermillref51_Same.T6 : Bool × List (List Nat × List Nat) := (true, [([], []), ([], []), ([0, 1], [0, 1]), ([2], [2]), ([], []), ([], []), ([4, 5], [4, 5]), ([6], [6]), ([3, 7], [3, 7]), ([8], [8])])
def papermillref51_Same.B6 : List Nat := [0, 0, 3, 7, 0, 0, 48, 112, 255, 511]
theorem papermillref51_Same.tab6 : rtab .any (opsOf Try.f26 6) = papermillref51_Same.T6 := by kernel_rfl
theorem papermillref51_Same.bits6 : waitsOk papermillref51_Same.T6.2 papermillref51_Same.B6 = true := by kernel_rfl
set_option maxHeartbeats 8000000 in
set_option maxRecDepth 100000 in
theorem papermillref51_Same.calls (k : Nat) (A0 : Option Addr) (c0 : Nat) (l0 : List (S41)) (A1 : Option Addr) (c1 : Nat) (l1 : List (S41)) (r : Bool) (w : World) (hr0 : Kd.C k41 w A0 l0.length l0) (hc0 : l0.length ≤ c0) (hr1 : Kd.C k41 w A1 l1.length l1) (hc1 : l1.length ≤ c1) (h : papermillref51_Same.f k l0 l1 = some r) :
    Calls Try.prog 26 #[.slice A0 l0.length c0, .slice A1 l1.length c1] w fun e w' => e = .returned (.bool r) ∧ Below w.heap.size w w' := by
  have hu41 := Try.underlying41
  have HR0 := Aside0.mk hr0
  have HC0 := Aside0.mk hc0
  clear hr0 hc0
  have HR1 := Aside0.mk hr1
  have HC1 := Aside0.mk hc1
  clear hr1 hc1
  have HB := Aside0.mk (Below.refl w.heap.size w)
  have H : (if (l0.length : Int) = (l1.length : Int) then (papermillref51_Same.l0 k l0 l1 0) else (some false)) = some r := h
  clear h
  by_cases c3 : (l0.length : Int) = (l1.length : Int)
  · rw [if_pos c3] at H
    have c3b0 : ((l0.length : Int) == (l1.length : Int)) = true := beq_iff_eq.mpr c3
    have c3b1 : ((l0.length : Int) != (l1.length : Int)) = false := bne_eq_false_iff_eq.mpr c3
    have c3b2 : (l0.length == l1.length) = true := by first | simpa using c3 | (simp at c3 ⊢; omega)
    clear c3
    have H' := Aside0.mk H
    clear H
    go_enter Try.func26, Try.ntmps26
    go_wp2
    go_loopg [5] k (fun kq v5 w' => ∃ (x5_1 : Int), v5 = .int .i64 x5_1 ∧ Aside0 (papermillref51_Same.l0 kq l0 l1 x5_1 = some r) ∧ Aside0 (kq ≤ k) ∧ Aside0 (Below w.heap.size w w'))
    case atStart => exact ⟨(0), (by first | rfl | (simp; done) | (simp [*]; done)), H', ⟨Nat.le_refl _⟩, ⟨by repeat (first | (with_reducible first | exact HB.out | apply below_alloc | apply pw_below_drewN | apply below_drew1) | exact HB.out)⟩⟩
    case round =>
      clear H'
      try clear c1
      try clear c2
      try clear p2
      try clear c3
      try clear c3b0
      try clear c3b1
      try clear c3b2
      obtain ⟨x5_1, rfl, HA, HK1, HB⟩ := hrel
      cases gk with
      | zero => exact absurd HA.out (by simp [papermillref51_Same.l0])
      | succ k1 =>
        have H := HA.out
        clear HA
        simp only [papermillref51_Same.l0] at H
        by_cases c4 : x5_1 < (l0.length : Int)
        · rw [if_pos c4] at H
          have c4b0 : decide (x5_1 < (l0.length : Int)) = true := decide_eq_true c4
          clear c4
          by_cases c5 : 0 ≤ x5_1
          · rw [if_pos c5] at H
            have c5b0 : decide (0 ≤ x5_1) = true := decide_eq_true c5
            clear c5
            by_cases c6 : x5_1 < (l1.length : Int)
            · rw [if_pos c6] at H
              have c6b0 : decide (x5_1 < (l1.length : Int)) = true := decide_eq_true c6
              clear c6
              replace H := Option.bind_eq_some_iff.mp H
              obtain ⟨t263, A70, H⟩ := H
              replace H : (if t263 = true then (papermillref51_Same.l0 k1 l0 l1 (wrap64 (x5_1 + 1))) else (some false)) = some r := H
              have A7 := Aside0.mk A70
              clear A70
              by_cases c8 : t263 = true
              · subst c8
                have H1 : (papermillref51_Same.l0 k1 l0 l1 (wrap64 (x5_1 + 1))) = some r := by rw [if_pos rfl] at H; exact H
                clear H
                have H := H1
                clear H1
                have H' := Aside0.mk H
                clear H
                try go_wp2
                have n0_ := Aside0.mk (below_drew1 HB.out)
                clear HB
                have HB := n0_
                clear n0_
                have p261 : 0 ≤ (x5_1 : Int) := of_decide_eq_true (by first | (with_reducible assumption) | assumption)
                have q261 : x5_1 < (l0.length : Int) := of_decide_eq_true (by first | (with_reducible assumption) | assumption)
                obtain ⟨ad261, A261_12, c261_12, A261_13, c261_13, e261, hx261_0, hx261_1, hx261_2, hx261_3, hx261_4, hx261_5, hx261_6, hx261_7, hx261_8, hx261_9, hx261_10, hx261_11, hx261_12, hx261_13, hx261_14, hl261_12, hi261_12, hl261_13, hi261_13⟩ := at_T41 HR0.out x5_1 p261 q261
                have hw261_14 := hx261_14
                have hw261_13 := hx261_13
                have hw261_12 := hx261_12
                have hw261_11 := hx261_11
                have hw261_10 := hx261_10
                have hw261_9 := hx261_9
                have hw261_8 := hx261_8
                have hw261_7 := hx261_7
                have hw261_6 := hx261_6
                have hw261_5 := hx261_5
                have hw261_4 := hx261_4
                have hw261_3 := hx261_3
                have hw261_2 := hx261_2
                have hw261_1 := hx261_1
                have hw261_0 := hx261_0
                cases e261
                replace hx261_0 := (HB.out.cell (World.block_lt_of_cell? w _ hx261_0)).trans hx261_0
                replace hx261_1 := (HB.out.cell (World.block_lt_of_cell? w _ hx261_1)).trans hx261_1
                replace hx261_2 := (HB.out.cell (World.block_lt_of_cell? w _ hx261_2)).trans hx261_2
                replace hx261_3 := (HB.out.cell (World.block_lt_of_cell? w _ hx261_3)).trans hx261_3
                replace hx261_4 := (HB.out.cell (World.block_lt_of_cell? w _ hx261_4)).trans hx261_4
                replace hx261_5 := (HB.out.cell (World.block_lt_of_cell? w _ hx261_5)).trans hx261_5
                replace hx261_6 := (HB.out.cell (World.block_lt_of_cell? w _ hx261_6)).trans hx261_6
                replace hx261_7 := (HB.out.cell (World.block_lt_of_cell? w _ hx261_7)).trans hx261_7
                replace hx261_8 := (HB.out.cell (World.block_lt_of_cell? w _ hx261_8)).trans hx261_8
                replace hx261_9 := (HB.out.cell (World.block_lt_of_cell? w _ hx261_9)).trans hx261_9
                replace hx261_10 := (HB.out.cell (World.block_lt_of_cell? w _ hx261_10)).trans hx261_10
                replace hx261_11 := (HB.out.cell (World.block_lt_of_cell? w _ hx261_11)).trans hx261_11
                replace hx261_12 := (HB.out.cell (World.block_lt_of_cell? w _ hx261_12)).trans hx261_12
                replace hx261_13 := (HB.out.cell (World.block_lt_of_cell? w _ hx261_13)).trans hx261_13
                replace hx261_14 := (HB.out.cell (World.block_lt_of_cell? w _ hx261_14)).trans hx261_14
                have HR261_12 := Aside0.mk hi261_12
                have HC261_12 := Aside0.mk hl261_12
                clear hi261_12 hl261_12
                have HR261_13 := Aside0.mk hi261_13
                have HC261_13 := Aside0.mk hl261_13
                clear hi261_13 hl261_13
                replace p261 := eq_true p261
                replace q261 := eq_true q261
                have p262 : 0 ≤ (x5_1 : Int) := of_decide_eq_true (by first | (with_reducible assumption) | assumption)
                have q262 : x5_1 < (l1.length : Int) := of_decide_eq_true (by first | (with_reducible assumption) | assumption)
                obtain ⟨ad262, A262_12, c262_12, A262_13, c262_13, e262, hx262_0, hx262_1, hx262_2, hx262_3, hx262_4, hx262_5, hx262_6, hx262_7, hx262_8, hx262_9, hx262_10, hx262_11, hx262_12, hx262_13, hx262_14, hl262_12, hi262_12, hl262_13, hi262_13⟩ := at_T41 HR1.out x5_1 p262 q262
                have hw262_14 := hx262_14
                have hw262_13 := hx262_13
                have hw262_12 := hx262_12
                have hw262_11 := hx262_11
                have hw262_10 := hx262_10
                have hw262_9 := hx262_9
                have hw262_8 := hx262_8
                have hw262_7 := hx262_7
                have hw262_6 := hx262_6
                have hw262_5 := hx262_5
                have hw262_4 := hx262_4
                have hw262_3 := hx262_3
                have hw262_2 := hx262_2
                have hw262_1 := hx262_1
                have hw262_0 := hx262_0
                cases e262
                replace hx262_0 := (HB.out.cell (World.block_lt_of_cell? w _ hx262_0)).trans hx262_0
                replace hx262_1 := (HB.out.cell (World.block_lt_of_cell? w _ hx262_1)).trans hx262_1
                replace hx262_2 := (HB.out.cell (World.block_lt_of_cell? w _ hx262_2)).trans hx262_2
                replace hx262_3 := (HB.out.cell (World.block_lt_of_cell? w _ hx262_3)).trans hx262_3
                replace hx262_4 := (HB.out.cell (World.block_lt_of_cell? w _ hx262_4)).trans hx262_4
                replace hx262_5 := (HB.out.cell (World.block_lt_of_cell? w _ hx262_5)).trans hx262_5
                replace hx262_6 := (HB.out.cell (World.block_lt_of_cell? w _ hx262_6)).trans hx262_6
                replace hx262_7 := (HB.out.cell (World.block_lt_of_cell? w _ hx262_7)).trans hx262_7
                replace hx262_8 := (HB.out.cell (World.block_lt_of_cell? w _ hx262_8)).trans hx262_8
                replace hx262_9 := (HB.out.cell (World.block_lt_of_cell? w _ hx262_9)).trans hx262_9
                replace hx262_10 := (HB.out.cell (World.block_lt_of_cell? w _ hx262_10)).trans hx262_10
                replace hx262_11 := (HB.out.cell (World.block_lt_of_cell? w _ hx262_11)).trans hx262_11
                replace hx262_12 := (HB.out.cell (World.block_lt_of_cell? w _ hx262_12)).trans hx262_12
                replace hx262_13 := (HB.out.cell (World.block_lt_of_cell? w _ hx262_13)).trans hx262_13
                replace hx262_14 := (HB.out.cell (World.block_lt_of_cell? w _ hx262_14)).trans hx262_14
                have HR262_12 := Aside0.mk hi262_12
                have HC262_12 := Aside0.mk hl262_12
                clear hi262_12 hl262_12
                have HR262_13 := Aside0.mk hi262_13
                have HC262_13 := Aside0.mk hl262_13
                clear hi262_13 hl262_13
                replace p262 := eq_true p262
                replace q262 := eq_true q262
                refine start_ (n := 10) (S := fun w' => w'.cell? (ad261.add ((x5_1).toNat * 15)) = some (.int .i64 ((rd_T41 l0 x5_1).f0.f0)) ∧ w'.cell? ⟨(ad261.add ((x5_1).toNat * 15)).block, (ad261.add ((x5_1).toNat * 15)).off + 1, none⟩ = some (.int .i64 ((rd_T41 l0 x5_1).f0.f1)) ∧ w'.cell? ⟨(ad261.add ((x5_1).toNat * 15)).block, (ad261.add ((x5_1).toNat * 15)).off + 2, none⟩ = some (.int .i64 ((rd_T41 l0 x5_1).f0.f2)) ∧ w'.cell? ⟨(ad261.add ((x5_1).toNat * 15)).block, (ad261.add ((x5_1).toNat * 15)).off + 3, none⟩ = some (.int .i64 ((rd_T41 l0 x5_1).f0.f3)) ∧ w'.cell? ⟨(ad261.add ((x5_1).toNat * 15)).block, (ad261.add ((x5_1).toNat * 15)).off + 4, none⟩ = some (.int .i64 ((rd_T41 l0 x5_1).f0.f4)) ∧ w'.cell? ⟨(ad261.add ((x5_1).toNat * 15)).block, (ad261.add ((x5_1).toNat * 15)).off + 5, none⟩ = some (.int .i64 ((rd_T41 l0 x5_1).f0.f5)) ∧ w'.cell? ⟨(ad261.add ((x5_1).toNat * 15)).block, (ad261.add ((x5_1).toNat * 15)).off + 6, none⟩ = some (.int .i64 ((rd_T41 l0 x5_1).f0.f6)) ∧ w'.cell? ⟨(ad261.add ((x5_1).toNat * 15)).block, (ad261.add ((x5_1).toNat * 15)).off + 7, none⟩ = some (.int .i64 ((rd_T41 l0 x5_1).f0.f7)) ∧ w'.cell? ⟨(ad261.add ((x5_1).toNat * 15)).block, (ad261.add ((x5_1).toNat * 15)).off + 8, none⟩ = some (.int .i64 ((rd_T41 l0 x5_1).f0.f8)) ∧ w'.cell? ⟨(ad261.add ((x5_1).toNat * 15)).block, (ad261.add ((x5_1).toNat * 15)).off + 9, none⟩ = some (.int .i64 ((rd_T41 l0 x5_1).f0.f9)) ∧ w'.cell? ⟨(ad261.add ((x5_1).toNat * 15)).block, (ad261.add ((x5_1).toNat * 15)).off + 10, none⟩ = some (.int .i64 ((rd_T41 l0 x5_1).f0.f10)) ∧ w'.cell? ⟨(ad261.add ((x5_1).toNat * 15)).block, (ad261.add ((x5_1).toNat * 15)).off + 11, none⟩ = some (.int .i64 ((rd_T41 l0 x5_1).f0.f11)) ∧ w'.cell? ⟨(ad261.add ((x5_1).toNat * 15)).block, (ad261.add ((x5_1).toNat * 15)).off + 12, none⟩ = some (.slice A261_12 ((rd_T41 l0 x5_1).f1).length c261_12) ∧ w'.cell? ⟨(ad261.add ((x5_1).toNat * 15)).block, (ad261.add ((x5_1).toNat * 15)).off + 13, none⟩ = some (.slice A261_13 ((rd_T41 l0 x5_1).f2).length c261_13) ∧ w'.cell? ⟨(ad261.add ((x5_1).toNat * 15)).block, (ad261.add ((x5_1).toNat * 15)).off + 14, none⟩ = some (.bool ((rd_T41 l0 x5_1).f3)) ∧ w'.cell? (ad262.add ((x5_1).toNat * 15)) = some (.int .i64 ((rd_T41 l1 x5_1).f0.f0)) ∧ w'.cell? ⟨(ad262.add ((x5_1).toNat * 15)).block, (ad262.add ((x5_1).toNat * 15)).off + 1, none⟩ = some (.int .i64 ((rd_T41 l1 x5_1).f0.f1)) ∧ w'.cell? ⟨(ad262.add ((x5_1).toNat * 15)).block, (ad262.add ((x5_1).toNat * 15)).off + 2, none⟩ = some (.int .i64 ((rd_T41 l1 x5_1).f0.f2)) ∧ w'.cell? ⟨(ad262.add ((x5_1).toNat * 15)).block, (ad262.add ((x5_1).toNat * 15)).off + 3, none⟩ = some (.int .i64 ((rd_T41 l1 x5_1).f0.f3)) ∧ w'.cell? ⟨(ad262.add ((x5_1).toNat * 15)).block, (ad262.add ((x5_1).toNat * 15)).off + 4, none⟩ = some (.int .i64 ((rd_T41 l1 x5_1).f0.f4)) ∧ w'.cell? ⟨(ad262.add ((x5_1).toNat * 15)).block, (ad262.add ((x5_1).toNat * 15)).off + 5, none⟩ = some (.int .i64 ((rd_T41 l1 x5_1).f0.f5)) ∧ w'.cell? ⟨(ad262.add ((x5_1).toNat * 15)).block, (ad262.add ((x5_1).toNat * 15)).off + 6, none⟩ = some (.int .i64 ((rd_T41 l1 x5_1).f0.f6)) ∧ w'.cell? ⟨(ad262.add ((x5_1).toNat * 15)).block, (ad262.add ((x5_1).toNat * 15)).off + 7, none⟩ = some (.int .i64 ((rd_T41 l1 x5_1).f0.f7)) ∧ w'.cell? ⟨(ad262.add ((x5_1).toNat * 15)).block, (ad262.add ((x5_1).toNat * 15)).off + 8, none⟩ = some (.int .i64 ((rd_T41 l1 x5_1).f0.f8)) ∧ w'.cell? ⟨(ad262.add ((x5_1).toNat * 15)).block, (ad262.add ((x5_1).toNat * 15)).off + 9, none⟩ = some (.int .i64 ((rd_T41 l1 x5_1).f0.f9)) ∧ w'.cell? ⟨(ad262.add ((x5_1).toNat * 15)).block, (ad262.add ((x5_1).toNat * 15)).off + 10, none⟩ = some (.int .i64 ((rd_T41 l1 x5_1).f0.f10)) ∧ w'.cell? ⟨(ad262.add ((x5_1).toNat * 15)).block, (ad262.add ((x5_1).toNat * 15)).off + 11, none⟩ = some (.int .i64 ((rd_T41 l1 x5_1).f0.f11)) ∧ w'.cell? ⟨(ad262.add ((x5_1).toNat * 15)).block, (ad262.add ((x5_1).toNat * 15)).off + 12, none⟩ = some (.slice A262_12 ((rd_T41 l1 x5_1).f1).length c262_12) ∧ w'.cell? ⟨(ad262.add ((x5_1).toNat * 15)).block, (ad262.add ((x5_1).toNat * 15)).off + 13, none⟩ = some (.slice A262_13 ((rd_T41 l1 x5_1).f2).length c262_13) ∧ w'.cell? ⟨(ad262.add ((x5_1).toNat * 15)).block, (ad262.add ((x5_1).toNat * 15)).off + 14, none⟩ = some (.bool ((rd_T41 l1 x5_1).f3))) (ds := []) #[false, false, false, false, false, false, false, false, false, false] (by kernel_rfl) rfl rfl ⟨((HB.out.cell (World.block_lt_of_cell? w _ hw261_0)).trans hw261_0), ((HB.out.cell (World.block_lt_of_cell? w _ hw261_1)).trans hw261_1), ((HB.out.cell (World.block_lt_of_cell? w _ hw261_2)).trans hw261_2), ((HB.out.cell (World.block_lt_of_cell? w _ hw261_3)).trans hw261_3), ((HB.out.cell (World.block_lt_of_cell? w _ hw261_4)).trans hw261_4), ((HB.out.cell (World.block_lt_of_cell? w _ hw261_5)).trans hw261_5), ((HB.out.cell (World.block_lt_of_cell? w _ hw261_6)).trans hw261_6), ((HB.out.cell (World.block_lt_of_cell? w _ hw261_7)).trans hw261_7), ((HB.out.cell (World.block_lt_of_cell? w _ hw261_8)).trans hw261_8), ((HB.out.cell (World.block_lt_of_cell? w _ hw261_9)).trans hw261_9), ((HB.out.cell (World.block_lt_of_cell? w _ hw261_10)).trans hw261_10), ((HB.out.cell (World.block_lt_of_cell? w _ hw261_11)).trans hw261_11), ((HB.out.cell (World.block_lt_of_cell? w _ hw261_12)).trans hw261_12), ((HB.out.cell (World.block_lt_of_cell? w _ hw261_13)).trans hw261_13), ((HB.out.cell (World.block_lt_of_cell? w _ hw261_14)).trans hw261_14), ((HB.out.cell (World.block_lt_of_cell? w _ hw262_0)).trans hw262_0), ((HB.out.cell (World.block_lt_of_cell? w _ hw262_1)).trans hw262_1), ((HB.out.cell (World.block_lt_of_cell? w _ hw262_2)).trans hw262_2), ((HB.out.cell (World.block_lt_of_cell? w _ hw262_3)).trans hw262_3), ((HB.out.cell (World.block_lt_of_cell? w _ hw262_4)).trans hw262_4), ((HB.out.cell (World.block_lt_of_cell? w _ hw262_5)).trans hw262_5), ((HB.out.cell (World.block_lt_of_cell? w _ hw262_6)).trans hw262_6), ((HB.out.cell (World.block_lt_of_cell? w _ hw262_7)).trans hw262_7), ((HB.out.cell (World.block_lt_of_cell? w _ hw262_8)).trans hw262_8), ((HB.out.cell (World.block_lt_of_cell? w _ hw262_9)).trans hw262_9), ((HB.out.cell (World.block_lt_of_cell? w _ hw262_10)).trans hw262_10), ((HB.out.cell (World.block_lt_of_cell? w _ hw262_11)).trans hw262_11), ((HB.out.cell (World.block_lt_of_cell? w _ hw262_12)).trans hw262_12), ((HB.out.cell (World.block_lt_of_cell? w _ hw262_13)).trans hw262_13), ((HB.out.cell (World.block_lt_of_cell? w _ hw262_14)).trans hw262_14)⟩ (fun hHeld => ?_); refine with_tabW papermillref51_Same.tab6 papermillref51_Same.bits6 (fun HT_ HW_ => ?_)
                generalize wr.drew = w9 at HB HR261_12 HR261_13 HR262_12 HR262_13 hx261_0 hx261_1 hx261_10 hx261_11 hx261_12 hx261_13 hx261_14 hx261_2 hx261_3 hx261_4 hx261_5 hx261_6 hx261_7 hx261_8 hx261_9 hx262_0 hx262_1 hx262_10 hx262_11 hx262_12 hx262_13 hx262_14 hx262_2 hx262_3 hx262_4 hx262_5 hx262_6 hx262_7 hx262_8 hx262_9 hHeld ⊢
                refine pure_ (i := 0) (N := some 17) (v := ?_) (a' := ?_) #[true, false, false, false, false, false, false, false, false, false] rfl rfl (any_of HT_.out (by kernel_rfl)) (fun _ _ _ h => h) (Or.inl ⟨by rfl, ?_⟩) ?_ ?_
                rotate_left
                · intro w'
                  go_simp
                  with_reducible rfl
                rotate_left
                · simp only [Act.put, List.setIfInBounds_toArray, List.set_cons_zero, List.set_cons_succ, i64_w, i32_w]
                  rfl
                refine pure_ (i := 1) (N := some 18) (v := ?_) (a' := ?_) #[true, true, false, false, false, false, false, false, false, false] rfl rfl (any_of HT_.out (by kernel_rfl)) (fun _ _ _ h => h) (Or.inl ⟨by rfl, ?_⟩) ?_ ?_
                rotate_left
                · intro w'
                  go_simp
                  with_reducible rfl
                rotate_left
                · simp only [Act.put, List.setIfInBounds_toArray, List.set_cons_zero, List.set_cons_succ, i64_w, i32_w]
                  rfl
                refine pure_ (i := 2) (N := some 19) (v := ?_) (a' := ?_) #[true, true, true, false, false, false, false, false, false, false] rfl rfl (any_of HT_.out (by kernel_rfl)) (fun _ _ _ h => h) (Or.inl ⟨by rfl, ?_⟩) ?_ ?_
                rotate_left
                · intro w'
                  go_simp
                  with_reducible rfl
                rotate_left
                · simp only [Act.put, List.setIfInBounds_toArray, List.set_cons_zero, List.set_cons_succ, i64_w, i32_w]
                  rfl
                refine pure_ (i := 4) (N := some 21) (v := ?_) (a' := ?_) #[true, true, true, false, true, false, false, false, false, false] rfl rfl (any_of HT_.out (by kernel_rfl)) (fun _ _ _ h => h) (Or.inl ⟨by rfl, ?_⟩) ?_ ?_
                rotate_left
                · intro w'
                  go_simp
                  with_reducible rfl
                rotate_left
                · simp only [Act.put, List.setIfInBounds_toArray, List.set_cons_zero, List.set_cons_succ, i64_w, i32_w]
                  rfl
                refine pure_ (i := 5) (N := some 22) (v := ?_) (a' := ?_) #[true, true, true, false, true, true, false, false, false, false] rfl rfl (any_of HT_.out (by kernel_rfl)) (fun _ _ _ h => h) (Or.inl ⟨by rfl, ?_⟩) ?_ ?_
                rotate_left
                · intro w'
                  go_simp
                  with_reducible rfl
                rotate_left
                · simp only [Act.put, List.setIfInBounds_toArray, List.set_cons_zero, List.set_cons_succ, i64_w, i32_w]
                  rfl
                refine pure_ (i := 6) (N := some 23) (v := ?_) (a' := ?_) #[true, true, true, false, true, true, true, false, false, false] rfl rfl (any_of HT_.out (by kernel_rfl)) (fun _ _ _ h => h) (Or.inl ⟨by rfl, ?_⟩) ?_ ?_
                rotate_left
                · intro w'
                  go_simp
                  with_reducible rfl
                rotate_left
                · simp only [Act.put, List.setIfInBounds_toArray, List.set_cons_zero, List.set_cons_succ, i64_w, i32_w]
                  rfl
                refine take_ (i := 3) (N := some 20) (v := ?_) (a' := ?_) #[true, true, true, true, true, true, true, false, false, false] rfl rfl (take_ofW HT_.out HW_.out (by kernel_rfl)) (fun _ _ _ h => h) (Or.inl ⟨by rfl, ?_⟩) hHeld ?_ ?_
                rotate_left
                · rintro w' ⟨s0, s1, s2, s3, s4, s5, s6, s7, s8, s9, s10, s11, s12, s13, s14, s15, s16, s17, s18, s19, s20, s21, s22, s23, s24, s25, s26, s27, s28, s29⟩
                  go_simp
                  with_reducible rfl
                rotate_left
                · simp only [Act.put, List.setIfInBounds_toArray, List.set_cons_zero, List.set_cons_succ, i64_w, i32_w]
                  rfl
                refine take_ (i := 7) (N := some 24) (v := ?_) (a' := ?_) #[true, true, true, true, true, true, true, true, false, false] rfl rfl (take_ofW HT_.out HW_.out (by kernel_rfl)) (fun _ _ _ h => h) (Or.inl ⟨by rfl, ?_⟩) hHeld ?_ ?_
                rotate_left
                · rintro w' ⟨s0, s1, s2, s3, s4, s5, s6, s7, s8, s9, s10, s11, s12, s13, s14, s15, s16, s17, s18, s19, s20, s21, s22, s23, s24, s25, s26, s27, s28, s29⟩
                  go_simp
                  with_reducible rfl
                rotate_left
                · simp only [Act.put, List.setIfInBounds_toArray, List.set_cons_zero, List.set_cons_succ, i64_w, i32_w]
                  rfl
                refine one_ (i := 8) (N := some 25) #[true, true, true, true, true, true, true, true, true, false] rfl rfl (one_of HT_.out (by kernel_rfl)) (by decide) (fun K hK => ?_)
                refine goes_ Try.func22 (by kernel_rfl) rfl #[.agg #[.int .i64 ((rd_T41 l0 x5_1).f0.f0), .int .i64 ((rd_T41 l0 x5_1).f0.f1), .int .i64 ((rd_T41 l0 x5_1).f0.f2), .int .i64 ((rd_T41 l0 x5_1).f0.f3), .int .i64 ((rd_T41 l0 x5_1).f0.f4), .int .i64 ((rd_T41 l0 x5_1).f0.f5), .int .i64 ((rd_T41 l0 x5_1).f0.f6), .int .i64 ((rd_T41 l0 x5_1).f0.f7), .int .i64 ((rd_T41 l0 x5_1).f0.f8), .int .i64 ((rd_T41 l0 x5_1).f0.f9), .int .i64 ((rd_T41 l0 x5_1).f0.f10), .int .i64 ((rd_T41 l0 x5_1).f0.f11), .slice A261_12 ((rd_T41 l0 x5_1).f1).length c261_12, .slice A261_13 ((rd_T41 l0 x5_1).f2).length c261_13, .bool ((rd_T41 l0 x5_1).f3)], .agg #[.int .i64 ((rd_T41 l1 x5_1).f0.f0), .int .i64 ((rd_T41 l1 x5_1).f0.f1), .int .i64 ((rd_T41 l1 x5_1).f0.f2), .int .i64 ((rd_T41 l1 x5_1).f0.f3), .int .i64 ((rd_T41 l1 x5_1).f0.f4), .int .i64 ((rd_T41 l1 x5_1).f0.f5), .int .i64 ((rd_T41 l1 x5_1).f0.f6), .int .i64 ((rd_T41 l1 x5_1).f0.f7), .int .i64 ((rd_T41 l1 x5_1).f0.f8), .int .i64 ((rd_T41 l1 x5_1).f0.f9), .int .i64 ((rd_T41 l1 x5_1).f0.f10), .int .i64 ((rd_T41 l1 x5_1).f0.f11), .slice A262_12 ((rd_T41 l1 x5_1).f1).length c262_12, .slice A262_13 ((rd_T41 l1 x5_1).f2).length c262_13, .bool ((rd_T41 l1 x5_1).f3)]] (by rfl) rfl rfl (by (try simp only [List.map_toArray, List.map_cons, List.map_nil]); first | done | rfl | (simp only [List.length_drop, List.length_take]; rfl)) ?_
                with_reducible refine (papermillref51_SameOne.calls k1 ((rd_T41 l0 x5_1).f0.f0) ((rd_T41 l0 x5_1).f0.f1) ((rd_T41 l0 x5_1).f0.f2) ((rd_T41 l0 x5_1).f0.f3) ((rd_T41 l0 x5_1).f0.f4) ((rd_T41 l0 x5_1).f0.f5) ((rd_T41 l0 x5_1).f0.f6) ((rd_T41 l0 x5_1).f0.f7) ((rd_T41 l0 x5_1).f0.f8) ((rd_T41 l0 x5_1).f0.f9) ((rd_T41 l0 x5_1).f0.f10) ((rd_T41 l0 x5_1).f0.f11) _ _ ((rd_T41 l0 x5_1).f1) _ _ ((rd_T41 l0 x5_1).f2) ((rd_T41 l0 x5_1).f3) ((rd_T41 l1 x5_1).f0.f0) ((rd_T41 l1 x5_1).f0.f1) ((rd_T41 l1 x5_1).f0.f2) ((rd_T41 l1 x5_1).f0.f3) ((rd_T41 l1 x5_1).f0.f4) ((rd_T41 l1 x5_1).f0.f5) ((rd_T41 l1 x5_1).f0.f6) ((rd_T41 l1 x5_1).f0.f7) ((rd_T41 l1 x5_1).f0.f8) ((rd_T41 l1 x5_1).f0.f9) ((rd_T41 l1 x5_1).f0.f10) ((rd_T41 l1 x5_1).f0.f11) _ _ ((rd_T41 l1 x5_1).f1) _ _ ((rd_T41 l1 x5_1).f2) ((rd_T41 l1 x5_1).f3) true _ ?side1 ?side2 ?side3 ?side4 ?side5 ?side6 ?side7 ?side8 A7.out).mono ?_
                (case side1 => repeat (first | exact (Kd.C_below HR261_12.out HB.out) | (with_reducible refine Kd.C_alloc ?_ _) | (with_reducible refine Kd.C_drewN ?_ _) | (with_reducible refine Kd.C_drew ?_)))
                (case side2 => exact HC261_12.out)
                (case side3 => repeat (first | exact (Kd.C_below HR261_13.out HB.out) | (with_reducible refine Kd.C_alloc ?_ _) | (with_reducible refine Kd.C_drewN ?_ _) | (with_reducible refine Kd.C_drew ?_)))
                (case side4 => exact HC261_13.out)
                (case side5 => repeat (first | exact (Kd.C_below HR262_12.out HB.out) | (with_reducible refine Kd.C_alloc ?_ _) | (with_reducible refine Kd.C_drewN ?_ _) | (with_reducible refine Kd.C_drew ?_)))
                (case side6 => exact HC262_12.out)
                (case side7 => repeat (first | exact (Kd.C_below HR262_13.out HB.out) | (with_reducible refine Kd.C_alloc ?_ _) | (with_reducible refine Kd.C_drewN ?_ _) | (with_reducible refine Kd.C_drew ?_)))
                (case side8 => exact HC262_13.out)
                rintro e w10 ⟨rfl, hb⟩
                refine ⟨_, rfl, ?_⟩
                have n0_ := Aside0.mk (below_step (by repeat (first | (with_reducible first | exact HB.out | apply below_alloc | apply pw_below_drewN | apply below_drew1) | exact HB.out)) hb)
                clear HB
                have HB := n0_
                clear n0_
                (try clear hb)
                (try clear hb2)
                (try clear hk)
                (try clear hi)
                refine hK.out _ _ ⟨((HB.out.cell (World.block_lt_of_cell? w _ hw261_0)).trans hw261_0), ((HB.out.cell (World.block_lt_of_cell? w _ hw261_1)).trans hw261_1), ((HB.out.cell (World.block_lt_of_cell? w _ hw261_2)).trans hw261_2), ((HB.out.cell (World.block_lt_of_cell? w _ hw261_3)).trans hw261_3), ((HB.out.cell (World.block_lt_of_cell? w _ hw261_4)).trans hw261_4), ((HB.out.cell (World.block_lt_of_cell? w _ hw261_5)).trans hw261_5), ((HB.out.cell (World.block_lt_of_cell? w _ hw261_6)).trans hw261_6), ((HB.out.cell (World.block_lt_of_cell? w _ hw261_7)).trans hw261_7), ((HB.out.cell (World.block_lt_of_cell? w _ hw261_8)).trans hw261_8), ((HB.out.cell (World.block_lt_of_cell? w _ hw261_9)).trans hw261_9), ((HB.out.cell (World.block_lt_of_cell? w _ hw261_10)).trans hw261_10), ((HB.out.cell (World.block_lt_of_cell? w _ hw261_11)).trans hw261_11), ((HB.out.cell (World.block_lt_of_cell? w _ hw261_12)).trans hw261_12), ((HB.out.cell (World.block_lt_of_cell? w _ hw261_13)).trans hw261_13), ((HB.out.cell (World.block_lt_of_cell? w _ hw261_14)).trans hw261_14), ((HB.out.cell (World.block_lt_of_cell? w _ hw262_0)).trans hw262_0), ((HB.out.cell (World.block_lt_of_cell? w _ hw262_1)).trans hw262_1), ((HB.out.cell (World.block_lt_of_cell? w _ hw262_2)).trans hw262_2), ((HB.out.cell (World.block_lt_of_cell? w _ hw262_3)).trans hw262_3), ((HB.out.cell (World.block_lt_of_cell? w _ hw262_4)).trans hw262_4), ((HB.out.cell (World.block_lt_of_cell? w _ hw262_5)).trans hw262_5), ((HB.out.cell (World.block_lt_of_cell? w _ hw262_6)).trans hw262_6), ((HB.out.cell (World.block_lt_of_cell? w _ hw262_7)).trans hw262_7), ((HB.out.cell (World.block_lt_of_cell? w _ hw262_8)).trans hw262_8), ((HB.out.cell (World.block_lt_of_cell? w _ hw262_9)).trans hw262_9), ((HB.out.cell (World.block_lt_of_cell? w _ hw262_10)).trans hw262_10), ((HB.out.cell (World.block_lt_of_cell? w _ hw262_11)).trans hw262_11), ((HB.out.cell (World.block_lt_of_cell? w _ hw262_12)).trans hw262_12), ((HB.out.cell (World.block_lt_of_cell? w _ hw262_13)).trans hw262_13), ((HB.out.cell (World.block_lt_of_cell? w _ hw262_14)).trans hw262_14)⟩ (fun hHeld => ?_)
                clear hK K
                refine norm_ (a' := ?_) ?_ ?_
                rotate_left
                · show Act.put _ (some 25) _ = _
                  simp only [Act.put, List.setIfInBounds_toArray, List.set_cons_zero, List.set_cons_succ, i64_w, i32_w]
                  rfl
                refine pure_ (i := 9) (N := some 26) (v := ?_) (a' := ?_) #[true, true, true, true, true, true, true, true, true, true] rfl rfl (any_of HT_.out (by kernel_rfl)) (fun _ _ _ h => h) (Or.inl ⟨by rfl, ?_⟩) ?_ ?_
                rotate_left
                · intro w'
                  go_simp
                  with_reducible rfl
                rotate_left
                · simp only [Act.put, List.setIfInBounds_toArray, List.set_cons_zero, List.set_cons_succ, i64_w, i32_w]
                  rfl
                refine done_ (done_of HT_.out (by kernel_rfl)) ?_
                try go_wp2
                go_roundg k1
                case measure => have := HK1.out; omega
                case rel => exact ⟨(wrap64 (x5_1 + 1)), (by first | rfl | (simp; done) | (simp [*]; done)), H', ⟨by have := HK1.out; omega⟩, ⟨by repeat (first | (with_reducible first | exact HB.out | apply below_alloc | apply pw_below_drewN | apply below_drew1) | exact HB.out)⟩⟩
              · replace c8 := Bool.eq_false_iff.mpr c8
                subst c8
                have H1 : (some false) = some r := by rw [if_neg (show ¬ (false = true) by decide)] at H; exact H
                clear H
                have H := H1
                clear H1
                obtain rfl := Option.some.inj H
                try go_wp2
                have n0_ := Aside0.mk (below_drew1 HB.out)
                clear HB
                have HB := n0_
                clear n0_
                have p261 : 0 ≤ (x5_1 : Int) := of_decide_eq_true (by first | (with_reducible assumption) | assumption)
                have q261 : x5_1 < (l0.length : Int) := of_decide_eq_true (by first | (with_reducible assumption) | assumption)
                obtain ⟨ad261, A261_12, c261_12, A261_13, c261_13, e261, hx261_0, hx261_1, hx261_2, hx261_3, hx261_4, hx261_5, hx261_6, hx261_7, hx261_8, hx261_9, hx261_10, hx261_11, hx261_12, hx261_13, hx261_14, hl261_12, hi261_12, hl261_13, hi261_13⟩ := at_T41 HR0.out x5_1 p261 q261
                have hw261_14 := hx261_14
                have hw261_13 := hx261_13
                have hw261_12 := hx261_12
                have hw261_11 := hx261_11
                have hw261_10 := hx261_10
                have hw261_9 := hx261_9
                have hw261_8 := hx261_8
                have hw261_7 := hx261_7
                have hw261_6 := hx261_6
                have hw261_5 := hx261_5
                have hw261_4 := hx261_4
                have hw261_3 := hx261_3
                have hw261_2 := hx261_2
                have hw261_1 := hx261_1
                have hw261_0 := hx261_0
                cases e261
                replace hx261_0 := (HB.out.cell (World.block_lt_of_cell? w _ hx261_0)).trans hx261_0
                replace hx261_1 := (HB.out.cell (World.block_lt_of_cell? w _ hx261_1)).trans hx261_1
                replace hx261_2 := (HB.out.cell (World.block_lt_of_cell? w _ hx261_2)).trans hx261_2
                replace hx261_3 := (HB.out.cell (World.block_lt_of_cell? w _ hx261_3)).trans hx261_3
                replace hx261_4 := (HB.out.cell (World.block_lt_of_cell? w _ hx261_4)).trans hx261_4
                replace hx261_5 := (HB.out.cell (World.block_lt_of_cell? w _ hx261_5)).trans hx261_5
                replace hx261_6 := (HB.out.cell (World.block_lt_of_cell? w _ hx261_6)).trans hx261_6
                replace hx261_7 := (HB.out.cell (World.block_lt_of_cell? w _ hx261_7)).trans hx261_7
                replace hx261_8 := (HB.out.cell (World.block_lt_of_cell? w _ hx261_8)).trans hx261_8
                replace hx261_9 := (HB.out.cell (World.block_lt_of_cell? w _ hx261_9)).trans hx261_9
                replace hx261_10 := (HB.out.cell (World.block_lt_of_cell? w _ hx261_10)).trans hx261_10
                replace hx261_11 := (HB.out.cell (World.block_lt_of_cell? w _ hx261_11)).trans hx261_11
                replace hx261_12 := (HB.out.cell (World.block_lt_of_cell? w _ hx261_12)).trans hx261_12
                replace hx261_13 := (HB.out.cell (World.block_lt_of_cell? w _ hx261_13)).trans hx261_13
                replace hx261_14 := (HB.out.cell (World.block_lt_of_cell? w _ hx261_14)).trans hx261_14
                have HR261_12 := Aside0.mk hi261_12
                have HC261_12 := Aside0.mk hl261_12
                clear hi261_12 hl261_12
                have HR261_13 := Aside0.mk hi261_13
                have HC261_13 := Aside0.mk hl261_13
                clear hi261_13 hl261_13
                replace p261 := eq_true p261
                replace q261 := eq_true q261
                have p262 : 0 ≤ (x5_1 : Int) := of_decide_eq_true (by first | (with_reducible assumption) | assumption)
                have q262 : x5_1 < (l1.length : Int) := of_decide_eq_true (by first | (with_reducible assumption) | assumption)
                obtain ⟨ad262, A262_12, c262_12, A262_13, c262_13, e262, hx262_0, hx262_1, hx262_2, hx262_3, hx262_4, hx262_5, hx262_6, hx262_7, hx262_8, hx262_9, hx262_10, hx262_11, hx262_12, hx262_13, hx262_14, hl262_12, hi262_12, hl262_13, hi262_13⟩ := at_T41 HR1.out x5_1 p262 q262
                have hw262_14 := hx262_14
                have hw262_13 := hx262_13
                have hw262_12 := hx262_12
                have hw262_11 := hx262_11
                have hw262_10 := hx262_10
                have hw262_9 := hx262_9
                have hw262_8 := hx262_8
                have hw262_7 := hx262_7
                have hw262_6 := hx262_6
                have hw262_5 := hx262_5
                have hw262_4 := hx262_4
                have hw262_3 := hx262_3
                have hw262_2 := hx262_2
                have hw262_1 := hx262_1
                have hw262_0 := hx262_0
                cases e262
                replace hx262_0 := (HB.out.cell (World.block_lt_of_cell? w _ hx262_0)).trans hx262_0
                replace hx262_1 := (HB.out.cell (World.block_lt_of_cell? w _ hx262_1)).trans hx262_1
                replace hx262_2 := (HB.out.cell (World.block_lt_of_cell? w _ hx262_2)).trans hx262_2
                replace hx262_3 := (HB.out.cell (World.block_lt_of_cell? w _ hx262_3)).trans hx262_3
                replace hx262_4 := (HB.out.cell (World.block_lt_of_cell? w _ hx262_4)).trans hx262_4
                replace hx262_5 := (HB.out.cell (World.block_lt_of_cell? w _ hx262_5)).trans hx262_5
                replace hx262_6 := (HB.out.cell (World.block_lt_of_cell? w _ hx262_6)).trans hx262_6
                replace hx262_7 := (HB.out.cell (World.block_lt_of_cell? w _ hx262_7)).trans hx262_7
                replace hx262_8 := (HB.out.cell (World.block_lt_of_cell? w _ hx262_8)).trans hx262_8
                replace hx262_9 := (HB.out.cell (World.block_lt_of_cell? w _ hx262_9)).trans hx262_9
                replace hx262_10 := (HB.out.cell (World.block_lt_of_cell? w _ hx262_10)).trans hx262_10
                replace hx262_11 := (HB.out.cell (World.block_lt_of_cell? w _ hx262_11)).trans hx262_11
                replace hx262_12 := (HB.out.cell (World.block_lt_of_cell? w _ hx262_12)).trans hx262_12
                replace hx262_13 := (HB.out.cell (World.block_lt_of_cell? w _ hx262_13)).trans hx262_13
                replace hx262_14 := (HB.out.cell (World.block_lt_of_cell? w _ hx262_14)).trans hx262_14
                have HR262_12 := Aside0.mk hi262_12
                have HC262_12 := Aside0.mk hl262_12
                clear hi262_12 hl262_12
                have HR262_13 := Aside0.mk hi262_13
                have HC262_13 := Aside0.mk hl262_13
                clear hi262_13 hl262_13
                replace p262 := eq_true p262
                replace q262 := eq_true q262
                refine start_ (n := 10) (S := fun w' => w'.cell? (ad261.add ((x5_1).toNat * 15)) = some (.int .i64 ((rd_T41 l0 x5_1).f0.f0)) ∧ w'.cell? ⟨(ad261.add ((x5_1).toNat * 15)).block, (ad261.add ((x5_1).toNat * 15)).off + 1, none⟩ = some (.int .i64 ((rd_T41 l0 x5_1).f0.f1)) ∧ w'.cell? ⟨(ad261.add ((x5_1).toNat * 15)).block, (ad261.add ((x5_1).toNat * 15)).off + 2, none⟩ = some (.int .i64 ((rd_T41 l0 x5_1).f0.f2)) ∧ w'.cell? ⟨(ad261.add ((x5_1).toNat * 15)).block, (ad261.add ((x5_1).toNat * 15)).off + 3, none⟩ = some (.int .i64 ((rd_T41 l0 x5_1).f0.f3)) ∧ w'.cell? ⟨(ad261.add ((x5_1).toNat * 15)).block, (ad261.add ((x5_1).toNat * 15)).off + 4, none⟩ = some (.int .i64 ((rd_T41 l0 x5_1).f0.f4)) ∧ w'.cell? ⟨(ad261.add ((x5_1).toNat * 15)).block, (ad261.add ((x5_1).toNat * 15)).off + 5, none⟩ = some (.int .i64 ((rd_T41 l0 x5_1).f0.f5)) ∧ w'.cell? ⟨(ad261.add ((x5_1).toNat * 15)).block, (ad261.add ((x5_1).toNat * 15)).off + 6, none⟩ = some (.int .i64 ((rd_T41 l0 x5_1).f0.f6)) ∧ w'.cell? ⟨(ad261.add ((x5_1).toNat * 15)).block, (ad261.add ((x5_1).toNat * 15)).off + 7, none⟩ = some (.int .i64 ((rd_T41 l0 x5_1).f0.f7)) ∧ w'.cell? ⟨(ad261.add ((x5_1).toNat * 15)).block, (ad261.add ((x5_1).toNat * 15)).off + 8, none⟩ = some (.int .i64 ((rd_T41 l0 x5_1).f0.f8)) ∧ w'.cell? ⟨(ad261.add ((x5_1).toNat * 15)).block, (ad261.add ((x5_1).toNat * 15)).off + 9, none⟩ = some (.int .i64 ((rd_T41 l0 x5_1).f0.f9)) ∧ w'.cell? ⟨(ad261.add ((x5_1).toNat * 15)).block, (ad261.add ((x5_1).toNat * 15)).off + 10, none⟩ = some (.int .i64 ((rd_T41 l0 x5_1).f0.f10)) ∧ w'.cell? ⟨(ad261.add ((x5_1).toNat * 15)).block, (ad261.add ((x5_1).toNat * 15)).off + 11, none⟩ = some (.int .i64 ((rd_T41 l0 x5_1).f0.f11)) ∧ w'.cell? ⟨(ad261.add ((x5_1).toNat * 15)).block, (ad261.add ((x5_1).toNat * 15)).off + 12, none⟩ = some (.slice A261_12 ((rd_T41 l0 x5_1).f1).length c261_12) ∧ w'.cell? ⟨(ad261.add ((x5_1).toNat * 15)).block, (ad261.add ((x5_1).toNat * 15)).off + 13, none⟩ = some (.slice A261_13 ((rd_T41 l0 x5_1).f2).length c261_13) ∧ w'.cell? ⟨(ad261.add ((x5_1).toNat * 15)).block, (ad261.add ((x5_1).toNat * 15)).off + 14, none⟩ = some (.bool ((rd_T41 l0 x5_1).f3)) ∧ w'.cell? (ad262.add ((x5_1).toNat * 15)) = some (.int .i64 ((rd_T41 l1 x5_1).f0.f0)) ∧ w'.cell? ⟨(ad262.add ((x5_1).toNat * 15)).block, (ad262.add ((x5_1).toNat * 15)).off + 1, none⟩ = some (.int .i64 ((rd_T41 l1 x5_1).f0.f1)) ∧ w'.cell? ⟨(ad262.add ((x5_1).toNat * 15)).block, (ad262.add ((x5_1).toNat * 15)).off + 2, none⟩ = some (.int .i64 ((rd_T41 l1 x5_1).f0.f2)) ∧ w'.cell? ⟨(ad262.add ((x5_1).toNat * 15)).block, (ad262.add ((x5_1).toNat * 15)).off + 3, none⟩ = some (.int .i64 ((rd_T41 l1 x5_1).f0.f3)) ∧ w'.cell? ⟨(ad262.add ((x5_1).toNat * 15)).block, (ad262.add ((x5_1).toNat * 15)).off + 4, none⟩ = some (.int .i64 ((rd_T41 l1 x5_1).f0.f4)) ∧ w'.cell? ⟨(ad262.add ((x5_1).toNat * 15)).block, (ad262.add ((x5_1).toNat * 15)).off + 5, none⟩ = some (.int .i64 ((rd_T41 l1 x5_1).f0.f5)) ∧ w'.cell? ⟨(ad262.add ((x5_1).toNat * 15)).block, (ad262.add ((x5_1).toNat * 15)).off + 6, none⟩ = some (.int .i64 ((rd_T41 l1 x5_1).f0.f6)) ∧ w'.cell? ⟨(ad262.add ((x5_1).toNat * 15)).block, (ad262.add ((x5_1).toNat * 15)).off + 7, none⟩ = some (.int .i64 ((rd_T41 l1 x5_1).f0.f7)) ∧ w'.cell? ⟨(ad262.add ((x5_1).toNat * 15)).block, (ad262.add ((x5_1).toNat * 15)).off + 8, none⟩ = some (.int .i64 ((rd_T41 l1 x5_1).f0.f8)) ∧ w'.cell? ⟨(ad262.add ((x5_1).toNat * 15)).block, (ad262.add ((x5_1).toNat * 15)).off + 9, none⟩ = some (.int .i64 ((rd_T41 l1 x5_1).f0.f9)) ∧ w'.cell? ⟨(ad262.add ((x5_1).toNat * 15)).block, (ad262.add ((x5_1).toNat * 15)).off + 10, none⟩ = some (.int .i64 ((rd_T41 l1 x5_1).f0.f10)) ∧ w'.cell? ⟨(ad262.add ((x5_1).toNat * 15)).block, (ad262.add ((x5_1).toNat * 15)).off + 11, none⟩ = some (.int .i64 ((rd_T41 l1 x5_1).f0.f11)) ∧ w'.cell? ⟨(ad262.add ((x5_1).toNat * 15)).block, (ad262.add ((x5_1).toNat * 15)).off + 12, none⟩ = some (.slice A262_12 ((rd_T41 l1 x5_1).f1).length c262_12) ∧ w'.cell? ⟨(ad262.add ((x5_1).toNat * 15)).block, (ad262.add ((x5_1).toNat * 15)).off + 13, none⟩ = some (.slice A262_13 ((rd_T41 l1 x5_1).f2).length c262_13) ∧ w'.cell? ⟨(ad262.add ((x5_1).toNat * 15)).block, (ad262.add ((x5_1).toNat * 15)).off + 14, none⟩ = some (.bool ((rd_T41 l1 x5_1).f3))) (ds := []) #[false, false, false, false, false, false, false, false, false, false] (by kernel_rfl) rfl rfl ⟨((HB.out.cell (World.block_lt_of_cell? w _ hw261_0)).trans hw261_0), ((HB.out.cell (World.block_lt_of_cell? w _ hw261_1)).trans hw261_1), ((HB.out.cell (World.block_lt_of_cell? w _ hw261_2)).trans hw261_2), ((HB.out.cell (World.block_lt_of_cell? w _ hw261_3)).trans hw261_3), ((HB.out.cell (World.block_lt_of_cell? w _ hw261_4)).trans hw261_4), ((HB.out.cell (World.block_lt_of_cell? w _ hw261_5)).trans hw261_5), ((HB.out.cell (World.block_lt_of_cell? w _ hw261_6)).trans hw261_6), ((HB.out.cell (World.block_lt_of_cell? w _ hw261_7)).trans hw261_7), ((HB.out.cell (World.block_lt_of_cell? w _ hw261_8)).trans hw261_8), ((HB.out.cell (World.block_lt_of_cell? w _ hw261_9)).trans hw261_9), ((HB.out.cell (World.block_lt_of_cell? w _ hw261_10)).trans hw261_10), ((HB.out.cell (World.block_lt_of_cell? w _ hw261_11)).trans hw261_11), ((HB.out.cell (World.block_lt_of_cell? w _ hw261_12)).trans hw261_12), ((HB.out.cell (World.block_lt_of_cell? w _ hw261_13)).trans hw261_13), ((HB.out.cell (World.block_lt_of_cell? w _ hw261_14)).trans hw261_14), ((HB.out.cell (World.block_lt_of_cell? w _ hw262_0)).trans hw262_0), ((HB.out.cell (World.block_lt_of_cell? w _ hw262_1)).trans hw262_1), ((HB.out.cell (World.block_lt_of_cell? w _ hw262_2)).trans hw262_2), ((HB.out.cell (World.block_lt_of_cell? w _ hw262_3)).trans hw262_3), ((HB.out.cell (World.block_lt_of_cell? w _ hw262_4)).trans hw262_4), ((HB.out.cell (World.block_lt_of_cell? w _ hw262_5)).trans hw262_5), ((HB.out.cell (World.block_lt_of_cell? w _ hw262_6)).trans hw262_6), ((HB.out.cell (World.block_lt_of_cell? w _ hw262_7)).trans hw262_7), ((HB.out.cell (World.block_lt_of_cell? w _ hw262_8)).trans hw262_8), ((HB.out.cell (World.block_lt_of_cell? w _ hw262_9)).trans hw262_9), ((HB.out.cell (World.block_lt_of_cell? w _ hw262_10)).trans hw262_10), ((HB.out.cell (World.block_lt_of_cell? w _ hw262_11)).trans hw262_11), ((HB.out.cell (World.block_lt_of_cell? w _ hw262_12)).trans hw262_12), ((HB.out.cell (World.block_lt_of_cell? w _ hw262_13)).trans hw262_13), ((HB.out.cell (World.block_lt_of_cell? w _ hw262_14)).trans hw262_14)⟩ (fun hHeld => ?_); refine with_tabW papermillref51_Same.tab6 papermillref51_Same.bits6 (fun HT_ HW_ => ?_)
                generalize wr.drew = w11 at HB HR261_12 HR261_13 HR262_12 HR262_13 hx261_0 hx261_1 hx261_10 hx261_11 hx261_12 hx261_13 hx261_14 hx261_2 hx261_3 hx261_4 hx261_5 hx261_6 hx261_7 hx261_8 hx261_9 hx262_0 hx262_1 hx262_10 hx262_11 hx262_12 hx262_13 hx262_14 hx262_2 hx262_3 hx262_4 hx262_5 hx262_6 hx262_7 hx262_8 hx262_9 hHeld ⊢
                refine pure_ (i := 0) (N := some 17) (v := ?_) (a' := ?_) #[true, false, false, false, false, false, false, false, false, false] rfl rfl (any_of HT_.out (by kernel_rfl)) (fun _ _ _ h => h) (Or.inl ⟨by rfl, ?_⟩) ?_ ?_
                rotate_left
                · intro w'
                  go_simp
                  with_reducible rfl
                rotate_left
                · simp only [Act.put, List.setIfInBounds_toArray, List.set_cons_zero, List.set_cons_succ, i64_w, i32_w]
                  rfl
                refine pure_ (i := 1) (N := some 18) (v := ?_) (a' := ?_) #[true, true, false, false, false, false, false, false, false, false] rfl rfl (any_of HT_.out (by kernel_rfl)) (fun _ _ _ h => h) (Or.inl ⟨by rfl, ?_⟩) ?_ ?_
                rotate_left
                · intro w'
                  go_simp
                  with_reducible rfl
                rotate_left
                · simp only [Act.put, List.setIfInBounds_toArray, List.set_cons_zero, List.set_cons_succ, i64_w, i32_w]
                  rfl
                refine pure_ (i := 2) (N := some 19) (v := ?_) (a' := ?_) #[true, true, true, false, false, false, false, false, false, false] rfl rfl (any_of HT_.out (by kernel_rfl)) (fun _ _ _ h => h) (Or.inl ⟨by rfl, ?_⟩) ?_ ?_
                rotate_left
                · intro w'
                  go_simp
                  with_reducible rfl
                rotate_left
                · simp only [Act.put, List.setIfInBounds_toArray, List.set_cons_zero, List.set_cons_succ, i64_w, i32_w]
                  rfl
                refine pure_ (i := 4) (N := some 21) (v := ?_) (a' := ?_) #[true, true, true, false, true, false, false, false, false, false] rfl rfl (any_of HT_.out (by kernel_rfl)) (fun _ _ _ h => h) (Or.inl ⟨by rfl, ?_⟩) ?_ ?_
                rotate_left
                · intro w'
                  go_simp
                  with_reducible rfl
                rotate_left
                · simp only [Act.put, List.setIfInBounds_toArray, List.set_cons_zero, List.set_cons_succ, i64_w, i32_w]
                  rfl
                refine pure_ (i := 5) (N := some 22) (v := ?_) (a' := ?_) #[true, true, true, false, true, true, false, false, false, false] rfl rfl (any_of HT_.out (by kernel_rfl)) (fun _ _ _ h => h) (Or.inl ⟨by rfl, ?_⟩) ?_ ?_
                rotate_left
                · intro w'
                  go_simp
                  with_reducible rfl
                rotate_left
                · simp only [Act.put, List.setIfInBounds_toArray, List.set_cons_zero, List.set_cons_succ, i64_w, i32_w]
                  rfl
                refine pure_ (i := 6) (N := some 23) (v := ?_) (a' := ?_) #[true, true, true, false, true, true, true, false, false, false] rfl rfl (any_of HT_.out (by kernel_rfl)) (fun _ _ _ h => h) (Or.inl ⟨by rfl, ?_⟩) ?_ ?_
                rotate_left
                · intro w'
                  go_simp
                  with_reducible rfl
                rotate_left
                · simp only [Act.put, List.setIfInBounds_toArray, List.set_cons_zero, List.set_cons_succ, i64_w, i32_w]
                  rfl
                refine take_ (i := 3) (N := some 20) (v := ?_) (a' := ?_) #[true, true, true, true, true, true, true, false, false, false] rfl rfl (take_ofW HT_.out HW_.out (by kernel_rfl)) (fun _ _ _ h => h) (Or.inl ⟨by rfl, ?_⟩) hHeld ?_ ?_
                rotate_left
                · rintro w' ⟨s0, s1, s2, s3, s4, s5, s6, s7, s8, s9, s10, s11, s12, s13, s14, s15, s16, s17, s18, s19, s20, s21, s22, s23, s24, s25, s26, s27, s28, s29⟩
                  go_simp
                  with_reducible rfl
                rotate_left
                · simp only [Act.put, List.setIfInBounds_toArray, List.set_cons_zero, List.set_cons_succ, i64_w, i32_w]
                  rfl
                refine take_ (i := 7) (N := some 24) (v := ?_) (a' := ?_) #[true, true, true, true, true, true, true, true, false, false] rfl rfl (take_ofW HT_.out HW_.out (by kernel_rfl)) (fun _ _ _ h => h) (Or.inl ⟨by rfl, ?_⟩) hHeld ?_ ?_
                rotate_left
                · rintro w' ⟨s0, s1, s2, s3, s4, s5, s6, s7, s8, s9, s10, s11, s12, s13, s14, s15, s16, s17, s18, s19, s20, s21, s22, s23, s24, s25, s26, s27, s28, s29⟩
                  go_simp
                  with_reducible rfl
                rotate_left
                · simp only [Act.put, List.setIfInBounds_toArray, List.set_cons_zero, List.set_cons_succ, i64_w, i32_w]
                  rfl
                refine one_ (i := 8) (N := some 25) #[true, true, true, true, true, true, true, true, true, false] rfl rfl (one_of HT_.out (by kernel_rfl)) (by decide) (fun K hK => ?_)
                refine goes_ Try.func22 (by kernel_rfl) rfl #[.agg #[.int .i64 ((rd_T41 l0 x5_1).f0.f0), .int .i64 ((rd_T41 l0 x5_1).f0.f1), .int .i64 ((rd_T41 l0 x5_1).f0.f2), .int .i64 ((rd_T41 l0 x5_1).f0.f3), .int .i64 ((rd_T41 l0 x5_1).f0.f4), .int .i64 ((rd_T41 l0 x5_1).f0.f5), .int .i64 ((rd_T41 l0 x5_1).f0.f6), .int .i64 ((rd_T41 l0 x5_1).f0.f7), .int .i64 ((rd_T41 l0 x5_1).f0.f8), .int .i64 ((rd_T41 l0 x5_1).f0.f9), .int .i64 ((rd_T41 l0 x5_1).f0.f10), .int .i64 ((rd_T41 l0 x5_1).f0.f11), .slice A261_12 ((rd_T41 l0 x5_1).f1).length c261_12, .slice A261_13 ((rd_T41 l0 x5_1).f2).length c261_13, .bool ((rd_T41 l0 x5_1).f3)], .agg #[.int .i64 ((rd_T41 l1 x5_1).f0.f0), .int .i64 ((rd_T41 l1 x5_1).f0.f1), .int .i64 ((rd_T41 l1 x5_1).f0.f2), .int .i64 ((rd_T41 l1 x5_1).f0.f3), .int .i64 ((rd_T41 l1 x5_1).f0.f4), .int .i64 ((rd_T41 l1 x5_1).f0.f5), .int .i64 ((rd_T41 l1 x5_1).f0.f6), .int .i64 ((rd_T41 l1 x5_1).f0.f7), .int .i64 ((rd_T41 l1 x5_1).f0.f8), .int .i64 ((rd_T41 l1 x5_1).f0.f9), .int .i64 ((rd_T41 l1 x5_1).f0.f10), .int .i64 ((rd_T41 l1 x5_1).f0.f11), .slice A262_12 ((rd_T41 l1 x5_1).f1).length c262_12, .slice A262_13 ((rd_T41 l1 x5_1).f2).length c262_13, .bool ((rd_T41 l1 x5_1).f3)]] (by rfl) rfl rfl (by (try simp only [List.map_toArray, List.map_cons, List.map_nil]); first | done | rfl | (simp only [List.length_drop, List.length_take]; rfl)) ?_
                with_reducible refine (papermillref51_SameOne.calls k1 ((rd_T41 l0 x5_1).f0.f0) ((rd_T41 l0 x5_1).f0.f1) ((rd_T41 l0 x5_1).f0.f2) ((rd_T41 l0 x5_1).f0.f3) ((rd_T41 l0 x5_1).f0.f4) ((rd_T41 l0 x5_1).f0.f5) ((rd_T41 l0 x5_1).f0.f6) ((rd_T41 l0 x5_1).f0.f7) ((rd_T41 l0 x5_1).f0.f8) ((rd_T41 l0 x5_1).f0.f9) ((rd_T41 l0 x5_1).f0.f10) ((rd_T41 l0 x5_1).f0.f11) _ _ ((rd_T41 l0 x5_1).f1) _ _ ((rd_T41 l0 x5_1).f2) ((rd_T41 l0 x5_1).f3) ((rd_T41 l1 x5_1).f0.f0) ((rd_T41 l1 x5_1).f0.f1) ((rd_T41 l1 x5_1).f0.f2) ((rd_T41 l1 x5_1).f0.f3) ((rd_T41 l1 x5_1).f0.f4) ((rd_T41 l1 x5_1).f0.f5) ((rd_T41 l1 x5_1).f0.f6) ((rd_T41 l1 x5_1).f0.f7) ((rd_T41 l1 x5_1).f0.f8) ((rd_T41 l1 x5_1).f0.f9) ((rd_T41 l1 x5_1).f0.f10) ((rd_T41 l1 x5_1).f0.f11) _ _ ((rd_T41 l1 x5_1).f1) _ _ ((rd_T41 l1 x5_1).f2) ((rd_T41 l1 x5_1).f3) false _ ?side1 ?side2 ?side3 ?side4 ?side5 ?side6 ?side7 ?side8 A7.out).mono ?_
                (case side1 => repeat (first | exact (Kd.C_below HR261_12.out HB.out) | (with_reducible refine Kd.C_alloc ?_ _) | (with_reducible refine Kd.C_drewN ?_ _) | (with_reducible refine Kd.C_drew ?_)))
                (case side2 => exact HC261_12.out)
                (case side3 => repeat (first | exact (Kd.C_below HR261_13.out HB.out) | (with_reducible refine Kd.C_alloc ?_ _) | (with_reducible refine Kd.C_drewN ?_ _) | (with_reducible refine Kd.C_drew ?_)))
                (case side4 => exact HC261_13.out)
                (case side5 => repeat (first | exact (Kd.C_below HR262_12.out HB.out) | (with_reducible refine Kd.C_alloc ?_ _) | (with_reducible refine Kd.C_drewN ?_ _) | (with_reducible refine Kd.C_drew ?_)))
                (case side6 => exact HC262_12.out)
                (case side7 => repeat (first | exact (Kd.C_below HR262_13.out HB.out) | (with_reducible refine Kd.C_alloc ?_ _) | (with_reducible refine Kd.C_drewN ?_ _) | (with_reducible refine Kd.C_drew ?_)))
                (case side8 => exact HC262_13.out)
                rintro e w12 ⟨rfl, hb⟩
                refine ⟨_, rfl, ?_⟩
                have n0_ := Aside0.mk (below_step (by repeat (first | (with_reducible first | exact HB.out | apply below_alloc | apply pw_below_drewN | apply below_drew1) | exact HB.out)) hb)
                clear HB
                have HB := n0_
                clear n0_
                (try clear hb)
                (try clear hb2)
                (try clear hk)
                (try clear hi)
                refine hK.out _ _ ⟨((HB.out.cell (World.block_lt_of_cell? w _ hw261_0)).trans hw261_0), ((HB.out.cell (World.block_lt_of_cell? w _ hw261_1)).trans hw261_1), ((HB.out.cell (World.block_lt_of_cell? w _ hw261_2)).trans hw261_2), ((HB.out.cell (World.block_lt_of_cell? w _ hw261_3)).trans hw261_3), ((HB.out.cell (World.block_lt_of_cell? w _ hw261_4)).trans hw261_4), ((HB.out.cell (World.block_lt_of_cell? w _ hw261_5)).trans hw261_5), ((HB.out.cell (World.block_lt_of_cell? w _ hw261_6)).trans hw261_6), ((HB.out.cell (World.block_lt_of_cell? w _ hw261_7)).trans hw261_7), ((HB.out.cell (World.block_lt_of_cell? w _ hw261_8)).trans hw261_8), ((HB.out.cell (World.block_lt_of_cell? w _ hw261_9)).trans hw261_9), ((HB.out.cell (World.block_lt_of_cell? w _ hw261_10)).trans hw261_10), ((HB.out.cell (World.block_lt_of_cell? w _ hw261_11)).trans hw261_11), ((HB.out.cell (World.block_lt_of_cell? w _ hw261_12)).trans hw261_12), ((HB.out.cell (World.block_lt_of_cell? w _ hw261_13)).trans hw261_13), ((HB.out.cell (World.block_lt_of_cell? w _ hw261_14)).trans hw261_14), ((HB.out.cell (World.block_lt_of_cell? w _ hw262_0)).trans hw262_0), ((HB.out.cell (World.block_lt_of_cell? w _ hw262_1)).trans hw262_1), ((HB.out.cell (World.block_lt_of_cell? w _ hw262_2)).trans hw262_2), ((HB.out.cell (World.block_lt_of_cell? w _ hw262_3)).trans hw262_3), ((HB.out.cell (World.block_lt_of_cell? w _ hw262_4)).trans hw262_4), ((HB.out.cell (World.block_lt_of_cell? w _ hw262_5)).trans hw262_5), ((HB.out.cell (World.block_lt_of_cell? w _ hw262_6)).trans hw262_6), ((HB.out.cell (World.block_lt_of_cell? w _ hw262_7)).trans hw262_7), ((HB.out.cell (World.block_lt_of_cell? w _ hw262_8)).trans hw262_8), ((HB.out.cell (World.block_lt_of_cell? w _ hw262_9)).trans hw262_9), ((HB.out.cell (World.block_lt_of_cell? w _ hw262_10)).trans hw262_10), ((HB.out.cell (World.block_lt_of_cell? w _ hw262_11)).trans hw262_11), ((HB.out.cell (World.block_lt_of_cell? w _ hw262_12)).trans hw262_12), ((HB.out.cell (World.block_lt_of_cell? w _ hw262_13)).trans hw262_13), ((HB.out.cell (World.block_lt_of_cell? w _ hw262_14)).trans hw262_14)⟩ (fun hHeld => ?_)
                clear hK K
                refine norm_ (a' := ?_) ?_ ?_
                rotate_left
                · show Act.put _ (some 25) _ = _
                  simp only [Act.put, List.setIfInBounds_toArray, List.set_cons_zero, List.set_cons_succ, i64_w, i32_w]
                  rfl
                refine pure_ (i := 9) (N := some 26) (v := ?_) (a' := ?_) #[true, true, true, true, true, true, true, true, true, true] rfl rfl (any_of HT_.out (by kernel_rfl)) (fun _ _ _ h => h) (Or.inl ⟨by rfl, ?_⟩) ?_ ?_
                rotate_left
                · intro w'
                  go_simp
                  with_reducible rfl
                rotate_left
                · simp only [Act.put, List.setIfInBounds_toArray, List.set_cons_zero, List.set_cons_succ, i64_w, i32_w]
                  rfl
                refine done_ (done_of HT_.out (by kernel_rfl)) ?_
                try go_wp2
                go_ret
                exact ⟨by first | rfl | (simp [errW_none, errW_some] <;> rfl) | (simp [*, errW_none, errW_some] <;> rfl), by repeat (first | (with_reducible first | exact HB.out | apply below_alloc | apply pw_below_drewN | apply below_drew1) | exact HB.out)⟩
            · rw [if_neg c6] at H
              exact absurd H (by simp)
          · rw [if_neg c5] at H
            exact absurd H (by simp)
        · rw [if_neg c4] at H
          have c4b0 : decide (x5_1 < (l0.length : Int)) = false := decide_eq_false c4
          clear c4
          obtain rfl := Option.some.inj H
          go_wp2
          go_ret
          exact ⟨by first | rfl | (simp [errW_none, errW_some] <;> rfl) | (simp [*, errW_none, errW_some] <;> rfl), by repeat (first | (with_reducible first | exact HB.out | apply below_alloc | apply pw_below_drewN | apply below_drew1) | exact HB.out)⟩
  · rw [if_neg c3] at H
    have c3b0 : ((l0.length : Int) == (l1.length : Int)) = false := beq_eq_false_iff_ne.mpr c3
    have c3b1 : ((l0.length : Int) != (l1.length : Int)) = true := bne_iff_ne.mpr c3
    have c3b2 : (l0.length == l1.length) = false := by first | simpa using c3 | (simp at c3 ⊢; omega)
    obtain rfl := Option.some.inj H
    go_enter Try.func26, Try.ntmps26
    go_wp2
    go_ret
    exact ⟨by first | rfl | (simp [errW_none, errW_some] <;> rfl) | (simp [*, errW_none, errW_some] <;> rfl), by repeat (first | (with_reducible first | exact HB.out | apply below_alloc | apply pw_below_drewN | apply below_drew1) | exact HB.out)⟩
/-! ### The reference's comparisons as one Bool -/
theorem getD_lt {α : Type} {l : List α} {i : Nat} {z : α} (h : i < l.length) : l.getD i z = l[i] := by
  rw [List.getD_eq_getElem?_getD, List.getElem?_eq_getElem h]
  rfl
theorem ints_l0 (l0 l1 : List Int) (hl : l0.length = l1.length) (hb : l0.length ≤ 4611686018427387904) : ∀ (m k i : Nat), i + m = l0.length → m < k → papermillref51_Ints.l0 k l0 l1 (i : Int) = some (decide (l0.drop i = l1.drop i))
  | m, 0, i, _, h => absurd h (Nat.not_lt_zero _)
  | 0, k + 1, i, h, _ => by
    unfold papermillref51_Ints.l0
    rw [if_neg (by omega), List.drop_eq_nil_of_le (by omega), List.drop_eq_nil_of_le (by omega)]
    rfl
  | m + 1, k + 1, i, h, hk => by
    unfold papermillref51_Ints.l0
    have h0 : i < l0.length := by omega
    have h1 : i < l1.length := by omega
    rw [if_pos (by omega), if_pos (by omega), if_pos (by omega)]
    have hd0 := List.drop_eq_getElem_cons h0
    have hd1 := List.drop_eq_getElem_cons h1
    have r0 : rd l0 (i : Int) = l0[i] := by unfold rd; rw [Int.toNat_natCast, getD_lt h0]
    have r1 : rd l1 (i : Int) = l1[i] := by unfold rd; rw [Int.toNat_natCast, getD_lt h1]
    rw [r0, r1]
    by_cases e : l0[i] = l1[i]
    · rw [if_pos e, show wrap64 ((i : Int) + 1) = ((i + 1 : Nat) : Int) by unfold wrap64; omega, ints_l0 l0 l1 hl hb m k (i + 1) (by omega) (by omega), hd0, hd1]
      exact congrArg some (decide_eq_decide.2 ⟨fun h => by rw [e, h], fun h => (List.cons.inj h).2⟩)
    · rw [if_neg e, hd0, hd1, decide_eq_false (fun h => e (List.cons.inj h).1)]
theorem ints_f (l0 l1 : List Int) (hb : l0.length ≤ 4611686018427387904) (k : Nat) (hk : l0.length < k) : papermillref51_Ints.f k l0 l1 = some (decide (l0 = l1)) := by
  unfold papermillref51_Ints.f
  by_cases hl : l0.length = l1.length
  · rw [if_pos (by omega)]
    have := ints_l0 l0 l1 hl hb l0.length k 0 (by omega) hk
    exact this
  · rw [if_neg (by omega), decide_eq_false (fun e => hl (by rw [e]))]
def eq23 (a b : S23) : Bool := a.f0 == b.f0 && (a.f1 == b.f1 && (a.f2 == b.f2 && (a.f3 == b.f3 && (a.f4 == b.f4 && (a.f5 == b.f5 && (a.f6 == b.f6 && (a.f7 == b.f7 && (a.f8 == b.f8 && (a.f9 == b.f9 && (a.f10 == b.f10 && (a.f11 == b.f11)))))))))))
theorem eq23_iff {a b : S23} : eq23 a b = true ↔ a = b := by
  obtain ⟨a0, a1, a2, a3, a4, a5, a6, a7, a8, a9, a10, a11⟩ := a
  obtain ⟨b0, b1, b2, b3, b4, b5, b6, b7, b8, b9, b10, b11⟩ := b
  unfold eq23
  simp only [Bool.and_eq_true, beq_iff_eq, S23.mk.injEq]
def eq41 (a b : S41) : Bool := eq23 a.f0 b.f0 && (decide (a.f1 = b.f1) && (decide (a.f2 = b.f2) && (a.f3 == b.f3)))
theorem eq41_iff {a b : S41} : eq41 a b = true ↔ a = b := by
  obtain ⟨a0, a1, a2, a3⟩ := a
  obtain ⟨b0, b1, b2, b3⟩ := b
  unfold eq41
  simp only [Bool.and_eq_true, eq23_iff, decide_eq_true_eq, beq_iff_eq, S41.mk.injEq]
theorem eq41_refl (a : S41) : eq41 a a = true := eq41_iff.2 rfl
theorem sameOne_f (a b : S41) (h1 : a.f1.length ≤ 4611686018427387904) (h2 : a.f2.length ≤ 4611686018427387904) (k : Nat) (k1 : a.f1.length < k) (k2 : a.f2.length < k) :
    papermillref51_SameOne.f k a.f0.f0 a.f0.f1 a.f0.f2 a.f0.f3 a.f0.f4 a.f0.f5 a.f0.f6 a.f0.f7 a.f0.f8 a.f0.f9 a.f0.f10 a.f0.f11 a.f1 a.f2 a.f3 b.f0.f0 b.f0.f1 b.f0.f2 b.f0.f3 b.f0.f4 b.f0.f5 b.f0.f6 b.f0.f7 b.f0.f8 b.f0.f9 b.f0.f10 b.f0.f11 b.f1 b.f2 b.f3 = some (eq41 a b) := by
  unfold papermillref51_SameOne.f eq41
  rw [ints_f _ _ h1 k k1, ints_f _ _ h2 k k2]
  change (if eq23 a.f0 b.f0 = true then _ else _) = _
  cases eq23 a.f0 b.f0
  · rfl
  · rw [if_pos rfl]
    simp only [Option.bind_some]
    by_cases e1 : a.f1 = b.f1
    · by_cases e2 : a.f2 = b.f2
      · simp [e1, e2]
      · simp [e1, e2]
    · simp [e1]
def eqL41 : List S41 → List S41 → Bool
  | [], [] => true
  | a :: s, b :: t => eq41 a b && eqL41 s t
  | _, _ => false
theorem eqL41_iff : ∀ {s t : List S41}, eqL41 s t = true ↔ s = t
  | [], [] => by simp [eqL41]
  | a :: s, b :: t => by
    unfold eqL41
    rw [Bool.and_eq_true, eq41_iff, eqL41_iff, List.cons.injEq]
  | [], b :: t => by simp [eqL41]
  | a :: s, [] => by simp [eqL41]
theorem same_l0 (l0 l1 : List S41) (hl : l0.length = l1.length) (hb : l0.length ≤ 4611686018427387904) (K : Nat) (hx : ∀ x ∈ l0, x.f1.length ≤ 4611686018427387904 ∧ x.f2.length ≤ 4611686018427387904 ∧ x.f1.length < K ∧ x.f2.length < K) : ∀ (m k i : Nat), i + m = l0.length → m < k → papermillref51_Same.l0 (k + K) l0 l1 (i : Int) = some (eqL41 (l0.drop i) (l1.drop i))
  | m, 0, i, _, h => absurd h (Nat.not_lt_zero _)
  | 0, k + 1, i, h, _ => by
    rw [show k + 1 + K = (k + K) + 1 by omega]
    unfold papermillref51_Same.l0
    rw [if_neg (by omega), List.drop_eq_nil_of_le (by omega), List.drop_eq_nil_of_le (by omega)]
    rfl
  | m + 1, k + 1, i, h, hk => by
    rw [show k + 1 + K = (k + K) + 1 by omega]
    unfold papermillref51_Same.l0
    have h0 : i < l0.length := by omega
    have h1 : i < l1.length := by omega
    rw [if_pos (by omega), if_pos (by omega), if_pos (by omega)]
    have r0 : rd_T41 l0 (i : Int) = l0[i] := by unfold rd_T41; rw [Int.toNat_natCast, getD_lt h0]
    have r1 : rd_T41 l1 (i : Int) = l1[i] := by unfold rd_T41; rw [Int.toNat_natCast, getD_lt h1]
    obtain ⟨q1, q2, q3, q4⟩ := hx l0[i] (List.getElem_mem h0)
    rw [r0, r1, sameOne_f _ _ q1 q2 (k + K) (by omega) (by omega), List.drop_eq_getElem_cons h0, List.drop_eq_getElem_cons h1]
    simp only [Option.bind_some, eqL41]
    cases eq41 l0[i] l1[i]
    · rfl
    · rw [if_pos rfl, show wrap64 ((i : Int) + 1) = ((i + 1 : Nat) : Int) by unfold wrap64; omega, same_l0 l0 l1 hl hb K hx m k (i + 1) (by omega) (by omega)]
      rfl
theorem same_f (l0 l1 : List S41) (hb : l0.length ≤ 4611686018427387904) (K : Nat) (hx : ∀ x ∈ l0, x.f1.length ≤ 4611686018427387904 ∧ x.f2.length ≤ 4611686018427387904 ∧ x.f1.length < K ∧ x.f2.length < K) : papermillref51_Same.f (l0.length + 1 + K) l0 l1 = some (eqL41 l0 l1) := by
  unfold papermillref51_Same.f
  by_cases hl : l0.length = l1.length
  · rw [if_pos (by omega)]
    exact same_l0 l0 l1 hl hb K hx l0.length (l0.length + 1) 0 (by omega) (by omega)
  · rw [if_neg (by omega)]
    have : eqL41 l0 l1 = false := by
      cases h : eqL41 l0 l1
      · rfl
      · exact absurd (congrArg List.length (eqL41_iff.1 h)) hl
    rw [this]
/-- The statuses that a book can have: short lists. -/
def Few (x : S41) : Prop := x.f1.length < 1000 ∧ x.f2.length < 1000
theorem sameOne_calls (a b : S41) (ha : Few a) {A0 A1 A2 A3 : Option Addr} {c0 c1 c2 c3 : Nat} (w : World) (h0 : (Kd.int .i64).C w A0 a.f1.length a.f1) (l0 : a.f1.length ≤ c0) (h1 : (Kd.int .i64).C w A1 a.f2.length a.f2) (l1 : a.f2.length ≤ c1) (h2 : (Kd.int .i64).C w A2 b.f1.length b.f1) (l2 : b.f1.length ≤ c2) (h3 : (Kd.int .i64).C w A3 b.f2.length b.f2) (l3 : b.f2.length ≤ c3) :
    Calls Try.prog 22 #[.agg #[.int .i64 a.f0.f0, .int .i64 a.f0.f1, .int .i64 a.f0.f2, .int .i64 a.f0.f3, .int .i64 a.f0.f4, .int .i64 a.f0.f5, .int .i64 a.f0.f6, .int .i64 a.f0.f7, .int .i64 a.f0.f8, .int .i64 a.f0.f9, .int .i64 a.f0.f10, .int .i64 a.f0.f11, .slice A0 a.f1.length c0, .slice A1 a.f2.length c1, .bool a.f3], .agg #[.int .i64 b.f0.f0, .int .i64 b.f0.f1, .int .i64 b.f0.f2, .int .i64 b.f0.f3, .int .i64 b.f0.f4, .int .i64 b.f0.f5, .int .i64 b.f0.f6, .int .i64 b.f0.f7, .int .i64 b.f0.f8, .int .i64 b.f0.f9, .int .i64 b.f0.f10, .int .i64 b.f0.f11, .slice A2 b.f1.length c2, .slice A3 b.f2.length c3, .bool b.f3]] w fun e w' => e = .returned (.bool (eq41 a b)) ∧ Below w.heap.size w w' :=
  papermillref51_SameOne.calls 1001 _ _ _ _ _ _ _ _ _ _ _ _ A0 c0 _ A1 c1 _ _ _ _ _ _ _ _ _ _ _ _ _ _ A2 c2 _ A3 c3 _ _ (eq41 a b) w h0 l0 h1 l1 h2 l2 h3 l3 (sameOne_f a b (by have := ha.1; omega) (by have := ha.2; omega) 1001 (by have := ha.1; omega) (by have := ha.2; omega))
theorem same_calls (l0 l1 : List S41) (hf : ∀ x ∈ l0, Few x) {A0 A1 : Option Addr} {c0 c1 : Nat} (w : World) (h0 : Kd.C k41 w A0 l0.length l0) (k0 : l0.length ≤ c0) (h1 : Kd.C k41 w A1 l1.length l1) (k1 : l1.length ≤ c1) (hl : l0.length ≤ 1000) :
    Calls Try.prog 26 #[.slice A0 l0.length c0, .slice A1 l1.length c1] w fun e w' => e = .returned (.bool (eqL41 l0 l1)) ∧ Below w.heap.size w w' :=
  papermillref51_Same.calls (l0.length + 1 + 1000) A0 c0 l0 A1 c1 l1 (eqL41 l0 l1) w h0 k0 h1 k1 (same_f l0 l1 (by omega) 1000 (fun x hx => by have := hf x hx; unfold Few at this; omega))
/-! ### What a refused call leaves, and what any call changes -/
theorem do_no {B : Bk} {x : S35} (h : (B.do_ x).2 ≠ 0) : (B.do_ x).1 = B := by
  unfold Bk.do_ at h ⊢
  split
  · rename_i c; rw [if_pos c] at h; unfold Bk.Add at h ⊢; repeat' split
    all_goals first | rfl | (simp_all; done)
  rename_i c
  rw [if_neg c] at h
  split
  · rename_i c; rw [if_pos c] at h; unfold Bk.Amend at h ⊢; repeat' split
    all_goals first | rfl | (simp_all; done)
  rename_i c
  rw [if_neg c] at h
  split
  · rename_i c; rw [if_pos c] at h; unfold Bk.Assign at h ⊢; repeat' split
    all_goals first | rfl | (simp_all; done)
  rename_i c
  rw [if_neg c] at h
  split
  · rename_i c; rw [if_pos c] at h; unfold Bk.Release at h ⊢; repeat' split
    all_goals first | rfl | (simp_all; done)
  rename_i c
  rw [if_neg c] at h
  split
  · rename_i c; rw [if_pos c] at h; unfold Bk.Ship at h ⊢; repeat' split
    all_goals first | rfl | (simp_all; done)
  rename_i c
  rw [if_neg c] at h
  unfold Bk.Close at h ⊢
  repeat' split
  all_goals first | rfl | (simp_all; done)
theorem do_add {B : Bk} {x : S35} (hk : x.f0 = 0) (h : (B.do_ x).2 = 0) : (B.do_ x).1 = ⟨B.es ++ [⟨x.f1, [], false⟩], B.n, B.asg⟩ := by
  unfold Bk.do_ at h ⊢
  rw [if_pos hk] at h ⊢
  unfold Bk.Add at h ⊢
  split at h
  · rename_i c
    rw [if_pos c]
    split at h
    · simp at h
    · rename_i c2
      rw [if_neg c2]
      split at h
      · simp at h
      · rename_i c3
        rw [if_neg c3]
  · rename_i c
    exact absurd h c
/-- What a call with no error changes: the one entry i. -/
structure One (B B' : Bk) (i : Nat) (y y' : S68) : Prop where
  at_ : B.es[i]? = some y
  es : B'.es = B.es.set i y'
  id : y'.f0.f0 = y.f0.f0
  far : ∀ j z, j ≠ i → B.es[j]? = some z → B'.stat z = B.stat z
theorem shipL_far {f : Int → Option (Int × Bool)} {r : Int} {p : Option (Int × Bool)} {l : List Int} (h : r ∉ l) : shipL (Plm.plUpd f r p) l = shipL f l := by
  unfold shipL
  refine List.filter_congr fun n hn => ?_
  unfold Plm.plUpd
  rw [if_neg (fun e : n = r => h (e ▸ hn))]
theorem stat_far {B : Bk} {T : Nat} (hi : B.Inv T) {i j : Nat} {z : S68} {r : Int} {s : Bool} (ha : B.asg r = some ((i : Int), s)) (hne : j ≠ i) (hz : B.es[j]? = some z) : r ∉ z.f1 := fun hm => by
  obtain ⟨s', hs⟩ := (hi.ent j z hz).fwd r hm
  rw [ha] at hs
  injection hs with hs
  injection hs with hs _
  exact hne (by omega)
theorem one_assign {B : Bk} {T : Nat} (hi : B.Inv T) {id roll : Int} (h : (B.Assign id roll).2 = 0) : ∃ i y y', One B (B.Assign id roll).1 i y y' ∧ y.f0.f0 = id ∧ (B.Assign id roll).1.stat y' ≠ B.stat y := by
  obtain ⟨i, x, hx, hid, hcl, hr, ha, hm, hl, e1⟩ := assign_ok hi h
  rw [e1]
  refine ⟨i, x, _, ⟨hx, rfl, rfl, fun j z hne hz => ?_⟩, hid, fun e => ?_⟩
  · unfold Bk.stat
    rw [shipL_far]
    intro hm'
    obtain ⟨s', hs⟩ := (hi.ent j z hz).fwd roll hm'
    rw [ha] at hs
    cases hs
  · have := congrArg (fun s => s.f1.length) e
    simp [Bk.stat] at this
theorem one_release {B : Bk} {T : Nat} (hi : B.Inv T) {roll : Int} (h : (B.Release roll).2 = 0) : ∃ i y y', One B (B.Release roll).1 i y y' ∧ B.Find roll = some (y.f0.f0, true) ∧ (B.Release roll).1.stat y' ≠ B.stat y := by
  have ho : (B.held roll).2 = 0 := by
    unfold Bk.Release at h
    split at h
    · assumption
    · exact h
  obtain ⟨i, x, e1, ha, hx, hm, e2⟩ := held_in hi ho
  have hlt := (List.getElem?_eq_some_iff.1 hx).1
  unfold Bk.Release
  rw [if_pos ho, e2, e1]
  refine ⟨i, x, _, ⟨hx, rfl, rfl, fun j z hne hz => ?_⟩, ?_, fun e => ?_⟩
  · unfold Bk.stat
    rw [shipL_far (stat_far hi ha hne hz)]
  · unfold Bk.Find
    rw [ha]
    simp only
    rw [if_pos (by omega), rd68_of hx]
  · have e3 : delR roll x.f1 = x.f1 := congrArg (fun s => s.f1) e
    have := (mem_delR (roll := roll) (n := roll) (l := x.f1)).1 (by rw [e3]; exact hm)
    exact this.2 rfl
theorem one_ship {B : Bk} {T : Nat} (hi : B.Inv T) {roll : Int} (h : (B.Ship roll).2 = 0) : ∃ i y y', One B (B.Ship roll).1 i y y' ∧ B.Find roll = some (y.f0.f0, true) ∧ (B.Ship roll).1.stat y' ≠ B.stat y := by
  have ho : (B.held roll).2 = 0 := by
    unfold Bk.Ship at h
    split at h
    · assumption
    · exact h
  obtain ⟨i, x, e1, ha, hx, hm, e2⟩ := held_in hi ho
  have hlt := (List.getElem?_eq_some_iff.1 hx).1
  unfold Bk.Ship
  rw [if_pos ho, e1]
  have hset : B.es.set i x = B.es := by
    apply List.ext_getElem?
    intro j
    by_cases e : i = j
    · subst e
      rw [set_self hx, hx]
    · rw [set_other e]
  refine ⟨i, x, x, ⟨hx, hset.symm, rfl, fun j z hne hz => ?_⟩, ?_, fun e => ?_⟩
  · unfold Bk.stat
    rw [shipL_far (stat_far hi ha hne hz)]
  · unfold Bk.Find
    rw [ha]
    simp only
    rw [if_pos (by omega), rd68_of hx]
  · have e3 : shipL (Plm.plUpd B.asg roll (some ((i : Int), true))) x.f1 = shipL B.asg x.f1 := congrArg (fun s => s.f2) e
    have h1 : roll ∈ shipL (Plm.plUpd B.asg roll (some ((i : Int), true))) x.f1 := List.mem_filter.2 ⟨hm, by unfold Plm.plUpd; rw [if_pos rfl]; rfl⟩
    rw [e3] at h1
    have := (List.mem_filter.1 h1).2
    rw [ha] at this
    exact absurd this (by simp)
theorem one_close {B : Bk} {T : Nat} (hi : B.Inv T) {id : Int} (h : (B.Close id).2 = 0) : ∃ i y y', One B (B.Close id).1 i y y' ∧ y.f0.f0 = id ∧ (B.Close id).1.stat y' ≠ B.stat y := by
  unfold Bk.Close at h ⊢
  split at h
  · rename_i ho
    rw [if_pos ho]
    obtain ⟨i, x, e1, hx, hid, hcl, e2⟩ := open_is ho
    rw [e2, e1] at h ⊢
    split at h
    · simp at h
    rename_i h1
    rw [if_neg h1]
    split at h
    · simp at h
    rename_i h2
    rw [if_neg h2]
    refine ⟨i, x, _, ⟨hx, rfl, rfl, fun j z _ _ => rfl⟩, hid, fun e => ?_⟩
    have e3 : true = x.f2 := congrArg (fun s => s.f3) e
    rw [hcl] at e3
    cases e3
  · rename_i ho
    exact absurd h ho
theorem one_amend {B : Bk} {id c : Int} (h : (B.Amend id c).2 = 0) : ∃ i y y', One B (B.Amend id c).1 i y y' ∧ y.f0.f0 = id := by
  unfold Bk.Amend at h ⊢
  split at h
  · rename_i ho
    rw [if_pos ho]
    obtain ⟨i, x, e1, hx, hid, hcl, e2⟩ := open_is ho
    rw [e2, e1] at h ⊢
    split at h
    · simp at h
    rename_i h1
    rw [if_neg h1]
    split at h
    · simp at h
    rename_i h2
    rw [if_neg h2]
    split at h
    · simp at h
    rename_i h3
    rw [if_neg h3]
    exact ⟨i, x, _, ⟨hx, rfl, rfl, fun j z _ _ => rfl⟩, hid⟩
  · rename_i ho
    exact absurd h ho
/-- The statuses of a book. -/
def Bk.all (B : Bk) : List S41 := B.es.map B.stat
theorem Bk.Inv.few {B : Bk} {T : Nat} (h : B.Inv T) (hT : T ≤ 900) : ∀ x ∈ B.all, Few x := by
  intro x hx
  obtain ⟨y, hy, rfl⟩ := List.mem_map.1 hx
  obtain ⟨i, h1⟩ := List.getElem?_of_mem hy
  have q := (h.ent i y h1).len
  have : (shipL B.asg y.f1).length ≤ y.f1.length := List.length_filter_le _ _
  exact ⟨by show y.f1.length < 1000; omega, by show (shipL B.asg y.f1).length < 1000; omega⟩
theorem all_len (B : Bk) : B.all.length = B.es.length := by simp [Bk.all]
theorem Bk.Inv.allLen {B : Bk} {T : Nat} (h : B.Inv T) : B.all.length ≤ 64 := by rw [all_len]; exact h.es
theorem all_add (B : Bk) (o : S23) (n : Nat) : (⟨B.es ++ [⟨o, [], false⟩], n, B.asg⟩ : Bk).all = B.all ++ [⟨o, [], [], false⟩] := by
  simp [Bk.all, Bk.stat, shipL]
/-- What the law reads of a call without an error: which order's status may differ, and whether it does. -/
structure Diff (L L' : List S41) (id : Int) (i : Nat) : Prop where
  len : L'.length = L.length
  ilt : i < L.length
  same : ∀ j : Nat, j < L.length → j ≠ i → rd_T41 L' (j : Int) = rd_T41 L (j : Int)
  id : (rd_T41 L' (i : Int)).f0.f0 = id
theorem One.diff {B B' : Bk} {i : Nat} {y y' : S68} (h : One B B' i y y') : Diff B.all B'.all y.f0.f0 i ∧ rd_T41 B.all (i : Int) = B.stat y ∧ rd_T41 B'.all (i : Int) = B'.stat y' := by
  have hlt := (List.getElem?_eq_some_iff.1 h.at_).1
  have e1 : rd_T41 B.all (i : Int) = B.stat y := by
    unfold rd_T41 Bk.all
    rw [Int.toNat_natCast, List.getD_eq_getElem?_getD, List.getElem?_map, h.at_]
    rfl
  have e2 : rd_T41 B'.all (i : Int) = B'.stat y' := by
    unfold rd_T41 Bk.all
    rw [Int.toNat_natCast, List.getD_eq_getElem?_getD, List.getElem?_map, h.es, set_self h.at_]
    rfl
  refine ⟨⟨by rw [all_len, all_len, h.es, List.length_set], by rw [all_len]; exact hlt, fun j hj hne => ?_, by rw [e2]; exact h.id⟩, e1, e2⟩
  rw [all_len] at hj
  unfold rd_T41 Bk.all
  rw [Int.toNat_natCast, List.getD_eq_getElem?_getD, List.getD_eq_getElem?_getD, List.getElem?_map, List.getElem?_map, h.es, set_other (Ne.symm hne), List.getElem?_eq_getElem hj]
  exact h.far j _ hne (List.getElem?_eq_getElem hj)
/-- The number that the law looks for. -/
def lookId (B : Bk) (x : S35) : Int := if x.f0 = 3 ∨ x.f0 = 4 then ((B.Find x.f3).getD (0, false)).1 else x.f2
theorem do_one {B : Bk} {T : Nat} (hi : B.Inv T) {x : S35} (hk : x.f0 ≠ 0) (h : (B.do_ x).2 = 0) : ∃ i, Diff B.all (B.do_ x).1.all (lookId B x) i ∧ (x.f0 ≠ 1 → rd_T41 (B.do_ x).1.all (i : Int) ≠ rd_T41 B.all (i : Int)) := by
  unfold Bk.do_ at h ⊢
  unfold lookId
  rw [if_neg hk] at h ⊢
  split
  · rename_i c
    rw [if_pos c] at h
    obtain ⟨i, y, y', h1, h2⟩ := one_amend h
    obtain ⟨q1, q2, q3⟩ := h1.diff
    rw [if_neg (by omega)]
    exact ⟨i, h2 ▸ q1, fun hc => absurd c hc⟩
  rename_i c
  rw [if_neg c] at h
  split
  · rename_i c
    rw [if_pos c] at h
    obtain ⟨i, y, y', h1, h2, h3⟩ := one_assign hi h
    obtain ⟨q1, q2, q3⟩ := h1.diff
    rw [if_neg (by omega)]
    exact ⟨i, h2 ▸ q1, fun _ => by rw [q3, q2]; exact h3⟩
  rename_i c
  rw [if_neg c] at h
  split
  · rename_i c
    rw [if_pos c] at h
    obtain ⟨i, y, y', h1, h2, h3⟩ := one_release hi h
    obtain ⟨q1, q2, q3⟩ := h1.diff
    rw [if_pos (.inl c), h2]
    exact ⟨i, q1, fun _ => by rw [q3, q2]; exact h3⟩
  rename_i c
  rw [if_neg c] at h
  split
  · rename_i c
    rw [if_pos c] at h
    obtain ⟨i, y, y', h1, h2, h3⟩ := one_ship hi h
    obtain ⟨q1, q2, q3⟩ := h1.diff
    rw [if_pos (.inr c), h2]
    exact ⟨i, q1, fun _ => by rw [q3, q2]; exact h3⟩
  rename_i c
  rw [if_neg c] at h
  obtain ⟨i, y, y', h1, h2, h3⟩ := one_close hi h
  obtain ⟨q1, q2, q3⟩ := h1.diff
  rw [if_neg (by omega)]
  exact ⟨i, h2 ▸ q1, fun _ => by rw [q3, q2]; exact h3⟩
theorem Bk.Inv.findSome {B : Bk} {T : Nat} (h : B.Inv T) (roll : Int) : ∃ r, B.Find roll = some r := by
  unfold Bk.Find
  cases hf : B.asg roll with
  | none => exact ⟨_, rfl⟩
  | some p =>
    obtain ⟨k, s⟩ := p
    obtain ⟨i, x, rfl, hx, _⟩ := h.bwd _ _ _ hf
    have hlt := (List.getElem?_eq_some_iff.1 hx).1
    simp only
    rw [if_pos (by omega)]
    exact ⟨_, rfl⟩
/-! ### A region's act by its values' names (Mono) -/
open Mono
def puts (a : Act) : List (Tmp × Value) → Act
  | [] => a
  | (d, v) :: L => puts (a.put (some d) v) L
theorem act_ext {a b : Act} (h1 : a.defers = b.defers) (h2 : a.tmps.size = b.tmps.size) (h3 : ∀ s, a.tmps.getD s undef = b.tmps.getD s undef) : a = b := by
  obtain ⟨ta, da⟩ := a
  obtain ⟨tb, db⟩ := b
  obtain rfl : da = db := h1
  have : ta = tb := Array.ext h2 fun i hi hj => by
    have := h3 i
    simpa [hi, show i < tb.size from hj] using this
  rw [this]
theorem puts_of : ∀ (L : List (Tmp × Value)) {a0 a : Act}, a.defers = a0.defers → a.tmps.size = a0.tmps.size → (∀ s, s ∉ L.map (·.1) → a.tmps.getD s undef = a0.tmps.getD s undef) → (∀ d ∈ L.map (·.1), d < a0.tmps.size) → (∀ p ∈ L, a.tmps.getD p.1 undef = p.2) → a = puts a0 L
  | [], a0, a, h1, h2, h3, _, _ => act_ext h1 h2 fun s => h3 s (by simp)
  | (d, v) :: L, a0, a, h1, h2, h3, h4, h5 => by
    refine puts_of L (a0 := a0.put (some d) v) h1 (by simpa [Act.put] using h2) (fun s hs => ?_) (fun e he => by simpa [Act.put] using h4 e (List.mem_cons_of_mem _ he)) (fun p hp => h5 p (List.mem_cons_of_mem _ hp))
    by_cases e : d = s
    · subst e
      rw [put_getD _ _ _ (h4 d List.mem_cons_self)]
      exact h5 (d, v) List.mem_cons_self
    · rw [put_getD_ne _ _ _ _ e]
      exact h3 s (fun hm => (List.mem_cons.1 hm).elim (fun h => e h.symm) hs)
def okK (ops : Array Oper) (n : Nat) (K : List Nat) : Bool :=
  ((List.range ops.size).all fun i => match dstOf ops i with | some d => K.contains d | none => true) && K.all fun d => decide (d < n)
theorem toPuts {ops : Array Oper} {a0 a : Act} {n : Nat} (hf : Fits ops a0 a) (L : List (Tmp × Value)) (K : List Nat) (hn : a0.tmps.size = n) (hL : L.map (·.1) = K) (hK : okK ops n K = true) (hv : ∀ p ∈ L, a.tmps.getD p.1 undef = p.2) : a = puts a0 L := by
  subst hL
  simp only [okK, Bool.and_eq_true] at hK
  refine puts_of L hf.defers hf.size (fun s hs => hf.same s fun i hi => hs ?_) (fun d hd => by have := List.all_eq_true.1 hK.2 d hd; rw [hn]; simpa using this) hv
  have := List.all_eq_true.1 hK.1 i (List.mem_range.2 (dstOf_lt hi))
  rw [hi] at this
  simpa using this
/-- What is known of the values: each is the one that is named. -/
theorem known_eq {ops : Array Oper} {V : Nat → Value} {a : Act} {w : World} {i : Nat} (h : Known ops (fun i v _ => v = V i) a w i) {d : Tmp} (hd : dstOf ops i = some d) {v : Value} (hv : V i = v) : a.tmps.getD d undef = v := (h.out hd).trans hv
theorem C_prefix {α : Type} {d : Kd α} {W : World} {A : Option Addr} {xs ys : List α} (h : d.C W A (xs ++ ys).length (xs ++ ys)) : d.C W A xs.length xs := by
  obtain ⟨_, h2, h3⟩ := h
  rw [List.length_append] at h2
  refine ⟨rfl, by omega, fun hn => ?_⟩
  obtain ⟨ad, e, h4⟩ := h3 (by rw [List.length_append]; omega)
  exact ⟨ad, e, fun j p hp => h4 j p (by rw [List.getElem?_append_left (List.getElem?_eq_some_iff.1 hp).1]; exact hp)⟩
/-- How many statuses differ among the first kk: at most that of i does. -/
def chg (i : Nat) (d : Bool) (kk : Nat) : Int := if i < kk ∧ d = true then 1 else 0
theorem chg_zero (i : Nat) (d : Bool) : chg i d 0 = 0 := by unfold chg; rw [if_neg (fun h => absurd h.1 (Nat.not_lt_zero _))]
theorem chg_same {i : Nat} {d : Bool} {kk : Nat} (h : kk = i → d = false) : chg i d (kk + 1) = chg i d kk := by
  unfold chg
  by_cases e : kk = i
  · rw [if_neg (fun q => by rw [h e] at q; cases q.2), if_neg (fun q => by rw [h e] at q; cases q.2)]
  · by_cases c : i < kk ∧ d = true
    · rw [if_pos c, if_pos ⟨by omega, c.2⟩]
    · rw [if_neg c, if_neg (fun q => c ⟨by omega, q.2⟩)]
theorem rd41_mem {l : List S41} {k : Nat} (h : k < l.length) : rd_T41 l (k : Int) ∈ l := by
  unfold rd_T41
  rw [Int.toNat_natCast, List.getD_eq_getElem?_getD, List.getElem?_eq_getElem h]
  exact List.getElem_mem h

end Go.Proofs.Ythmhehfbepijgaa.Q
